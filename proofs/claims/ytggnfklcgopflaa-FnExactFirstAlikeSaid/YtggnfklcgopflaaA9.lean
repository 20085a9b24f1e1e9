/- Parts of the proof of FnExactFirstAlikeSaid: Bc Cf Cg Ci C_Ce K_Ce C_Cd K_Cd C_Zh K_Zh C_Zg K_Zg Zg Zh Zi C_Bk K_Bk C_Bh K_Bh Bg Bh Bk Cd Ce C_Ch K_Ch C_On K_On Om On. -/
import Derived.Test.YtggnfklcgopflaaA8
import Derived.Test.YtggnfklcgopflaaA4
import Derived.Test.YtggnfklcgopflaaA5
import Derived.Test.YtggnfklcgopflaaA6
import Derived.Test.YtggnfklcgopflaaA7
import Derived.Test.YtggnfklcgopflaaA3
import Derived.Test.YtggnfklcgopflaaProg
import Derived.KernelRfl
set_option linter.all false
/- Contracts: layers as tables, both sides; the sum of a layer. -/
namespace Go.Ab
open Go
set_option linter.unusedSimpArgs false
set_option linter.unusedVariables false
set_option maxRecDepth 20000

def lyrC (d : Nat) (k i j : Int) : Cell := if d = 0 then ⟨k, i, j⟩ else if d = 1 then ⟨i, k, j⟩ else ⟨i, j, k⟩
def dirA (d : Nat) : Int := if d = 0 then 1 else 0
def dirB (d : Nat) : Int := if d = 2 then 1 else 2
def lyrV (d : Nat) (k : Int) (cs : List Cell) (i j : Nat) : Int := if lyrC d k i j ∈ cs then 1 else 0
def lyrR (x y z : Int) (d : Nat) (k : Int) (cs : List Cell) (i : Nat) (n : Nat) : List Int := (List.range n).map fun j => lyrV d k cs i j
def lyrT (x y z : Int) (d : Nat) (k : Int) (cs : List Cell) (m : Nat) : List (List Int) := (List.range m).map fun i => lyrR x y z d k cs i (sideOf x y z (dirB d)).toNat
section
variable {x y z : Int} {d : Nat} {k : Int} {cs : List Cell}
theorem lyrR_succ {i n : Nat} : lyrR x y z d k cs i (n + 1) = lyrR x y z d k cs i n ++ [lyrV d k cs i n] := by simp [lyrR, List.range_succ]
theorem lyrR_len {i n : Nat} : (lyrR x y z d k cs i n).length = n := by simp [lyrR]
theorem lyrT_succ {m : Nat} : lyrT x y z d k cs (m + 1) = lyrT x y z d k cs m ++ [lyrR x y z d k cs m (sideOf x y z (dirB d)).toNat] := by simp [lyrT, List.range_succ]
theorem lyrT_len {m : Nat} : (lyrT x y z d k cs m).length = m := by simp [lyrT]
theorem lyr_row {i j : Int} (hd : d < 3) : (([LV.I 0, .I 0, .I 0].set d (.I k)).set (dirA d).toNat (.I i)).set (dirB d).toNat (.I j) = [.I (lyrC d k i j).a, .I (lyrC d k i j).b, .I (lyrC d k i j).c] := by
  rcases (show d = 0 ∨ d = 1 ∨ d = 2 by omega) with rfl | rfl | rfl <;> rfl
theorem litSum_append {l l' : List Int} : litSum (l ++ l') = litSum l + litSum l' := by
  induction l with
  | nil => simp [litSum]
  | cons a l ih => simp only [List.cons_append, litSum, ih]; omega
/-- The sum of all rows. -/
def tabSum (L : List (List Int)) : Int := litSum (L.map litSum)
theorem lyr_in (hS : Sides x y z) (hd : d < 3) (hk : 0 ≤ k ∧ k < sideOf x y z (d : Nat)) {c : Cell} : (c.inBox x y z ∧ c.at (d : Nat) = k) ↔ ∃ i j : Nat, (i < (sideOf x y z (dirA d)).toNat ∧ j < (sideOf x y z (dirB d)).toNat) ∧ c = lyrC d k i j := by
  obtain ⟨⟨_, _⟩, ⟨_, _⟩, ⟨_, _⟩⟩ := id hS
  obtain ⟨a, b, e⟩ := c
  rcases (show d = 0 ∨ d = 1 ∨ d = 2 by omega) with rfl | rfl | rfl
  · constructor
    · rintro ⟨⟨⟨h1, h2⟩, ⟨h3, h4⟩, h5, h6⟩, h7⟩
      simp only [Cell.at, sideOf, dirA, dirB] at *
      refine ⟨b.toNat, e.toNat, ⟨by simp; omega, by simp; omega⟩, ?_⟩
      simp only [lyrC, if_true, cell_eq]
      simp at h7
      omega
    · rintro ⟨i, j, ⟨h1, h2⟩, h3⟩
      simp [lyrC, cell_eq] at h3
      simp [sideOf, dirA, dirB] at h1 h2 hk
      obtain ⟨rfl, rfl, rfl⟩ := h3
      simp [Cell.inBox, Cell.at]
      omega
  · constructor
    · rintro ⟨⟨⟨h1, h2⟩, ⟨h3, h4⟩, h5, h6⟩, h7⟩
      simp only [Cell.at, sideOf, dirA, dirB] at *
      refine ⟨a.toNat, e.toNat, ⟨by simp; omega, by simp; omega⟩, ?_⟩
      simp [lyrC, cell_eq]
      simp at h7
      omega
    · rintro ⟨i, j, ⟨h1, h2⟩, h3⟩
      simp [lyrC, cell_eq] at h3
      simp [sideOf, dirA, dirB] at h1 h2 hk
      obtain ⟨rfl, rfl, rfl⟩ := h3
      simp [Cell.inBox, Cell.at]
      omega
  · constructor
    · rintro ⟨⟨⟨h1, h2⟩, ⟨h3, h4⟩, h5, h6⟩, h7⟩
      simp only [Cell.at, sideOf, dirA, dirB] at *
      refine ⟨a.toNat, b.toNat, ⟨by simp; omega, by simp; omega⟩, ?_⟩
      simp [lyrC, cell_eq]
      simp at h7
      omega
    · rintro ⟨i, j, ⟨h1, h2⟩, h3⟩
      simp [lyrC, cell_eq] at h3
      simp [sideOf, dirA, dirB] at h1 h2 hk
      obtain ⟨rfl, rfl, rfl⟩ := h3
      simp [Cell.inBox, Cell.at]
      omega
end
/-- What LayerOf answers. -/
def LyrOK (x y z : Int) (cs : List Cell) (d k : Int) : Prop := HeapOK x y z cs ∧ Dir d ∧ 0 ≤ k ∧ k < sideOf x y z d
noncomputable instance (x y z : Int) (cs : List Cell) (d k : Int) : Decidable (LyrOK x y z cs d k) := Classical.propDecidable _
noncomputable def lyrOf (x y z : Int) (cs : List Cell) (d k : Int) : List (List Int) := if LyrOK x y z cs d k then lyrT x y z d.toNat k cs (sideOf x y z (dirA d.toNat)).toNat else []
noncomputable def lyrB (x y z : Int) (cs : List Cell) (d k : Int) : Bool := decide (LyrOK x y z cs d k)
def TabG (M : Mem) (L : List (List Int)) (b : Bool) (v : LV) (N : Mem) : Prop := ∃ w, v = .tup [w, .B b] ∧ TabV N w L ∧ Pre M N
section
variable {x y z : Int} {t : Nat} {cs : List Cell} {M : Mem} (h : Tri M t 0 cs)
include h
theorem h_l2Layer {d : Nat} {k : Int} (hH : HeapOK x y z cs) (hd : d < 3) (hk : 0 ≤ k ∧ k < sideOf x y z (d : Nat)) : CallsR PG F.spec_l2Layer [.agg [.I x, .I y, .I z, .ref t 0 cs.length], .I d, .I k] M fun v N => ∃ u : Nat, v = .ref u 0 (lyrT x y z d k cs (sideOf x y z (dirA d)).toNat).length ∧ TabV N (.ref u 0 (lyrT x y z d k cs (sideOf x y z (dirA d)).toNat).length) (lyrT x y z d k cs (sideOf x y z (dirA d)).toNat) ∧ Pre M N := by
  have hS := hH.1
  have hlen := hH.len
  have hda : Dir (dirA d) := by unfold dirA Dir; split <;> omega
  have hdb : Dir (dirB d) := by unfold dirB Dir; split <;> omega
  have hrA : 0 ≤ dirA d ∧ dirA d < 3 := by unfold dirA; split <;> omega
  have hrB : 0 ≤ dirB d ∧ dirB d < 3 := by unfold dirB; split <;> omega
  have hlr := fun (i j : Int) => lyr_row (k := k) (i := i) (j := j) hd
  refine callsR_run K.spec_l2Layer rfl ?_
  simp (disch := omega) only [C.spec_l2Layer, ↓SXd, SXu, slBounds, ↓sop, ↓aop, ↓reduceIte, LV.cells, AOp.dst, LV.I, LV.B, LV.U, LV.S, LV.nil, Nat.reduceEqDiff, Nat.reduceAdd, Nat.reduceMul, Nat.reduceSub, Nat.reduceLeDiff, Nat.reduceBEq, Nat.reduceDiv, Nat.reduceMod, Int.reduceToNat, Int.reduceLT, Int.reduceLE, Int.reduceAdd, Int.reduceSub, Int.reduceMul, Int.reduceEq, Int.reduceNeg, reduceCtorEq, resV, resAll, ARes.ev, LV.flat, ite_true, ite_false, exists_eq_left', exists_eq_left, keyOf, implies_true, fillC, capOf]
  refine callK_of (h_l2Others hd) ?_
  change putK _ _ _ (.tup [.I (dirA d), .I (dirB d)]) _
  simp (disch := omega) only [↓SXd, SXu, slBounds, ↓sop, ↓aop, ↓reduceIte, LV.cells, AOp.dst, LV.I, LV.B, LV.U, LV.S, LV.nil, Nat.reduceEqDiff, Nat.reduceAdd, Nat.reduceMul, Nat.reduceSub, Nat.reduceLeDiff, Nat.reduceBEq, Nat.reduceDiv, Nat.reduceMod, Int.reduceToNat, Int.reduceLT, Int.reduceLE, Int.reduceAdd, Int.reduceSub, Int.reduceMul, Int.reduceEq, Int.reduceNeg, reduceCtorEq, resV, resAll, ARes.ev, LV.flat, ite_true, ite_false, exists_eq_left', exists_eq_left, keyOf, implies_true, fillC, capOf]
  have sA := sideOf_in hS (dirA d)
  have sB := sideOf_in hS (dirB d)
  refine ev_loop (fun m fr M' => ∃ (i : Nat) (u : Nat), i + m = (sideOf x y z (dirA d)).toNat ∧ Pre M M' ∧ M.length + 1 ≤ M'.length ∧ Live M' M.length (.row [.I x, .I y, .I z, .ref t 0 cs.length] true 0) ∧ TabO M' u (lyrT x y z d k cs i) M'.length M.length ∧ M.length < u ∧
    fr 1 = .I d ∧ fr 2 = .I k ∧ fr 3 = .ptr M.length 0 ∧ fr 7 = .I (dirA d) ∧ fr 8 = .I (dirB d) ∧ fr 9 = .ref u 0 (lyrT x y z d k cs i).length ∧ fr 10 = .I i) (sideOf x y z (dirA d)).toNat
    ⟨0, M.length + 1, by omega, Pre.app _ _, by simp, Live.new, TabO.nil (Live.newj (j := 1) rfl) (by omega), by omega, rfl, rfl, rfl, rfl, rfl, rfl, rfl⟩ ?_
  rintro m fr M' ⟨i, u, hi, hpre, hM', b3, hT, hu, f1, f2, f3, f7, f8, f9, f10⟩
  simp (disch := omega) only [f1, f2, f3, f7, f8, f9, f10, b3.cells, ↓SXd, SXu, slBounds, ↓sop, ↓aop, ↓reduceIte, LV.cells, AOp.dst, LV.I, LV.B, LV.U, LV.S, LV.nil, Nat.reduceEqDiff, Nat.reduceAdd, Nat.reduceMul, Nat.reduceSub, Nat.reduceLeDiff, Nat.reduceBEq, Nat.reduceDiv, Nat.reduceMod, Int.reduceToNat, Int.reduceLT, Int.reduceLE, Int.reduceAdd, Int.reduceSub, Int.reduceMul, Int.reduceEq, Int.reduceNeg, reduceCtorEq, resV, resAll, ARes.ev, LV.flat, ite_true, ite_false, exists_eq_left', exists_eq_left, keyOf, implies_true, fillC, capOf]
  refine callK_of (h_l2Long hda) ?_
  simp (disch := omega) only [f1, f2, f3, f7, f8, f9, f10, ↓SXd, SXu, slBounds, ↓sop, ↓aop, ↓reduceIte, LV.cells, AOp.dst, LV.I, LV.B, LV.U, LV.S, LV.nil, Nat.reduceEqDiff, Nat.reduceAdd, Nat.reduceMul, Nat.reduceSub, Nat.reduceLeDiff, Nat.reduceBEq, Nat.reduceDiv, Nat.reduceMod, Int.reduceToNat, Int.reduceLT, Int.reduceLE, Int.reduceAdd, Int.reduceSub, Int.reduceMul, Int.reduceEq, Int.reduceNeg, reduceCtorEq, resV, resAll, ARes.ev, LV.flat, ite_true, ite_false, exists_eq_left', exists_eq_left, keyOf, implies_true, fillC, capOf]
  refine condC_dec (fun hlt => ?_) (fun hlt => ?_)
  · have hi4 : i < 4 := by omega
    have hb3l := b3.lt
    simp (disch := omega) only [f1, f2, f3, f7, f8, f9, f10, ↓SXd, SXu, slBounds, ↓sop, ↓aop, ↓reduceIte, LV.cells, AOp.dst, LV.I, LV.B, LV.U, LV.S, LV.nil, Nat.reduceEqDiff, Nat.reduceAdd, Nat.reduceMul, Nat.reduceSub, Nat.reduceLeDiff, Nat.reduceBEq, Nat.reduceDiv, Nat.reduceMod, Int.reduceToNat, Int.reduceLT, Int.reduceLE, Int.reduceAdd, Int.reduceSub, Int.reduceMul, Int.reduceEq, Int.reduceNeg, reduceCtorEq, resV, resAll, ARes.ev, LV.flat, ite_true, ite_false, exists_eq_left', exists_eq_left, keyOf, implies_true, fillC, capOf]
    refine ev_loop (fun m2 fr N => ∃ (j r : Nat), j + m2 = (sideOf x y z (dirB d)).toNat ∧ Pre M' N ∧ M'.length ≤ r ∧ Live N r (.row (intL (lyrR x y z d k cs i j)) true 1) ∧
      fr 1 = .I d ∧ fr 2 = .I k ∧ fr 3 = .ptr M.length 0 ∧ fr 7 = .I (dirA d) ∧ fr 8 = .I (dirB d) ∧ fr 9 = .ref u 0 (lyrT x y z d k cs i).length ∧ fr 10 = .I i ∧ fr 11 = .ref r 0 (lyrR x y z d k cs i j).length ∧ fr 12 = .I j) (sideOf x y z (dirB d)).toNat
      ⟨0, M'.length, by omega, Pre.app _ _, Nat.le_refl _, Live.new, f1, f2, f3, f7, f8, f9, f10, rfl, rfl⟩ ?_
    clear f1 f2 f3 f7 f8 f9 f10
    rintro m2 fr N ⟨j, r, hj, hp, hr, br, f1, f2, f3, f7, f8, f9, f10, f11, f12⟩
    have c3 := b3.pre hp
    simp (disch := omega) only [f2, f3, f7, f8, f9, f10, f11, f12, c3.cells, ↓SXd, SXu, slBounds, ↓sop, ↓aop, ↓reduceIte, LV.cells, AOp.dst, LV.I, LV.B, LV.U, LV.S, LV.nil, Nat.reduceEqDiff, Nat.reduceAdd, Nat.reduceMul, Nat.reduceSub, Nat.reduceLeDiff, Nat.reduceBEq, Nat.reduceDiv, Nat.reduceMod, Int.reduceToNat, Int.reduceLT, Int.reduceLE, Int.reduceAdd, Int.reduceSub, Int.reduceMul, Int.reduceEq, Int.reduceNeg, reduceCtorEq, resV, resAll, ARes.ev, LV.flat, ite_true, ite_false, exists_eq_left', exists_eq_left, keyOf, implies_true, fillC, capOf]
    refine callK_of (h_l2Long hdb) ?_
    simp (disch := omega) only [f2, f3, f7, f8, f9, f10, f11, f12, ↓SXd, SXu, slBounds, ↓sop, ↓aop, ↓reduceIte, LV.cells, AOp.dst, LV.I, LV.B, LV.U, LV.S, LV.nil, Nat.reduceEqDiff, Nat.reduceAdd, Nat.reduceMul, Nat.reduceSub, Nat.reduceLeDiff, Nat.reduceBEq, Nat.reduceDiv, Nat.reduceMod, Int.reduceToNat, Int.reduceLT, Int.reduceLE, Int.reduceAdd, Int.reduceSub, Int.reduceMul, Int.reduceEq, Int.reduceNeg, reduceCtorEq, resV, resAll, ARes.ev, LV.flat, ite_true, ite_false, exists_eq_left', exists_eq_left, keyOf, implies_true, fillC, capOf]
    refine condC_dec (fun hlt2 => ?_) (fun hlt2 => ?_)
    · have hj4 : j < 4 := by omega
      have hc3l := c3.lt
      have hbrl := br.lt
      simp (disch := omega) only [f2, f3, f7, f8, f9, f10, f11, f12, splice, ↓SXd, SXu, slBounds, ↓sop, ↓aop, ↓reduceIte, LV.cells, AOp.dst, LV.I, LV.B, LV.U, LV.S, LV.nil, Nat.reduceEqDiff, Nat.reduceAdd, Nat.reduceMul, Nat.reduceSub, Nat.reduceLeDiff, Nat.reduceBEq, Nat.reduceDiv, Nat.reduceMod, Int.reduceToNat, Int.reduceLT, Int.reduceLE, Int.reduceAdd, Int.reduceSub, Int.reduceMul, Int.reduceEq, Int.reduceNeg, reduceCtorEq, resV, resAll, ARes.ev, LV.flat, ite_true, ite_false, exists_eq_left', exists_eq_left, keyOf, implies_true, fillC, capOf]
      have e13 : Live (N ++ [some (.row [.I 0, .I 0, .I 0] true 0)]) N.length (.row [.I 0, .I 0, .I 0] true 0) := Live.new
      have hpN : Pre N (N ++ [some (.row [.I 0, .I 0, .I 0] true 0)]) := Pre.app _ _
      have d3 := c3.pre hpN
      have dr := br.pre hpN
      have hpq := hp.trans hpN
      generalize hN1 : N ++ [some (Blk.row [.I 0, .I 0, .I 0] true 0)] = N1 at e13 hpN d3 dr hpq ⊢
      clear hN1
      have hNl := hp.1
      simp (disch := omega) only [f2, f3, f7, f8, f9, f10, f11, f12, f1, ↓SXd, SXu, slBounds, ↓sop, ↓aop, ↓reduceIte, LV.cells, AOp.dst, LV.I, LV.B, LV.U, LV.S, LV.nil, Nat.reduceEqDiff, Nat.reduceAdd, Nat.reduceMul, Nat.reduceSub, Nat.reduceLeDiff, Nat.reduceBEq, Nat.reduceDiv, Nat.reduceMod, Int.reduceToNat, Int.reduceLT, Int.reduceLE, Int.reduceAdd, Int.reduceSub, Int.reduceMul, Int.reduceEq, Int.reduceNeg, reduceCtorEq, resV, resAll, ARes.ev, LV.flat, ite_true, ite_false, exists_eq_left', exists_eq_left, keyOf, implies_true, fillC, capOf]
      refine memK_at e13 (show d < 3 by omega) fun N2 k1 k2 k3 => ?_
      have hP2 := pre_step hpq (by omega) (j := 0) k1 k3
      have d3 := live_step d3 (by omega) k3
      have dr := live_step dr (by omega) k3
      clear e13 hpN hpq k3
      simp (disch := omega) only [f2, f3, f7, f8, f9, f10, f11, f12, ↓SXd, SXu, slBounds, ↓sop, ↓aop, ↓reduceIte, LV.cells, AOp.dst, LV.I, LV.B, LV.U, LV.S, LV.nil, Nat.reduceEqDiff, Nat.reduceAdd, Nat.reduceMul, Nat.reduceSub, Nat.reduceLeDiff, Nat.reduceBEq, Nat.reduceDiv, Nat.reduceMod, Int.reduceToNat, Int.reduceLT, Int.reduceLE, Int.reduceAdd, Int.reduceSub, Int.reduceMul, Int.reduceEq, Int.reduceNeg, reduceCtorEq, resV, resAll, ARes.ev, LV.flat, ite_true, ite_false, exists_eq_left', exists_eq_left, keyOf, implies_true, fillC, capOf]
      refine memK_at k2 (show (dirA d).toNat < ([LV.I 0, .I 0, .I 0].set d (.I k)).length by simp; omega) fun N3 q1 q2 q3 => ?_
      have hP3 := pre_step hP2 (by omega) (j := 0) q1 q3
      have d3 := live_step d3 (by omega) q3
      have dr := live_step dr (by omega) q3
      clear k2 q3 hP2
      simp (disch := omega) only [f2, f3, f7, f8, f9, f10, f11, f12, ↓SXd, SXu, slBounds, ↓sop, ↓aop, ↓reduceIte, LV.cells, AOp.dst, LV.I, LV.B, LV.U, LV.S, LV.nil, Nat.reduceEqDiff, Nat.reduceAdd, Nat.reduceMul, Nat.reduceSub, Nat.reduceLeDiff, Nat.reduceBEq, Nat.reduceDiv, Nat.reduceMod, Int.reduceToNat, Int.reduceLT, Int.reduceLE, Int.reduceAdd, Int.reduceSub, Int.reduceMul, Int.reduceEq, Int.reduceNeg, reduceCtorEq, resV, resAll, ARes.ev, LV.flat, ite_true, ite_false, exists_eq_left', exists_eq_left, keyOf, implies_true, fillC, capOf]
      refine memK_at q2 (show (dirB d).toNat < (([LV.I 0, .I 0, .I 0].set d (.I k)).set (dirA d).toNat (.I i)).length by simp; omega) fun N4 w1 w2 w3 => ?_
      have hP4 := pre_step hP3 (by omega) (j := 0) w1 w3
      have d3 := live_step d3 (by omega) w3
      have dr := live_step dr (by omega) w3
      rw [hlr] at w2
      clear q2 w3 hP3
      simp (disch := omega) only [f2, f3, f7, f8, f9, f10, f11, f12, d3.cells, w2.cells, ↓SXd, SXu, slBounds, ↓sop, ↓aop, ↓reduceIte, LV.cells, AOp.dst, LV.I, LV.B, LV.U, LV.S, LV.nil, Nat.reduceEqDiff, Nat.reduceAdd, Nat.reduceMul, Nat.reduceSub, Nat.reduceLeDiff, Nat.reduceBEq, Nat.reduceDiv, Nat.reduceMod, Int.reduceToNat, Int.reduceLT, Int.reduceLE, Int.reduceAdd, Int.reduceSub, Int.reduceMul, Int.reduceEq, Int.reduceNeg, reduceCtorEq, resV, resAll, ARes.ev, LV.flat, ite_true, ite_false, exists_eq_left', exists_eq_left, keyOf, implies_true, fillC, capOf]
      refine callK_of (h_l2Has ((h.pre hpre).pre hP4) (by omega)) ?_
      have hlv : lyrV d k cs i j = if lyrC d k i j ∈ cs then 1 else 0 := rfl
      have hrs := lyrR_succ (x := x) (y := y) (z := z) (d := d) (k := k) (cs := cs) (i := i) (n := j)
      have hrl := lyrR_len (x := x) (y := y) (z := z) (d := d) (k := k) (cs := cs) (i := i) (n := j)
      by_cases hm : lyrC d k i j ∈ cs
      · rw [if_pos hm] at hlv
        rw [show decide ((⟨(lyrC d k i j).a, (lyrC d k i j).b, (lyrC d k i j).c⟩ : Cell) ∈ cs) = true from decide_eq_true hm]
        simp (disch := omega) only [f2, f3, f7, f8, f9, f10, f11, f12, ↓SXd, SXu, slBounds, ↓sop, ↓aop, ↓reduceIte, LV.cells, AOp.dst, LV.I, LV.B, LV.U, LV.S, LV.nil, Nat.reduceEqDiff, Nat.reduceAdd, Nat.reduceMul, Nat.reduceSub, Nat.reduceLeDiff, Nat.reduceBEq, Nat.reduceDiv, Nat.reduceMod, Int.reduceToNat, Int.reduceLT, Int.reduceLE, Int.reduceAdd, Int.reduceSub, Int.reduceMul, Int.reduceEq, Int.reduceNeg, reduceCtorEq, resV, resAll, ARes.ev, LV.flat, ite_true, ite_false, exists_eq_left', exists_eq_left, keyOf, implies_true, fillC, capOf]
        refine appendK_int dr (by omega) fun N5 l1 l2 l3 => ?_
        rw [hlv] at hrs
        rw [← hrs] at l2 ⊢
        simp (disch := omega) only [f2, f3, f7, f8, f9, f10, f11, f12, ↓SXd, SXu, slBounds, ↓sop, ↓aop, ↓reduceIte, LV.cells, AOp.dst, LV.I, LV.B, LV.U, LV.S, LV.nil, Nat.reduceEqDiff, Nat.reduceAdd, Nat.reduceMul, Nat.reduceSub, Nat.reduceLeDiff, Nat.reduceBEq, Nat.reduceDiv, Nat.reduceMod, Int.reduceToNat, Int.reduceLT, Int.reduceLE, Int.reduceAdd, Int.reduceSub, Int.reduceMul, Int.reduceEq, Int.reduceNeg, reduceCtorEq, resV, resAll, ARes.ev, LV.flat, ite_true, ite_false, exists_eq_left', exists_eq_left, keyOf, implies_true, fillC, capOf]
        exact ⟨m2 - 1, by omega, j + 1, N4.length + 1, by omega, pre_step hP4 (by omega) (j := 2) l1 l3, by have := hP4.1; omega, l2, f1, f2, f3, f7, f8, f9, f10, rfl, eqI (natI _)⟩
      · rw [if_neg hm] at hlv
        rw [show decide ((⟨(lyrC d k i j).a, (lyrC d k i j).b, (lyrC d k i j).c⟩ : Cell) ∈ cs) = false from decide_eq_false hm]
        simp (disch := omega) only [f2, f3, f7, f8, f9, f10, f11, f12, ↓SXd, SXu, slBounds, ↓sop, ↓aop, ↓reduceIte, LV.cells, AOp.dst, LV.I, LV.B, LV.U, LV.S, LV.nil, Nat.reduceEqDiff, Nat.reduceAdd, Nat.reduceMul, Nat.reduceSub, Nat.reduceLeDiff, Nat.reduceBEq, Nat.reduceDiv, Nat.reduceMod, Int.reduceToNat, Int.reduceLT, Int.reduceLE, Int.reduceAdd, Int.reduceSub, Int.reduceMul, Int.reduceEq, Int.reduceNeg, reduceCtorEq, resV, resAll, ARes.ev, LV.flat, ite_true, ite_false, exists_eq_left', exists_eq_left, keyOf, implies_true, fillC, capOf]
        refine appendK_int dr (by omega) fun N5 l1 l2 l3 => ?_
        rw [hlv] at hrs
        rw [← hrs] at l2 ⊢
        simp (disch := omega) only [f2, f3, f7, f8, f9, f10, f11, f12, ↓SXd, SXu, slBounds, ↓sop, ↓aop, ↓reduceIte, LV.cells, AOp.dst, LV.I, LV.B, LV.U, LV.S, LV.nil, Nat.reduceEqDiff, Nat.reduceAdd, Nat.reduceMul, Nat.reduceSub, Nat.reduceLeDiff, Nat.reduceBEq, Nat.reduceDiv, Nat.reduceMod, Int.reduceToNat, Int.reduceLT, Int.reduceLE, Int.reduceAdd, Int.reduceSub, Int.reduceMul, Int.reduceEq, Int.reduceNeg, reduceCtorEq, resV, resAll, ARes.ev, LV.flat, ite_true, ite_false, exists_eq_left', exists_eq_left, keyOf, implies_true, fillC, capOf]
        exact ⟨m2 - 1, by omega, j + 1, N4.length + 1, by omega, pre_step hP4 (by omega) (j := 2) l1 l3, by have := hP4.1; omega, l2, f1, f2, f3, f7, f8, f9, f10, rfl, eqI (natI _)⟩
    · have hjl : j = (sideOf x y z (dirB d)).toNat := by omega
      subst hjl
      have hts := lyrT_succ (x := x) (y := y) (z := z) (d := d) (k := k) (cs := cs) (m := i)
      have htl := lyrT_len (x := x) (y := y) (z := z) (d := d) (k := k) (cs := cs) (m := i)
      simp (disch := omega) only [f2, f3, f7, f8, f9, f10, f11, f12, ↓SXd, SXu, slBounds, ↓sop, ↓aop, ↓reduceIte, LV.cells, AOp.dst, LV.I, LV.B, LV.U, LV.S, LV.nil, Nat.reduceEqDiff, Nat.reduceAdd, Nat.reduceMul, Nat.reduceSub, Nat.reduceLeDiff, Nat.reduceBEq, Nat.reduceDiv, Nat.reduceMod, Int.reduceToNat, Int.reduceLT, Int.reduceLE, Int.reduceAdd, Int.reduceSub, Int.reduceMul, Int.reduceEq, Int.reduceNeg, reduceCtorEq, resV, resAll, ARes.ev, LV.flat, ite_true, ite_false, exists_eq_left', exists_eq_left, keyOf, implies_true, fillC, capOf]
      refine appendK_tab hT hp br hr (by omega) (hpre.trans hp) (by omega) fun u' Q hTab hM hu' hold hQl => ?_
      rw [← hts] at hTab ⊢
      simp (disch := omega) only [f2, f3, f7, f8, f9, f10, f11, f12, ↓SXd, SXu, slBounds, ↓sop, ↓aop, ↓reduceIte, LV.cells, AOp.dst, LV.I, LV.B, LV.U, LV.S, LV.nil, Nat.reduceEqDiff, Nat.reduceAdd, Nat.reduceMul, Nat.reduceSub, Nat.reduceLeDiff, Nat.reduceBEq, Nat.reduceDiv, Nat.reduceMod, Int.reduceToNat, Int.reduceLT, Int.reduceLE, Int.reduceAdd, Int.reduceSub, Int.reduceMul, Int.reduceEq, Int.reduceNeg, reduceCtorEq, resV, resAll, ARes.ev, LV.flat, ite_true, ite_false, exists_eq_left', exists_eq_left, keyOf, implies_true, fillC, capOf]
      have hc3l := c3.lt
      refine ⟨m - 1, by omega, i + 1, u', by omega, hM, by omega, ?_, hTab, by rcases hu' with e | e <;> omega, f1, f2, f3, f7, f8, rfl, eqI (natI _)⟩
      unfold Live at c3 ⊢
      rw [hold _ (by omega) hc3l]; exact c3
  · have hil : i = (sideOf x y z (dirA d)).toNat := by omega
    subst hil
    simp (disch := omega) only [f1, f2, f3, f7, f8, f9, f10, ↓SXd, SXu, slBounds, ↓sop, ↓aop, ↓reduceIte, LV.cells, AOp.dst, LV.I, LV.B, LV.U, LV.S, LV.nil, Nat.reduceEqDiff, Nat.reduceAdd, Nat.reduceMul, Nat.reduceSub, Nat.reduceLeDiff, Nat.reduceBEq, Nat.reduceDiv, Nat.reduceMod, Int.reduceToNat, Int.reduceLT, Int.reduceLE, Int.reduceAdd, Int.reduceSub, Int.reduceMul, Int.reduceEq, Int.reduceNeg, reduceCtorEq, resV, resAll, ARes.ev, LV.flat, ite_true, ite_false, exists_eq_left', exists_eq_left, keyOf, implies_true, fillC, capOf]
    exact ⟨u, rfl, hT.v, hpre⟩
end
end Go.Ab

/- Sums of the rows and of the columns of a table; contract of the reference's. -/
namespace Go.Ab
open Go
set_option linter.unusedSimpArgs false
set_option linter.unusedVariables false
set_option maxRecDepth 20000

def Tab01 (n : Nat) (T : List (List Int)) : Prop := ∀ row ∈ T, row.length = n ∧ ∀ a ∈ row, a = 0 ∨ a = 1
def colsE (n : Nat) (T : List (List Int)) : List Int := (List.range n).map fun j => litSum (T.map fun row => row.getD j 0)
theorem colsE_len {n : Nat} {T : List (List Int)} : (colsE n T).length = n := by simp [colsE]
theorem colsE_snoc {n : Nat} {T : List (List Int)} {row : List Int} (h : row.length = n) : colsE n (T ++ [row]) = subR (colsE n T) (row.map fun a => -a) := by
  refine List.ext_getElem (by rw [subR_len (by simp [colsE_len, h])]; simp [colsE]) fun j h1 h2 => ?_
  have hj : j < row.length := by rw [colsE_len] at h1; omega
  simp only [colsE, subR, List.getElem_map, List.getElem_range, List.getElem_zipWith, List.map_append, List.map_cons, List.map_nil, litSum_snoc]
  simp only [List.getD_eq_getElem?_getD, List.getElem?_eq_getElem hj, Option.getD_some]
  omega
theorem colsE_cons {n : Nat} {T : List (List Int)} {row : List Int} (h : row.length = n) : subR (colsE n (row :: T)) row = colsE n T := by
  refine List.ext_getElem (by rw [subR_len (by simp [colsE_len, h])]; simp [colsE]) fun j h1 h2 => ?_
  have hj : j < row.length := by rw [colsE_len] at h2; omega
  simp only [colsE, subR, List.getElem_map, List.getElem_range, List.getElem_zipWith, List.map_cons, litSum]
  simp only [List.getD_eq_getElem?_getD, List.getElem?_eq_getElem hj, Option.getD_some]
  omega
theorem litSum_bits : ∀ {l : List Int}, (∀ a ∈ l, a = 0 ∨ a = 1) → 0 ≤ litSum l ∧ litSum l ≤ l.length
  | [], _ => by simp [litSum]
  | a :: l, h => by
    have h1 := litSum_bits fun b hb => h b (List.mem_cons_of_mem a hb)
    have h2 := h a (by simp)
    simp only [litSum, List.length_cons]
    omega
theorem colsE_bound {n : Nat} {T : List (List Int)} (hT : Tab01 n T) : ∀ a ∈ colsE n T, 0 ≤ a ∧ a ≤ T.length := by
  intro a ha
  obtain ⟨j, hj, rfl⟩ := List.mem_map.1 ha
  have := litSum_bits (l := T.map fun row => row.getD j 0) fun b hb => by
    obtain ⟨row, h1, rfl⟩ := List.mem_map.1 hb
    have h2 := hT row h1
    exact h2.2 _ (getD_mem' (by rw [h2.1]; exact List.mem_range.1 hj))
  rw [List.length_map] at this
  exact this
theorem rowsL_mem : ∀ {l : List Int}, (∀ a ∈ l, a = 0 ∨ a = 1) → l ∈ rowsL l.length (litSum l)
  | [], _ => by simp [rowsL, litSum]
  | a :: l, h => by
    have h1 := rowsL_mem fun b hb => h b (List.mem_cons_of_mem a hb)
    have h2 := litSum_bits fun b hb => h b (List.mem_cons_of_mem a hb)
    simp only [litSum, List.length_cons]
    rw [rowsL_succ]
    rcases h a (by simp) with rfl | rfl
    · rw [Int.zero_add, if_pos h2.1]
      exact List.mem_append_left _ (List.mem_map.2 ⟨l, h1, rfl⟩)
    · rw [if_pos (show 1 ≤ 1 + litSum l by omega), show 1 + litSum l - 1 = litSum l by omega]
      exact List.mem_append_right _ (List.mem_map.2 ⟨l, h1, rfl⟩)
/-- A table is one of those with its sums. -/
theorem tabsL_self {n : Nat} : ∀ {T : List (List Int)}, Tab01 n T → T ∈ tabsL (T.map litSum) (colsE n T)
  | [], _ => by
    have : (colsE n []).all (fun v => decide (v = 0)) = true := by
      rw [List.all_eq_true]
      intro a ha
      obtain ⟨j, hj, rfl⟩ := List.mem_map.1 ha
      exact decide_eq_true rfl
    simp only [List.map_nil, tabsL]
    rw [if_pos this]; simp
  | row :: T, h => by
    have hr := h row (by simp)
    have hT : Tab01 n T := fun q hq => h q (List.mem_cons_of_mem _ hq)
    have hc := colsE_cons (T := T) hr.1
    have ih := tabsL_self hT
    simp only [List.map_cons, tabsL]
    refine List.mem_flatMap.2 ⟨row, by rw [colsE_len, ← hr.1]; exact rowsL_mem hr.2, ?_⟩
    have hok : okR (colsE n (row :: T)) row = true := by
      unfold okR
      rw [List.all_eq_true]
      intro v hv
      have : v ∈ subR (colsE n (row :: T)) row := hv
      rw [hc] at this
      exact decide_eq_true (colsE_bound hT v this).1
    rw [if_pos hok, hc]
    exact List.mem_map.2 ⟨T, ih, rfl⟩
theorem TabV.atR {N : Mem} {t n : Nat} {L : List (List Int)} {i : Nat} (h : TabV N (.ref t 0 n) L) (hi : i < L.length) : ∃ u : Nat, getCell N t i = some (.ref u 0 (L.getD i []).length) ∧ Ints N u 0 (L.getD i []) := by
  obtain ⟨t', u, h1, h2, h3⟩ := h.at hi
  cases h1
  exact ⟨u, h2, h3⟩
theorem h_l4Sums {n tl : Nat} {L : List (List Int)} {M : Mem} (hT : TabV M (.ref tl 0 L.length) L) (hB : Tab01 n L) (h0 : 0 < L.length) (hL : L.length ≤ 4) (hn : n ≤ 4) :
    CallsR PG F.spec_l4Sums [.ref tl 0 L.length] M fun v N => ∃ ur uc : Nat, v = .tup [.ref ur 0 L.length, .ref uc 0 n] ∧ Pre M N ∧ Live N ur (.row (intL (L.map litSum)) true 1) ∧ Live N uc (.row (intL (colsE n L)) true 1) := by
  obtain ⟨u0, hg0, hI0⟩ := hT.atR h0
  have hb0 := hB _ (getD_mem' (d := []) h0)
  rw [hb0.1] at hg0
  have h0' : (0 : Int) < ((L.length : Nat) : Int) := by omega
  refine callsR_run K.spec_l4Sums rfl ?_
  simp (disch := omega) only [C.spec_l4Sums, hg0, h0', ↓SXd, SXu, slBounds, ↓sop, ↓aop, ↓reduceIte, LV.cells, AOp.dst, LV.I, LV.B, LV.U, LV.S, LV.nil, Nat.reduceEqDiff, Nat.reduceAdd, Nat.reduceMul, Nat.reduceSub, Nat.reduceLeDiff, Nat.reduceBEq, Nat.reduceDiv, Nat.reduceMod, Int.reduceToNat, Int.reduceLT, Int.reduceLE, Int.reduceAdd, Int.reduceSub, Int.reduceMul, Int.reduceEq, Int.reduceNeg, reduceCtorEq, resV, resAll, ARes.ev, LV.flat, ite_true, ite_false, exists_eq_left', exists_eq_left, keyOf, implies_true, fillC, capOf]
  have hrep : colsE n [] = List.replicate n 0 := by
    refine List.ext_getElem (by simp [colsE]) fun j h1 h2 => ?_
    simp [colsE, litSum]
  have hfl : (List.replicate n [LV.val (Value.int IntKind.i64 0)]).flatten = intL (List.replicate n 0) := by
    unfold intL
    rw [List.map_replicate]
    clear hrep hg0 hB hn hb0
    induction n with
    | zero => rfl
    | succ n ih => rw [List.replicate_succ, List.flatten_cons, ih, List.replicate_succ]; rfl
  rw [hfl]
  refine ev_loop (fun m fr M' => ∃ i ur : Nat, i + m = L.length ∧ Pre M M' ∧ Live M' ur (.row (intL ((L.take i).map litSum)) true 1) ∧ (ur = M.length ∨ M.length + 2 ≤ ur) ∧ Live M' (M.length + 1) (.row (intL (colsE n (L.take i))) true 1) ∧
    fr 0 = .ref tl 0 L.length ∧ fr 4 = .ref ur 0 ((L.take i).map litSum).length ∧ fr 5 = .ref (M.length + 1) 0 n ∧ fr 6 = .I i) L.length
    ⟨0, M.length, by omega, Pre.app _ _, Live.new, .inl rfl, by rw [List.take_zero, hrep]; exact Live.newj (j := 1) rfl, rfl, rfl, rfl, rfl⟩ ?_
  clear hg0 hI0 hb0 h0' hfl hrep
  rintro m fr M' ⟨i, ur, hi, hpre, bR, hur, bC, f0, f4, f5, f6⟩
  simp (disch := omega) only [f0, f4, f5, f6, ↓SXd, SXu, slBounds, ↓sop, ↓aop, ↓reduceIte, LV.cells, AOp.dst, LV.I, LV.B, LV.U, LV.S, LV.nil, Nat.reduceEqDiff, Nat.reduceAdd, Nat.reduceMul, Nat.reduceSub, Nat.reduceLeDiff, Nat.reduceBEq, Nat.reduceDiv, Nat.reduceMod, Int.reduceToNat, Int.reduceLT, Int.reduceLE, Int.reduceAdd, Int.reduceSub, Int.reduceMul, Int.reduceEq, Int.reduceNeg, reduceCtorEq, resV, resAll, ARes.ev, LV.flat, ite_true, ite_false, exists_eq_left', exists_eq_left, keyOf, implies_true, fillC, capOf]
  refine condC_dec (fun hlt => ?_) (fun hlt => ?_)
  rotate_left
  · have : i = L.length := by omega
    subst this
    rw [List.take_length] at bR bC f4
    rw [List.length_map] at f4
    simp (disch := omega) only [f0, f4, f5, f6, ↓SXd, SXu, slBounds, ↓sop, ↓aop, ↓reduceIte, LV.cells, AOp.dst, LV.I, LV.B, LV.U, LV.S, LV.nil, Nat.reduceEqDiff, Nat.reduceAdd, Nat.reduceMul, Nat.reduceSub, Nat.reduceLeDiff, Nat.reduceBEq, Nat.reduceDiv, Nat.reduceMod, Int.reduceToNat, Int.reduceLT, Int.reduceLE, Int.reduceAdd, Int.reduceSub, Int.reduceMul, Int.reduceEq, Int.reduceNeg, reduceCtorEq, resV, resAll, ARes.ev, LV.flat, ite_true, ite_false, exists_eq_left', exists_eq_left, keyOf, implies_true, fillC, capOf]
    exact ⟨ur, M.length + 1, rfl, hpre, bR, bC⟩
  have hil : i < L.length := by omega
  have hts := take_snocL [] hil
  obtain ⟨w, hgw, hIw⟩ := hT.atR hil
  have hrow := hB _ (getD_mem' (d := []) hil)
  have htl : tl < M.length := by
    obtain ⟨u1, h1, _⟩ := hT.atR h0
    unfold getCell getRow at h1
    rcases Nat.lt_or_ge tl M.length with h | h
    · exact h
    · rw [List.getElem?_eq_none h] at h1; simp at h1
  have hBt : Tab01 n (L.take i) := fun r hr => hB r (List.mem_of_mem_take hr)
  have hcb := colsE_bound hBt
  have hcl := colsE_len (n := n) (T := L.take i)
  rw [List.length_take] at hcb
  generalize L.getD i [] = row at hts hgw hIw hrow
  obtain ⟨hrl, hrb⟩ := hrow
  have hstep : colsE n (L.take (i + 1)) = subR (colsE n (L.take i)) (row.map fun a => -a) := by rw [hts, colsE_snoc hrl]
  have hstep2 : (L.take (i + 1)).map litSum = (L.take i).map litSum ++ [litSum row] := by rw [hts, List.map_append]; rfl
  have hml : ((L.take i).map litSum).length = i := by rw [List.length_map, List.length_take]; omega
  have hrm : (row.map fun a => -a).length = (colsE n (L.take i)).length := by rw [List.length_map, hrl, hcl]
  generalize colsE n (L.take i) = cols at bC hcb hcl hstep hrm
  have hpl := hpre.1
  have hurl := bR.lt
  simp (disch := omega) only [f0, f4, f5, f6, ↓SXd, SXu, slBounds, ↓sop, ↓aop, ↓reduceIte, LV.cells, AOp.dst, LV.I, LV.B, LV.U, LV.S, LV.nil, Nat.reduceEqDiff, Nat.reduceAdd, Nat.reduceMul, Nat.reduceSub, Nat.reduceLeDiff, Nat.reduceBEq, Nat.reduceDiv, Nat.reduceMod, Int.reduceToNat, Int.reduceLT, Int.reduceLE, Int.reduceAdd, Int.reduceSub, Int.reduceMul, Int.reduceEq, Int.reduceNeg, reduceCtorEq, resV, resAll, ARes.ev, LV.flat, ite_true, ite_false, exists_eq_left', exists_eq_left, keyOf, implies_true, fillC, capOf]
  refine ev_loop (fun m2 fr M2 => ∃ k : Nat, k + m2 = n ∧ M2.length = M'.length ∧ (∀ q, q ≠ M.length + 1 → q < M'.length → M2[q]? = M'[q]?) ∧ Live M2 (M.length + 1) (.row (intL (leftK cols (row.map fun a => -a) k)) true 1) ∧
    fr 0 = .ref tl 0 L.length ∧ fr 4 = .ref ur 0 ((L.take i).map litSum).length ∧ fr 5 = .ref (M.length + 1) 0 n ∧ fr 6 = .I i ∧ fr 7 = .I (litSum (row.take k)) ∧ fr 8 = .I k) n
    ⟨0, by omega, rfl, fun _ _ _ => rfl, by rw [leftK_zero]; exact bC, f0, f4, f5, f6, rfl, rfl⟩ ?_
  clear f0 f4 f5 f6 bC hlt
  rintro m2 fr M2 ⟨k, hk, hl2, hk2, bC, f0, f4, f5, f6, f7, f8⟩
  have hpre2 : Pre M M2 := ⟨by omega, fun q hq => by rw [hk2 q (by omega) (by omega)]; exact hpre.2 q hq⟩
  have hgw2 : getCell M2 tl i = some (.ref w 0 row.length) := by
    unfold getCell getRow at hgw ⊢
    rw [hpre2.2 tl htl]; exact hgw
  simp (disch := omega) only [f0, f4, f5, f6, f7, f8, hgw2, Nat.mul_one, Nat.zero_add, ↓SXd, SXu, slBounds, ↓sop, ↓aop, ↓reduceIte, LV.cells, AOp.dst, LV.I, LV.B, LV.U, LV.S, LV.nil, Nat.reduceEqDiff, Nat.reduceAdd, Nat.reduceMul, Nat.reduceSub, Nat.reduceLeDiff, Nat.reduceBEq, Nat.reduceDiv, Nat.reduceMod, Int.reduceToNat, Int.reduceLT, Int.reduceLE, Int.reduceAdd, Int.reduceSub, Int.reduceMul, Int.reduceEq, Int.reduceNeg, reduceCtorEq, resV, resAll, ARes.ev, LV.flat, ite_true, ite_false, exists_eq_left', exists_eq_left, keyOf, implies_true, fillC, capOf]
  refine condC_dec (fun hlt => ?_) (fun hlt => ?_)
  · have hkn : k < n := by omega
    have hkr : k < row.length := by omega
    have hIw2 : Ints M2 w 0 row := hIw.pre hpre2
    have hgr := Ints.get hIw2 hkr
    rw [Nat.zero_add] at hgr
    have hgc := Ints.get bC.has (k := k) (by rw [leftK_len hrm (by omega)]; omega)
    rw [Nat.zero_add, leftK_get hrm (by omega)] at hgc
    have hls := leftK_succ hrm (k := k) (by omega)
    have hneg : (row.map fun a => -a).getD k 0 = - row.getD k 0 := by
      simp only [List.getD_eq_getElem?_getD, List.getElem?_map, List.getElem?_eq_getElem hkr]; rfl
    rw [hneg] at hls
    have hcbk := hcb _ (getD_mem' (d := 0) (show k < cols.length by omega))
    have hrbk := hrb _ (getD_mem' (d := 0) hkr)
    have hsb := litSum_bits (l := row.take k) fun a ha => hrb a (List.mem_of_mem_take ha)
    rw [List.length_take] at hsb
    have hst := litSum_take hkr
    generalize row.getD k 0 = b at hgr hls hrbk hst
    generalize cols.getD k 0 = a at hgc hls hcbk
    have hkn' : (k : Int) < (n : Nat) := by omega
    have hkr' : (k : Int) < (row.length : Nat) := by omega
    rw [show a - -b = a + b by omega] at hls
    simp (disch := omega) only [f0, f4, f5, f6, f7, f8, hgw2, hgr, hgc, hkn', hkr', Nat.mul_one, Nat.zero_add, ↓SXd, SXu, slBounds, ↓sop, ↓aop, ↓reduceIte, LV.cells, AOp.dst, LV.I, LV.B, LV.U, LV.S, LV.nil, Nat.reduceEqDiff, Nat.reduceAdd, Nat.reduceMul, Nat.reduceSub, Nat.reduceLeDiff, Nat.reduceBEq, Nat.reduceDiv, Nat.reduceMod, Int.reduceToNat, Int.reduceLT, Int.reduceLE, Int.reduceAdd, Int.reduceSub, Int.reduceMul, Int.reduceEq, Int.reduceNeg, reduceCtorEq, resV, resAll, ARes.ev, LV.flat, ite_true, ite_false, exists_eq_left', exists_eq_left, keyOf, implies_true, fillC, capOf]
    refine memK_int bC (by rw [leftK_len hrm (by omega)]; omega) fun N3 k1 k3 k4 => ?_
    rw [← hls] at k3
    simp (disch := omega) only [f0, f4, f5, f6, f7, f8, ↓SXd, SXu, slBounds, ↓sop, ↓aop, ↓reduceIte, LV.cells, AOp.dst, LV.I, LV.B, LV.U, LV.S, LV.nil, Nat.reduceEqDiff, Nat.reduceAdd, Nat.reduceMul, Nat.reduceSub, Nat.reduceLeDiff, Nat.reduceBEq, Nat.reduceDiv, Nat.reduceMod, Int.reduceToNat, Int.reduceLT, Int.reduceLE, Int.reduceAdd, Int.reduceSub, Int.reduceMul, Int.reduceEq, Int.reduceNeg, reduceCtorEq, resV, resAll, ARes.ev, LV.flat, ite_true, ite_false, exists_eq_left', exists_eq_left, keyOf, implies_true, fillC, capOf]
    exact ⟨m2 - 1, by omega, k + 1, by omega, by omega, fun q q1 q2 => by rw [k4 q q1 (by omega)]; exact hk2 q q1 q2, k3, f0, f4, f5, f6, by rw [hst]; rfl, eqI (natI _)⟩
  · have : k = n := by omega
    subst this
    rw [← hcl, leftK_all hrm, ← hstep] at bC
    rw [List.take_of_length_le (by omega)] at f7
    have hsb := litSum_bits hrb
    have bR2 : Live M2 ur (.row (intL ((L.take i).map litSum)) true 1) := Live.at bR (hk2 ur (by omega) hurl)
    simp (disch := omega) only [f0, f4, f5, f6, f7, f8, ↓SXd, SXu, slBounds, ↓sop, ↓aop, ↓reduceIte, LV.cells, AOp.dst, LV.I, LV.B, LV.U, LV.S, LV.nil, Nat.reduceEqDiff, Nat.reduceAdd, Nat.reduceMul, Nat.reduceSub, Nat.reduceLeDiff, Nat.reduceBEq, Nat.reduceDiv, Nat.reduceMod, Int.reduceToNat, Int.reduceLT, Int.reduceLE, Int.reduceAdd, Int.reduceSub, Int.reduceMul, Int.reduceEq, Int.reduceNeg, reduceCtorEq, resV, resAll, ARes.ev, LV.flat, ite_true, ite_false, exists_eq_left', exists_eq_left, keyOf, implies_true, fillC, capOf]
    refine appendK_int bR2 (by omega) fun N' l1 l2 l3 => ?_
    rw [← hstep2] at l2
    simp (disch := omega) only [f0, f4, f5, f6, f7, f8, ↓SXd, SXu, slBounds, ↓sop, ↓aop, ↓reduceIte, LV.cells, AOp.dst, LV.I, LV.B, LV.U, LV.S, LV.nil, Nat.reduceEqDiff, Nat.reduceAdd, Nat.reduceMul, Nat.reduceSub, Nat.reduceLeDiff, Nat.reduceBEq, Nat.reduceDiv, Nat.reduceMod, Int.reduceToNat, Int.reduceLT, Int.reduceLE, Int.reduceAdd, Int.reduceSub, Int.reduceMul, Int.reduceEq, Int.reduceNeg, reduceCtorEq, resV, resAll, ARes.ev, LV.flat, ite_true, ite_false, exists_eq_left', exists_eq_left, keyOf, implies_true, fillC, capOf]
    refine ⟨m - 1, by omega, i + 1, M2.length + 1, by omega, ⟨by omega, fun q hq => by rw [l3 q (by omega) (by omega), hk2 q (by omega) (by omega)]; exact hpre.2 q hq⟩, l2, by omega, live_step bC (by omega) l3, f0, ?_, f5, eqI (natI _)⟩
    rw [hstep2, List.length_append]; rfl
end Go.Ab

/- The heap whose layers are the first tables: plain, and the reference's. -/
namespace Go.Ab
open Go
set_option linter.unusedSimpArgs false
set_option linter.unusedVariables false
set_option maxRecDepth 20000

section
variable (x y z : Int) (d : Nat) (cs : List Cell)
/-- A layer's table, and the first one with its sums. -/
def layT (k : Int) : List (List Int) := lyrT x y z d k cs (sideOf x y z (dirA d)).toNat
def layN : Nat := (sideOf x y z (dirB d)).toNat
def tabsOf (k : Int) : List (List (List Int)) := tabsL ((layT x y z d cs k).map litSum) (colsE (layN x y z d) (layT x y z d cs k))
def firstF (k : Int) : List (List Int) := (tabsOf x y z d cs k).getD 0 []
def alikeB (c : Cell) : Bool := decide (((firstF x y z d cs (c.at d)).getD (c.at (dirA d)).toNat []).getD (c.at (dirB d)).toNat 0 = 1)
end
def TwoOK (x y z : Int) (cs : List Cell) (a b : Int) : Prop := HeapOK x y z cs ∧ (0 ≤ a ∧ a ≤ 2) ∧ (0 ≤ b ∧ b ≤ 2) ∧ ¬ a = b
noncomputable instance (x y z : Int) (cs : List Cell) (a b : Int) : Decidable (TwoOK x y z cs a b) := Classical.propDecidable _
noncomputable def alikeCs (x y z : Int) (cs : List Cell) (a b : Int) : List Cell := pick x y z (alikeB x y z (3 - a - b).toNat cs)
section
variable {x y z : Int} {d : Nat} {cs : List Cell}
theorem layT_01 {k : Int} : Tab01 (layN x y z d) (layT x y z d cs k) := by
  intro row hr
  obtain ⟨i, hi, rfl⟩ := List.mem_map.1 hr
  refine ⟨lyrR_len, fun a ha => ?_⟩
  obtain ⟨j, hj, rfl⟩ := List.mem_map.1 ha
  unfold lyrV; split <;> simp
theorem layT_len {k : Int} : (layT x y z d cs k).length = (sideOf x y z (dirA d)).toNat := lyrT_len
theorem firstF_mem {k : Int} : firstF x y z d cs k ∈ tabsOf x y z d cs k := by
  have h := tabsL_self (layT_01 (x := x) (y := y) (z := z) (d := d) (cs := cs) (k := k))
  exact getD_mem' (List.length_pos_of_mem h)
theorem firstF_01 {k : Int} : (firstF x y z d cs k).length = (sideOf x y z (dirA d)).toNat ∧ Tab01 (layN x y z d) (firstF x y z d cs k) := by
  have h := tabsL_mem (n := layN x y z d) colsE_len (firstF_mem (x := x) (y := y) (z := z) (d := d) (cs := cs) (k := k))
  rw [List.length_map, layT_len] at h
  exact h
theorem lyr_at {k i j : Int} (hd : d < 3) : (lyrC d k i j).at d = k ∧ (lyrC d k i j).at (dirA d) = i ∧ (lyrC d k i j).at (dirB d) = j := by
  rcases (show d = 0 ∨ d = 1 ∨ d = 2 by omega) with rfl | rfl | rfl <;> simp [lyrC, dirA, dirB, Cell.at]
theorem lyr_of (hd : d < 3) (c : Cell) : c = lyrC d (c.at d) (c.at (dirA d)) (c.at (dirB d)) := by
  rcases (show d = 0 ∨ d = 1 ∨ d = 2 by omega) with rfl | rfl | rfl <;> simp [lyrC, dirA, dirB, Cell.at]
theorem lyr_box (hS : Sides x y z) (hd : d < 3) {c : Cell} (hc : c.inBox x y z) : (0 ≤ c.at d ∧ c.at d < sideOf x y z (d : Nat)) ∧ (0 ≤ c.at (dirA d) ∧ c.at (dirA d) < sideOf x y z (dirA d)) ∧ 0 ≤ c.at (dirB d) ∧ c.at (dirB d) < sideOf x y z (dirB d) := by
  obtain ⟨⟨_, _⟩, ⟨_, _⟩, ⟨_, _⟩⟩ := id hc
  rcases (show d = 0 ∨ d = 1 ∨ d = 2 by omega) with rfl | rfl | rfl <;> simp [dirA, dirB, Cell.at, sideOf] <;> omega
/-- The cells ahead of a place in the order layer, row, column. -/
def Ahead (d : Nat) (k i j : Int) (c : Cell) : Prop := c.at d < k ∨ c.at d = k ∧ (c.at (dirA d) < i ∨ c.at (dirA d) = i ∧ c.at (dirB d) < j)
theorem ahead_next (hd : d < 3) {k i j : Int} {c : Cell} : Ahead d k i (j + 1) c ↔ Ahead d k i j c ∨ c = lyrC d k i j := by
  unfold Ahead
  constructor
  · rintro (h | ⟨h, h2 | ⟨h2, h3⟩⟩)
    · exact .inl (.inl h)
    · exact .inl (.inr ⟨h, .inl h2⟩)
    · rcases (show c.at (dirB d) < j ∨ c.at (dirB d) = j by omega) with h4 | h4
      · exact .inl (.inr ⟨h, .inr ⟨h2, h4⟩⟩)
      · exact .inr (by rw [lyr_of hd c, h, h2, h4])
  · rintro ((h | ⟨h, h2 | ⟨h2, h3⟩⟩) | rfl)
    · exact .inl h
    · exact .inr ⟨h, .inl h2⟩
    · exact .inr ⟨h, .inr ⟨h2, by omega⟩⟩
    · obtain ⟨e1, e2, e3⟩ := lyr_at (k := k) (i := i) (j := j) hd
      exact .inr ⟨e1, .inr ⟨e2, by omega⟩⟩
theorem ahead_row (hS : Sides x y z) (hd : d < 3) {k i : Int} {c : Cell} (hc : c.inBox x y z) : Ahead d k i (sideOf x y z (dirB d)) c ↔ Ahead d k (i + 1) 0 c := by
  have := lyr_box hS hd hc
  unfold Ahead; omega
theorem ahead_lay (hS : Sides x y z) (hd : d < 3) {k : Int} {c : Cell} (hc : c.inBox x y z) : Ahead d k (sideOf x y z (dirA d)) 0 c ↔ Ahead d (k + 1) 0 0 c := by
  have := lyr_box hS hd hc
  unfold Ahead; omega
theorem ahead_zero (hS : Sides x y z) (hd : d < 3) {c : Cell} (hc : c.inBox x y z) : ¬ Ahead d 0 0 0 c := by
  have := lyr_box hS hd hc
  unfold Ahead; omega
theorem ahead_all (hS : Sides x y z) (hd : d < 3) {c : Cell} (hc : c.inBox x y z) : Ahead d (sideOf x y z (d : Nat)) 0 0 c := by
  have := lyr_box hS hd hc
  unfold Ahead; omega
end
theorem h_l4Third {a b : Int} {M : Mem} (ha : 0 ≤ a ∧ a ≤ 2) (hb : 0 ≤ b ∧ b ≤ 2) : CallsTo PG F.spec_l4Third [.I a, .I b] M (.I (3 - a - b)) M := by
  refine calls_run K.spec_l4Third rfl ?_
  simp (disch := omega) only [C.spec_l4Third, ↓SXd, SXu, slBounds, ↓sop, ↓aop, ↓reduceIte, LV.cells, AOp.dst, LV.I, LV.B, LV.U, LV.S, LV.nil, Nat.reduceEqDiff, Nat.reduceAdd, Nat.reduceMul, Nat.reduceSub, Nat.reduceLeDiff, Nat.reduceBEq, Nat.reduceDiv, Nat.reduceMod, Int.reduceToNat, Int.reduceLT, Int.reduceLE, Int.reduceAdd, Int.reduceSub, Int.reduceMul, Int.reduceEq, Int.reduceNeg, reduceCtorEq, resV, resAll, ARes.ev, LV.flat, ite_true, ite_false, exists_eq_left', exists_eq_left, keyOf, implies_true, fillC, capOf]
  exact cmp_drop0 rfl
theorem h_l4Two {x y z a b : Int} {t o : Nat} {cs : List Cell} {M : Mem} (h : Tri M t o cs) (hn : cs.length ≤ 1000000000) :
    CallsTo PG F.spec_l4Two [.agg [.I x, .I y, .I z, .ref t o cs.length], .I a, .I b] M (.B (decide (TwoOK x y z cs a b))) M := by
  refine calls_run K.spec_l4Two rfl ?_
  simp (disch := omega) only [C.spec_l4Two, ↓SXd, SXu, slBounds, ↓sop, ↓aop, ↓reduceIte, LV.cells, AOp.dst, LV.I, LV.B, LV.U, LV.S, LV.nil, Nat.reduceEqDiff, Nat.reduceAdd, Nat.reduceMul, Nat.reduceSub, Nat.reduceLeDiff, Nat.reduceBEq, Nat.reduceDiv, Nat.reduceMod, Int.reduceToNat, Int.reduceLT, Int.reduceLE, Int.reduceAdd, Int.reduceSub, Int.reduceMul, Int.reduceEq, Int.reduceNeg, reduceCtorEq, resV, resAll, ARes.ev, LV.flat, ite_true, ite_false, exists_eq_left', exists_eq_left, keyOf, implies_true, fillC, capOf]
  refine callK_of (h_l2Heap h.app hn) ?_
  simp (disch := omega) only [↓SXd, SXu, slBounds, ↓sop, ↓aop, ↓reduceIte, LV.cells, AOp.dst, LV.I, LV.B, LV.U, LV.S, LV.nil, Nat.reduceEqDiff, Nat.reduceAdd, Nat.reduceMul, Nat.reduceSub, Nat.reduceLeDiff, Nat.reduceBEq, Nat.reduceDiv, Nat.reduceMod, Int.reduceToNat, Int.reduceLT, Int.reduceLE, Int.reduceAdd, Int.reduceSub, Int.reduceMul, Int.reduceEq, Int.reduceNeg, reduceCtorEq, resV, resAll, ARes.ev, LV.flat, ite_true, ite_false, exists_eq_left', exists_eq_left, keyOf, implies_true, fillC, capOf]
  by_cases hH : HeapOK x y z cs
  · rw [decide_eq_true hH]
    simp (disch := omega) only [↓SXd, SXu, slBounds, ↓sop, ↓aop, ↓reduceIte, LV.cells, AOp.dst, LV.I, LV.B, LV.U, LV.S, LV.nil, Nat.reduceEqDiff, Nat.reduceAdd, Nat.reduceMul, Nat.reduceSub, Nat.reduceLeDiff, Nat.reduceBEq, Nat.reduceDiv, Nat.reduceMod, Int.reduceToNat, Int.reduceLT, Int.reduceLE, Int.reduceAdd, Int.reduceSub, Int.reduceMul, Int.reduceEq, Int.reduceNeg, reduceCtorEq, resV, resAll, ARes.ev, LV.flat, ite_true, ite_false, exists_eq_left', exists_eq_left, keyOf, implies_true, fillC, capOf]
    refine callK_of (h_l1In) ?_
    simp (disch := omega) only [↓SXd, SXu, slBounds, ↓sop, ↓aop, ↓reduceIte, LV.cells, AOp.dst, LV.I, LV.B, LV.U, LV.S, LV.nil, Nat.reduceEqDiff, Nat.reduceAdd, Nat.reduceMul, Nat.reduceSub, Nat.reduceLeDiff, Nat.reduceBEq, Nat.reduceDiv, Nat.reduceMod, Int.reduceToNat, Int.reduceLT, Int.reduceLE, Int.reduceAdd, Int.reduceSub, Int.reduceMul, Int.reduceEq, Int.reduceNeg, reduceCtorEq, resV, resAll, ARes.ev, LV.flat, ite_true, ite_false, exists_eq_left', exists_eq_left, keyOf, implies_true, fillC, capOf]
    by_cases ha : 0 ≤ a ∧ a ≤ 2
    · rw [decide_eq_true ha]
      simp (disch := omega) only [↓SXd, SXu, slBounds, ↓sop, ↓aop, ↓reduceIte, LV.cells, AOp.dst, LV.I, LV.B, LV.U, LV.S, LV.nil, Nat.reduceEqDiff, Nat.reduceAdd, Nat.reduceMul, Nat.reduceSub, Nat.reduceLeDiff, Nat.reduceBEq, Nat.reduceDiv, Nat.reduceMod, Int.reduceToNat, Int.reduceLT, Int.reduceLE, Int.reduceAdd, Int.reduceSub, Int.reduceMul, Int.reduceEq, Int.reduceNeg, reduceCtorEq, resV, resAll, ARes.ev, LV.flat, ite_true, ite_false, exists_eq_left', exists_eq_left, keyOf, implies_true, fillC, capOf]
      refine callK_of (h_l1In) ?_
      simp (disch := omega) only [↓SXd, SXu, slBounds, ↓sop, ↓aop, ↓reduceIte, LV.cells, AOp.dst, LV.I, LV.B, LV.U, LV.S, LV.nil, Nat.reduceEqDiff, Nat.reduceAdd, Nat.reduceMul, Nat.reduceSub, Nat.reduceLeDiff, Nat.reduceBEq, Nat.reduceDiv, Nat.reduceMod, Int.reduceToNat, Int.reduceLT, Int.reduceLE, Int.reduceAdd, Int.reduceSub, Int.reduceMul, Int.reduceEq, Int.reduceNeg, reduceCtorEq, resV, resAll, ARes.ev, LV.flat, ite_true, ite_false, exists_eq_left', exists_eq_left, keyOf, implies_true, fillC, capOf]
      by_cases hb : 0 ≤ b ∧ b ≤ 2
      · rw [decide_eq_true hb]
        simp (disch := omega) only [↓SXd, SXu, slBounds, ↓sop, ↓aop, ↓reduceIte, LV.cells, AOp.dst, LV.I, LV.B, LV.U, LV.S, LV.nil, Nat.reduceEqDiff, Nat.reduceAdd, Nat.reduceMul, Nat.reduceSub, Nat.reduceLeDiff, Nat.reduceBEq, Nat.reduceDiv, Nat.reduceMod, Int.reduceToNat, Int.reduceLT, Int.reduceLE, Int.reduceAdd, Int.reduceSub, Int.reduceMul, Int.reduceEq, Int.reduceNeg, reduceCtorEq, resV, resAll, ARes.ev, LV.flat, ite_true, ite_false, exists_eq_left', exists_eq_left, keyOf, implies_true, fillC, capOf]
        rw [show decide (TwoOK x y z cs a b) = decide (¬ a = b) by simp [TwoOK, hH, ha, hb]]
        rw [show decide (¬ a = b) = !decide (a = b) from decide_not]
        exact cmp_drop rfl
      · rw [decide_eq_false hb]
        simp (disch := omega) only [↓SXd, SXu, slBounds, ↓sop, ↓aop, ↓reduceIte, LV.cells, AOp.dst, LV.I, LV.B, LV.U, LV.S, LV.nil, Nat.reduceEqDiff, Nat.reduceAdd, Nat.reduceMul, Nat.reduceSub, Nat.reduceLeDiff, Nat.reduceBEq, Nat.reduceDiv, Nat.reduceMod, Int.reduceToNat, Int.reduceLT, Int.reduceLE, Int.reduceAdd, Int.reduceSub, Int.reduceMul, Int.reduceEq, Int.reduceNeg, reduceCtorEq, resV, resAll, ARes.ev, LV.flat, ite_true, ite_false, exists_eq_left', exists_eq_left, keyOf, implies_true, fillC, capOf]
        rw [show decide (TwoOK x y z cs a b) = false by simp only [decide_eq_false_iff_not]; exact fun h => hb h.2.2.1]
        exact cmp_drop rfl
    · rw [decide_eq_false ha]
      simp (disch := omega) only [↓SXd, SXu, slBounds, ↓sop, ↓aop, ↓reduceIte, LV.cells, AOp.dst, LV.I, LV.B, LV.U, LV.S, LV.nil, Nat.reduceEqDiff, Nat.reduceAdd, Nat.reduceMul, Nat.reduceSub, Nat.reduceLeDiff, Nat.reduceBEq, Nat.reduceDiv, Nat.reduceMod, Int.reduceToNat, Int.reduceLT, Int.reduceLE, Int.reduceAdd, Int.reduceSub, Int.reduceMul, Int.reduceEq, Int.reduceNeg, reduceCtorEq, resV, resAll, ARes.ev, LV.flat, ite_true, ite_false, exists_eq_left', exists_eq_left, keyOf, implies_true, fillC, capOf]
      rw [show decide (TwoOK x y z cs a b) = false by simp only [decide_eq_false_iff_not]; exact fun h => ha h.2.1]
      exact cmp_drop rfl
  · rw [decide_eq_false hH]
    simp (disch := omega) only [↓SXd, SXu, slBounds, ↓sop, ↓aop, ↓reduceIte, LV.cells, AOp.dst, LV.I, LV.B, LV.U, LV.S, LV.nil, Nat.reduceEqDiff, Nat.reduceAdd, Nat.reduceMul, Nat.reduceSub, Nat.reduceLeDiff, Nat.reduceBEq, Nat.reduceDiv, Nat.reduceMod, Int.reduceToNat, Int.reduceLT, Int.reduceLE, Int.reduceAdd, Int.reduceSub, Int.reduceMul, Int.reduceEq, Int.reduceNeg, reduceCtorEq, resV, resAll, ARes.ev, LV.flat, ite_true, ite_false, exists_eq_left', exists_eq_left, keyOf, implies_true, fillC, capOf]
    rw [show decide (TwoOK x y z cs a b) = false by simp only [decide_eq_false_iff_not]; exact fun h => hH h.1]
    exact cmp_drop rfl
end Go.Ab

/- Contracts: layers of the program. -/
namespace Go.Ab
open Go
set_option linter.unusedSimpArgs false
set_option linter.unusedVariables false
set_option maxRecDepth 20000

theorem sum_one {f : Nat → Int} {j0 : Nat} : ∀ n : Nat, litSum ((List.range n).map fun j => f j + if j = j0 then 1 else 0) = litSum ((List.range n).map f) + if j0 < n then 1 else 0
  | 0 => by simp [litSum]
  | n + 1 => by
    rw [List.range_succ, List.map_append, List.map_append, litSum_append, litSum_append, sum_one n]
    simp only [List.map_cons, List.map_nil, litSum]
    by_cases h1 : j0 < n
    · rw [if_pos h1, if_pos (show j0 < n + 1 by omega), if_neg (show ¬ n = j0 by omega)]; omega
    · by_cases h2 : n = j0
      · rw [if_neg h1, if_pos h2, if_pos (show j0 < n + 1 by omega)]; omega
      · rw [if_neg h1, if_neg h2, if_neg (show ¬ j0 < n + 1 by omega)]; omega
section
variable {x y z : Int} {d : Nat} {cs : List Cell} {k : Int} {c : Cell}
theorem lyrC_inj {i j i' j' : Int} (hd : d < 3) : lyrC d k i j = lyrC d k i' j' ↔ i = i' ∧ j = j' := by
  constructor
  · intro e
    have h1 := lyr_at (k := k) (i := i) (j := j) hd
    have h2 := lyr_at (k := k) (i := i') (j := j') hd
    rw [e] at h1
    exact ⟨h1.2.1.symm.trans h2.2.1, h1.2.2.symm.trans h2.2.2⟩
  · rintro ⟨rfl, rfl⟩; rfl
theorem lyrV_add {i j : Nat} (hc : c ∉ cs) : lyrV d k (cs ++ [c]) i j = lyrV d k cs i j + if lyrC d k i j = c then 1 else 0 := by
  unfold lyrV
  by_cases h1 : lyrC d k i j = c
  · rw [h1]; simp [hc]
  · by_cases h2 : lyrC d k i j ∈ cs <;> simp [h1, h2]
def rowsV (x y z : Int) (d : Nat) (cs : List Cell) (k : Int) : List Int := (layT x y z d cs k).map litSum
def colsV (x y z : Int) (d : Nat) (cs : List Cell) (k : Int) : List Int := colsE (layN x y z d) (layT x y z d cs k)
theorem rowsV_eq : rowsV x y z d cs k = (List.range (sideOf x y z (dirA d)).toNat).map fun i => litSum ((List.range (layN x y z d)).map fun j => lyrV d k cs i j) := by
  unfold rowsV layT lyrT
  rw [List.map_map]; rfl
theorem colsV_eq : colsV x y z d cs k = (List.range (layN x y z d)).map fun j => litSum ((List.range (sideOf x y z (dirA d)).toNat).map fun i => lyrV d k cs i j) := by
  unfold colsV colsE
  refine List.map_congr_left fun j hj => ?_
  unfold layT lyrT
  rw [List.map_map]
  congr 1
  refine List.map_congr_left fun i _ => ?_
  have hj' := List.mem_range.1 hj
  show (lyrR x y z d k cs i (layN x y z d)).getD j 0 = _
  unfold lyrR
  simp only [List.getD_eq_getElem?_getD, List.getElem?_map, List.getElem?_range hj', Option.map_some, Option.getD_some]
theorem set_one {n i0 : Nat} {f : Nat → Int} (h : i0 < n) : ((List.range n).map fun i => f i + if i = i0 then 1 else 0) = ((List.range n).map f).set i0 (((List.range n).map f).getD i0 0 + 1) := by
  have hg : ((List.range n).map f).getD i0 0 = f i0 := by simp only [List.getD_eq_getElem?_getD, List.getElem?_map, List.getElem?_range h, Option.map_some, Option.getD_some]
  rw [hg]
  refine List.ext_getElem (by simp) fun j h1 h2 => ?_
  simp only [List.getElem_map, List.getElem_range, List.getElem_set]
  by_cases e : i0 = j
  · subst e; simp
  · rw [if_neg e, if_neg (fun e' => e e'.symm)]; omega
theorem rowsV_add (hS : Sides x y z) (hd : d < 3) (hc : c ∉ cs) (hb : c.inBox x y z) (hk : c.at d = k) : rowsV x y z d (cs ++ [c]) k = (rowsV x y z d cs k).set (c.at (dirA d)).toNat ((rowsV x y z d cs k).getD (c.at (dirA d)).toNat 0 + 1) := by
  obtain ⟨h0, h1, h2⟩ := lyr_box hS hd hb
  have hce : c = lyrC d k ((c.at (dirA d)).toNat : Nat) ((c.at (dirB d)).toNat : Nat) := by
    have := lyr_of hd c
    rw [hk] at this
    rw [Int.toNat_of_nonneg h1.1, Int.toNat_of_nonneg h2.1]; exact this
  rw [rowsV_eq, rowsV_eq, ← set_one (by omega)]
  refine List.map_congr_left fun i _ => ?_
  have : (fun j => lyrV d k (cs ++ [c]) i j) = fun j : Nat => lyrV d k cs i j + if j = (c.at (dirB d)).toNat then (if i = (c.at (dirA d)).toNat then 1 else 0) else 0 := by
    funext j
    rw [lyrV_add hc]
    congr 1
    have he : lyrC d k i j = c ↔ (i = (c.at (dirA d)).toNat ∧ j = (c.at (dirB d)).toNat) := by
      constructor
      · intro e
        rw [hce, lyrC_inj hd] at e
        omega
      · rintro ⟨e1, e2⟩
        rw [e1, e2]; exact hce.symm
    simp only [he]
    by_cases e1 : i = (c.at (dirA d)).toNat <;> by_cases e2 : j = (c.at (dirB d)).toNat <;> simp [e1, e2]
  rw [this]
  by_cases e1 : i = (c.at (dirA d)).toNat
  · have hlt : (c.at (dirB d)).toNat < layN x y z d := by unfold layN; omega
    simp only [if_pos e1]
    rw [sum_one, if_pos hlt]
  · simp only [if_neg e1]
    simp
theorem colsV_add (hS : Sides x y z) (hd : d < 3) (hc : c ∉ cs) (hb : c.inBox x y z) (hk : c.at d = k) : colsV x y z d (cs ++ [c]) k = (colsV x y z d cs k).set (c.at (dirB d)).toNat ((colsV x y z d cs k).getD (c.at (dirB d)).toNat 0 + 1) := by
  obtain ⟨h0, h1, h2⟩ := lyr_box hS hd hb
  have hce : c = lyrC d k ((c.at (dirA d)).toNat : Nat) ((c.at (dirB d)).toNat : Nat) := by
    have := lyr_of hd c
    rw [hk] at this
    rw [Int.toNat_of_nonneg h1.1, Int.toNat_of_nonneg h2.1]; exact this
  rw [colsV_eq, colsV_eq, ← set_one (by unfold layN; omega)]
  refine List.map_congr_left fun j _ => ?_
  have : (fun i => lyrV d k (cs ++ [c]) i j) = fun i : Nat => lyrV d k cs i j + if i = (c.at (dirA d)).toNat then (if j = (c.at (dirB d)).toNat then 1 else 0) else 0 := by
    funext i
    rw [lyrV_add hc]
    congr 1
    have he : lyrC d k i j = c ↔ (i = (c.at (dirA d)).toNat ∧ j = (c.at (dirB d)).toNat) := by
      constructor
      · intro e
        rw [hce, lyrC_inj hd] at e
        omega
      · rintro ⟨e1, e2⟩
        rw [e1, e2]; exact hce.symm
    simp only [he]
    by_cases e1 : i = (c.at (dirA d)).toNat <;> by_cases e2 : j = (c.at (dirB d)).toNat <;> simp [e1, e2]
  rw [this]
  by_cases e1 : j = (c.at (dirB d)).toNat
  · have hlt : (c.at (dirA d)).toNat < (sideOf x y z (dirA d)).toNat := by omega
    simp only [if_pos e1]
    rw [sum_one, if_pos hlt]
  · simp only [if_neg e1]
    simp
theorem layT_off (hd : d < 3) (hk : ¬ c.at d = k) : layT x y z d (cs ++ [c]) k = layT x y z d cs k := by
  unfold layT lyrT lyrR
  refine List.map_congr_left fun i _ => List.map_congr_left fun j _ => ?_
  have hne : lyrC d k i j ≠ c := fun e => hk (by rw [← e]; exact (lyr_at hd).1)
  unfold lyrV
  by_cases h : lyrC d k i j ∈ cs <;> simp [h, hne]
end
theorem cellC_row {e : Int} {c : Cell} (he : Dir e) : [LV.I c.a, LV.I c.b, LV.I c.c][e.toNat]? = some (.I (c.at e)) := by
  rcases he with rfl | rfl | rfl <;> rfl
theorem sideB_row {e x y z : Int} (he : Dir e) : [LV.I x, LV.I y, LV.I z][e.toNat]? = some (.I (sideOf x y z e)) := by
  rcases he with rfl | rfl | rfl <;> rfl
theorem rep_ints (n : Nat) : (List.replicate n [LV.val (Value.int IntKind.i64 0)]).flatten = intL (List.replicate n 0) := by
  unfold intL
  rw [List.map_replicate]
  induction n with
  | zero => rfl
  | succ n ih => rw [List.replicate_succ, List.flatten_cons, ih, List.replicate_succ]; rfl
theorem rowsV_nil {x y z : Int} {d : Nat} {k : Int} : rowsV x y z d [] k = List.replicate (sideOf x y z (dirA d)).toNat 0 := by
  rw [rowsV_eq]
  refine List.ext_getElem (by simp) fun j h1 h2 => ?_
  simp only [List.getElem_map, List.getElem_range, List.getElem_replicate]
  have : (fun i : Nat => lyrV d k [] j i) = fun _ => 0 := by funext i; simp [lyrV]
  rw [this, List.map_const', litSum_zero]
theorem colsV_nil {x y z : Int} {d : Nat} {k : Int} : colsV x y z d [] k = List.replicate (sideOf x y z (dirB d)).toNat 0 := by
  rw [colsV_eq]
  refine List.ext_getElem (by simp [layN]) fun j h1 h2 => ?_
  simp only [List.getElem_map, List.getElem_range, List.getElem_replicate]
  have : (fun i : Nat => lyrV d k [] i j) = fun _ => 0 := by funext i; simp [lyrV]
  rw [this, List.map_const', litSum_zero]
theorem rowsV_len {x y z : Int} {d : Nat} {cs : List Cell} {k : Int} : (rowsV x y z d cs k).length = (sideOf x y z (dirA d)).toNat := by rw [rowsV_eq]; simp
theorem colsV_len {x y z : Int} {d : Nat} {cs : List Cell} {k : Int} : (colsV x y z d cs k).length = (sideOf x y z (dirB d)).toNat := by rw [colsV_eq]; simp [layN]
section
variable {x y z : Int} {t : Nat} {cs : List Cell} {M : Mem} (h : Tri M t 0 cs)
include h
theorem g_layer {d : Nat} {k : Int} (hH : HeapOK x y z cs) (hd : d < 3) (hk : 0 ≤ k ∧ k < sideOf x y z (d : Nat)) : CallsR PG F.impl_Heap_layer [.agg [.I x, .I y, .I z, .ref t 0 cs.length], .I d, .I k] M fun v N => ∃ (s : BitVec 64) (ur uc : Nat), v = .tup [.W s, .ref ur 0 (rowsV x y z d cs k).length, .ref uc 0 (colsV x y z d cs k).length] ∧ Pre M N ∧ Live N ur (.row (intL (rowsV x y z d cs k)) true 1) ∧ Live N uc (.row (intL (colsV x y z d cs k)) true 1) := by
  have hS := hH.1
  have hlen := hH.len
  have hda : Dir (dirA d) := by unfold dirA Dir; split <;> omega
  have hdb : Dir (dirB d) := by unfold dirB Dir; split <;> omega
  have hdd : Dir (d : Nat) := by unfold Dir; omega
  have hrA : 0 ≤ dirA d ∧ dirA d < 3 := by unfold dirA; split <;> omega
  have hrB : 0 ≤ dirB d ∧ dirB d < 3 := by unfold dirB; split <;> omega
  have sA := sideOf_in hS (dirA d)
  have sB := sideOf_in hS (dirB d)
  refine callsR_run K.impl_Heap_layer rfl ?_
  simp (disch := omega) only [C.impl_Heap_layer, ↓SXd, SXu, slBounds, ↓sop, ↓aop, ↓reduceIte, LV.cells, AOp.dst, LV.I, LV.B, LV.U, LV.S, LV.nil, Nat.reduceEqDiff, Nat.reduceAdd, Nat.reduceMul, Nat.reduceSub, Nat.reduceLeDiff, Nat.reduceBEq, Nat.reduceDiv, Nat.reduceMod, Int.reduceToNat, Int.reduceLT, Int.reduceLE, Int.reduceAdd, Int.reduceSub, Int.reduceMul, Int.reduceEq, Int.reduceNeg, reduceCtorEq, resV, resAll, ARes.ev, LV.flat, ite_true, ite_false, exists_eq_left', exists_eq_left, keyOf, implies_true, fillC, capOf]
  refine callK_of (g_others hd) ?_
  change putK _ _ _ (.tup [.I (dirA d), .I (dirB d)]) _
  have hsA := sideB_row (x := x) (y := y) (z := z) hda
  have hsB := sideB_row (x := x) (y := y) (z := z) hdb
  simp (disch := omega) only [↓SXd, SXu, slBounds, ↓sop, ↓aop, ↓reduceIte, LV.cells, AOp.dst, LV.I, LV.B, LV.U, LV.S, LV.nil, Nat.reduceEqDiff, Nat.reduceAdd, Nat.reduceMul, Nat.reduceSub, Nat.reduceLeDiff, Nat.reduceBEq, Nat.reduceDiv, Nat.reduceMod, Int.reduceToNat, Int.reduceLT, Int.reduceLE, Int.reduceAdd, Int.reduceSub, Int.reduceMul, Int.reduceEq, Int.reduceNeg, reduceCtorEq, resV, resAll, ARes.ev, LV.flat, ite_true, ite_false, exists_eq_left', exists_eq_left, keyOf, implies_true, fillC, capOf]
  refine callK_of (g_box) ?_
  simp (disch := omega) only [splice, hsA, hsB, ↓SXd, SXu, slBounds, ↓sop, ↓aop, ↓reduceIte, LV.cells, AOp.dst, LV.I, LV.B, LV.U, LV.S, LV.nil, Nat.reduceEqDiff, Nat.reduceAdd, Nat.reduceMul, Nat.reduceSub, Nat.reduceLeDiff, Nat.reduceBEq, Nat.reduceDiv, Nat.reduceMod, Int.reduceToNat, Int.reduceLT, Int.reduceLE, Int.reduceAdd, Int.reduceSub, Int.reduceMul, Int.reduceEq, Int.reduceNeg, reduceCtorEq, resV, resAll, ARes.ev, LV.flat, ite_true, ite_false, exists_eq_left', exists_eq_left, keyOf, implies_true, fillC, capOf]
  rw [rep_ints, rep_ints]
  refine ev_loop (fun m fr M' => ∃ (q : Nat) (s : BitVec 64), q + m = cs.length ∧ Pre M M' ∧ Live M' (M.length + 1) (.row [.I x, .I y, .I z] true 0) ∧ Live M' (M.length + 2) (.row (intL (rowsV x y z d (cs.take q) k)) true 1) ∧ Live M' (M.length + 3) (.row (intL (colsV x y z d (cs.take q) k)) true 1) ∧
    fr 1 = .I d ∧ fr 2 = .I k ∧ fr 9 = .I (dirA d) ∧ fr 10 = .I (dirB d) ∧ fr 11 = .ptr (M.length + 1) 0 ∧ fr 12 = .W s ∧ fr 13 = .ref (M.length + 2) 0 (sideOf x y z (dirA d)).toNat ∧ fr 14 = .ref (M.length + 3) 0 (sideOf x y z (dirB d)).toNat ∧ fr 33 = .ref t 0 cs.length ∧ fr 34 = .I cs.length ∧ fr 35 = .I q) cs.length
    ⟨0, 0#64, by omega, Pre.app _ _, Live.newj (j := 1) rfl, by rw [List.take_zero, rowsV_nil]; exact Live.newj (j := 2) rfl, by rw [List.take_zero, colsV_nil]; exact Live.newj (j := 3) rfl, rfl, rfl, rfl, rfl, rfl, rfl, rfl, rfl, rfl, rfl, rfl⟩ ?_
  rintro m fr M' ⟨q, s, hq, hpre, b11, bR, bC, f1, f2, f9, f10, f11, f12, f13, f14, f33, f34, f35⟩
  simp (disch := omega) only [f1, f2, f9, f10, f11, f12, f13, f14, f33, f34, f35, ↓SXd, SXu, slBounds, ↓sop, ↓aop, ↓reduceIte, LV.cells, AOp.dst, LV.I, LV.B, LV.U, LV.S, LV.nil, Nat.reduceEqDiff, Nat.reduceAdd, Nat.reduceMul, Nat.reduceSub, Nat.reduceLeDiff, Nat.reduceBEq, Nat.reduceDiv, Nat.reduceMod, Int.reduceToNat, Int.reduceLT, Int.reduceLE, Int.reduceAdd, Int.reduceSub, Int.reduceMul, Int.reduceEq, Int.reduceNeg, reduceCtorEq, resV, resAll, ARes.ev, LV.flat, ite_true, ite_false, exists_eq_left', exists_eq_left, keyOf, implies_true, fillC, capOf]
  refine condC_dec (fun hlt => ?_) (fun hlt => ?_)
  rotate_left
  · have : q = cs.length := by omega
    subst this
    rw [List.take_length] at bR bC
    simp (disch := omega) only [f1, f2, f9, f10, f11, f12, f13, f14, f33, f34, f35, ↓SXd, SXu, slBounds, ↓sop, ↓aop, ↓reduceIte, LV.cells, AOp.dst, LV.I, LV.B, LV.U, LV.S, LV.nil, Nat.reduceEqDiff, Nat.reduceAdd, Nat.reduceMul, Nat.reduceSub, Nat.reduceLeDiff, Nat.reduceBEq, Nat.reduceDiv, Nat.reduceMod, Int.reduceToNat, Int.reduceLT, Int.reduceLE, Int.reduceAdd, Int.reduceSub, Int.reduceMul, Int.reduceEq, Int.reduceNeg, reduceCtorEq, resV, resAll, ARes.ev, LV.flat, ite_true, ite_false, exists_eq_left', exists_eq_left, keyOf, implies_true, fillC, capOf]
    exact ⟨s, M.length + 2, M.length + 3, by rw [rowsV_len, colsV_len], hpre, bR, bC⟩
  have hql : q < cs.length := by omega
  have hts := take_snocL default hql
  have hcm := getD_mem' (d := default) hql
  have htr := Tri.get (h.pre hpre) hql
  rw [Nat.zero_add] at htr
  have hcb := hH.mem hcm
  have hnot : cs.getD q default ∉ cs.take q := by
    intro hm
    obtain ⟨i, hi, he⟩ := List.mem_iff_getElem.1 hm
    rw [List.getElem_take] at he
    simp only [List.getD_eq_getElem?_getD, List.getElem?_eq_getElem hql, Option.getD_some] at he
    rw [List.length_take] at hi
    have := List.pairwise_iff_getElem.1 hH.sorted i q (by omega) hql (by omega)
    rw [he] at this
    exact Cell.lt_irrefl _ this
  generalize cs.getD q default = c at hts htr hcb hnot hcm
  obtain ⟨l0, l1, l2⟩ := lyr_box hS hd hcb
  have hcD := cellC_row (c := c) hdd
  have hcA := cellC_row (c := c) hda
  have hcB := cellC_row (c := c) hdb
  rw [Int.toNat_natCast] at hcD
  have hb1l := b11.lt
  have hRl := bR.lt
  have hCl := bC.lt
  simp (disch := omega) only [f1, f2, f9, f10, f11, f12, f13, f14, f33, f34, f35, htr, Cell.row, ↓SXd, SXu, slBounds, ↓sop, ↓aop, ↓reduceIte, LV.cells, AOp.dst, LV.I, LV.B, LV.U, LV.S, LV.nil, Nat.reduceEqDiff, Nat.reduceAdd, Nat.reduceMul, Nat.reduceSub, Nat.reduceLeDiff, Nat.reduceBEq, Nat.reduceDiv, Nat.reduceMod, Int.reduceToNat, Int.reduceLT, Int.reduceLE, Int.reduceAdd, Int.reduceSub, Int.reduceMul, Int.reduceEq, Int.reduceNeg, reduceCtorEq, resV, resAll, ARes.ev, LV.flat, ite_true, ite_false, exists_eq_left', exists_eq_left, keyOf, implies_true, fillC, capOf]
  by_cases hck : c.at (d : Nat) = k
  · have hRa := rowsV_add (cs := cs.take q) hS hd hnot hcb hck
    have hCa := colsV_add (cs := cs.take q) hS hd hnot hcb hck
    rw [← hts] at hRa hCa
    obtain ⟨i0, hi0⟩ : ∃ i0 : Nat, c.at (dirA d) = i0 := ⟨(c.at (dirA d)).toNat, by omega⟩
    obtain ⟨j0, hj0⟩ : ∃ j0 : Nat, c.at (dirB d) = j0 := ⟨(c.at (dirB d)).toNat, by omega⟩
    rw [hi0] at hRa hcA l1
    rw [hj0] at hCa hcB l2
    rw [Int.toNat_natCast] at hRa hCa
    have hRl2 := rowsV_len (x := x) (y := y) (z := z) (d := d) (cs := cs.take q) (k := k)
    have hCl2 := colsV_len (x := x) (y := y) (z := z) (d := d) (cs := cs.take q) (k := k)
    have hgR := Ints.get bR.has (k := i0) (by omega)
    have hgC := Ints.get bC.has (k := j0) (by omega)
    rw [Nat.zero_add] at hgR hgC
    have hRb : 0 ≤ (rowsV x y z d (cs.take q) k).getD i0 0 ∧ (rowsV x y z d (cs.take q) k).getD i0 0 ≤ 4 := by
      have hm := getD_mem' (d := 0) (l := rowsV x y z d (cs.take q) k) (k := i0) (by omega)
      obtain ⟨row, r1, r2⟩ := List.mem_map.1 hm
      have r3 := layT_01 row r1
      have r4 := litSum_bits r3.2
      rw [← r2]
      unfold layN at r3
      omega
    have hCb : 0 ≤ (colsV x y z d (cs.take q) k).getD j0 0 ∧ (colsV x y z d (cs.take q) k).getD j0 0 ≤ 4 := by
      have hm := getD_mem' (d := 0) (l := colsV x y z d (cs.take q) k) (k := j0) (by omega)
      have r4 := colsE_bound layT_01 _ hm
      rw [layT_len] at r4
      omega
    obtain ⟨nB, hnB⟩ : ∃ nB : Nat, sideOf x y z (dirB d) = nB := ⟨(sideOf x y z (dirB d)).toNat, by omega⟩
    have hmul : ((i0 : Nat) : Int) * ((nB : Nat) : Int) = ((i0 * nB : Nat) : Int) := by rw [Int.natCast_mul]
    have hmb : i0 * nB ≤ 4 * 4 := Nat.mul_le_mul (by omega) (by omega)
    rw [hnB] at hsB l2
    generalize (rowsV x y z d (cs.take q) k).getD i0 0 = vR at hgR hRb hRa
    generalize (colsV x y z d (cs.take q) k).getD j0 0 = vC at hgC hCb hCa
    have hiA : (i0 : Int) < ((sideOf x y z (dirA d)).toNat : Nat) := by omega
    have hjB : (j0 : Int) < ((sideOf x y z (dirB d)).toNat : Nat) := by omega
    simp (disch := omega) only [f1, f2, f9, f10, f11, f12, f13, f14, f33, f34, f35, hsA, hsB, hcA, hcB, hcD, hck, b11.app.cell, hmul, Live.new.cell, getCell_app, hgR, hiA, Nat.mul_one, Nat.zero_add, ↓SXd, SXu, slBounds, ↓sop, ↓aop, ↓reduceIte, LV.cells, AOp.dst, LV.I, LV.B, LV.U, LV.S, LV.nil, Nat.reduceEqDiff, Nat.reduceAdd, Nat.reduceMul, Nat.reduceSub, Nat.reduceLeDiff, Nat.reduceBEq, Nat.reduceDiv, Nat.reduceMod, Int.reduceToNat, Int.reduceLT, Int.reduceLE, Int.reduceAdd, Int.reduceSub, Int.reduceMul, Int.reduceEq, Int.reduceNeg, reduceCtorEq, resV, resAll, ARes.ev, LV.flat, ite_true, ite_false, exists_eq_left', exists_eq_left, keyOf, implies_true, fillC, capOf]
    refine memK_int bR.app (by omega) fun N2 k1 k2 k3 => ?_
    simp only [List.length_append, List.length_singleton] at k1
    rw [← hRa] at k2
    have e16 := live_step (M := M' ++ [some (.row [.I c.a, .I c.b, .I c.c] true 0)]) (u := M'.length) Live.new (by omega) k3
    have hk2 : ∀ w, w ≠ M.length + 2 → w < M'.length → N2[w]? = M'[w]? := fun w w1 w2 => by rw [k3 w w1 (by simp; omega), List.getElem?_append_left w2]
    have bC2 : Live N2 (M.length + 3) _ := Live.at bC (hk2 _ (by omega) hCl)
    have hgC2 : getCell N2 (M.length + 3) j0 = some (.I vC) := by
      unfold getCell getRow at hgC ⊢
      rw [hk2 _ (by omega) hCl]; exact hgC
    simp (disch := omega) only [f1, f2, f9, f10, f11, f12, f13, f14, f33, f34, f35, e16.cell, hcB, hgC2, hjB, Nat.mul_one, Nat.zero_add, ↓SXd, SXu, slBounds, ↓sop, ↓aop, ↓reduceIte, LV.cells, AOp.dst, LV.I, LV.B, LV.U, LV.S, LV.nil, Nat.reduceEqDiff, Nat.reduceAdd, Nat.reduceMul, Nat.reduceSub, Nat.reduceLeDiff, Nat.reduceBEq, Nat.reduceDiv, Nat.reduceMod, Int.reduceToNat, Int.reduceLT, Int.reduceLE, Int.reduceAdd, Int.reduceSub, Int.reduceMul, Int.reduceEq, Int.reduceNeg, reduceCtorEq, resV, resAll, ARes.ev, LV.flat, ite_true, ite_false, exists_eq_left', exists_eq_left, keyOf, implies_true, fillC, capOf]
    refine memK_int bC2 (by omega) fun N3 l1 l2 l3 => ?_
    rw [← hCa] at l2
    have hk3 : ∀ w, w ≠ M.length + 2 → w ≠ M.length + 3 → w < M'.length → N3[w]? = M'[w]? := fun w w1 w2 w3 => by rw [l3 w w2 (by omega), hk2 w w1 w3]
    have hml := hpre.1
    simp (disch := omega) only [f1, f2, f9, f10, f11, f12, f13, f14, f33, f34, f35, ↓SXd, SXu, slBounds, ↓sop, ↓aop, ↓reduceIte, LV.cells, AOp.dst, LV.I, LV.B, LV.U, LV.S, LV.nil, Nat.reduceEqDiff, Nat.reduceAdd, Nat.reduceMul, Nat.reduceSub, Nat.reduceLeDiff, Nat.reduceBEq, Nat.reduceDiv, Nat.reduceMod, Int.reduceToNat, Int.reduceLT, Int.reduceLE, Int.reduceAdd, Int.reduceSub, Int.reduceMul, Int.reduceEq, Int.reduceNeg, reduceCtorEq, resV, resAll, ARes.ev, LV.flat, ite_true, ite_false, exists_eq_left', exists_eq_left, keyOf, implies_true, fillC, capOf]
    exact ⟨m - 1, by omega, q + 1, _, by omega, ⟨by omega, fun w hw => by rw [hk3 w (by omega) (by omega) (by omega)]; exact hpre.2 w hw⟩, Live.at b11 (hk3 _ (by omega) (by omega) hb1l), live_step k2 (by omega) l3, l2, f1, f2, f9, f10, f11, rfl, f13, f14, f33, f34, eqI (natI _)⟩
  · have hoff := layT_off (x := x) (y := y) (z := z) (cs := cs.take q) hd hck
    rw [← hts] at hoff
    simp (disch := omega) only [f1, f2, f9, f10, f11, f12, f13, f14, f33, f34, f35, hcD, hck, ↓SXd, SXu, slBounds, ↓sop, ↓aop, ↓reduceIte, LV.cells, AOp.dst, LV.I, LV.B, LV.U, LV.S, LV.nil, Nat.reduceEqDiff, Nat.reduceAdd, Nat.reduceMul, Nat.reduceSub, Nat.reduceLeDiff, Nat.reduceBEq, Nat.reduceDiv, Nat.reduceMod, Int.reduceToNat, Int.reduceLT, Int.reduceLE, Int.reduceAdd, Int.reduceSub, Int.reduceMul, Int.reduceEq, Int.reduceNeg, reduceCtorEq, resV, resAll, ARes.ev, LV.flat, ite_true, ite_false, exists_eq_left', exists_eq_left, keyOf, implies_true, fillC, capOf]
    exact ⟨m - 1, by omega, q + 1, s, by omega, hpre.app', b11.app, by unfold rowsV; rw [hoff]; exact bR.app, by unfold colsV; rw [hoff]; exact bC.app, f1, f2, f9, f10, f11, f12, f13, f14, f33, f34, eqI (natI _)⟩
end
end Go.Ab

/- The abstract code of some functions (written by a program of mine from the translation, by way of prepF). -/
namespace Go.Ab.C
open Go.Ab
def impl_tables : AFn :=
 ⟨3, 16, [],
 .seq (.ops [(none, .box 3 (.t 0)),
 (none, .box 5 (.t 2))])
 (.seq (.ops [(none, .mv 9 (.t 1)),
 (none, .len 10 (.t 9)),
 (none, .mv 11 (.t 1)),
 (none, .call (some 12) F.slices_Clone_Sint_int [(.t 11)]),
 (none, .alloc 6 [(.I 0)]),
 (none, .alloc 7 [.nil]),
 (none, .store 1 (.t 6) (.t 10)),
 (none, .store 1 (.t 7) (.t 12))])
 (.seq (.ops [(none, .alloc 8 [(.val .nilFunc)])])
 (.seq (.ops [(none, .mkf 13 F.impl_tables_1 [(.t 6), (.t 3), (.t 7), (.t 5), (.t 8)]),
 (none, .store 1 (.t 8) (.t 13))])
 (.ops [(none, .load1 14 (.t 8)),
 (none, .callV (some 15) (.t 14) [(.c (.I 0)), (.c (.I 0)), (.c (.U 0))])]))))⟩
def impl_firstTable : AFn :=
 ⟨2, 14, [.tmp 4, .tmp 5],
 .seq (.ops [(none, .mv 4 (.c (.U 0))),
 (none, .mv 5 (.c (.B false)))])
 (.seq (.ops [(none, .alloc 6 [(.U 0)]),
 (none, .alloc 7 [(.B false)]),
 (none, .store 1 (.t 6) (.c (.U 0))),
 (none, .store 1 (.t 7) (.c (.B false)))])
 (.seq (.ops [(none, .mv 8 (.t 0)),
 (none, .mv 9 (.t 1)),
 (none, .mkf 10 F.impl_firstTable_1 [(.t 6), (.t 7)]),
 (none, .call (some 11) F.impl_tables [(.t 8), (.t 9), (.t 10)])])
 (.seq (.draw [⟨(none, .load1 12 (.t 6)), [], []⟩,
 ⟨(none, .load1 13 (.t 7)), [], []⟩,
 ⟨(none, .mv 4 (.t 12)), [], []⟩,
 ⟨(none, .mv 5 (.t 13)), [], []⟩])
 (.ret))))⟩
def impl_firstTable_1 : AFn :=
 ⟨3, 6, [.tmp 4],
 .seq (.ops [(none, .mv 4 (.c (.B false)))])
 (.seq (.ops [(none, .mv 5 (.t 0)),
 (none, .store 1 (.t 1) (.t 5)),
 (none, .store 1 (.t 2) (.c (.B true)))])
 (.seq (.ops [(none, .mv 4 (.c (.B false)))])
 (.ret)))⟩
end Go.Ab.C

/- That the program has this code. -/
namespace Go.Ab.K
open Go Go.Ab
theorem impl_tables : prepF Go.Proofs.Try.prog F.impl_tables = some C.impl_tables := by kernel_rfl
theorem impl_firstTable : prepF Go.Proofs.Try.prog F.impl_firstTable = some C.impl_firstTable := by kernel_rfl
theorem impl_firstTable_1 : prepF Go.Proofs.Try.prog F.impl_firstTable_1 = some C.impl_firstTable_1 := by kernel_rfl
end Go.Ab.K

/- The abstract code of some functions (written by a program of mine from the translation, by way of prepF). -/
namespace Go.Ab.C
open Go.Ab
def impl_tables_1 : AFn :=
 ⟨8, 84, [.tmp 11],
 .seq (.ops [(none, .mv 11 (.c (.B false)))])
 (.seq (.seq (.ops [(none, .mv 13 (.t 0)),
 (none, .load1 14 (.t 3)),
 (none, .bin 15 .rem (.t 13) (.t 14)),
 (none, .bin 16 .eql (.t 15) (.c (.I 0)))])
 (.cond (.t 16) (.seq (.seq (.ops [(none, .mv 17 (.t 1)),
 (none, .bin 18 .gtr (.t 17) (.c (.I 0)))])
 (.cond (.t 18) (.seq (.ops [(none, .mv 11 (.c (.B true)))])
 (.ret))
 (.skip)))
 (.seq (.seq (.ops [(none, .mv 19 (.t 0)),
 (none, .load1 20 (.t 4)),
 (none, .len 21 (.t 20)),
 (none, .load1 22 (.t 3)),
 (none, .bin 23 .mul (.t 21) (.t 22)),
 (none, .bin 24 .eql (.t 19) (.t 23))])
 (.cond (.t 24) (.seq (.ops [(none, .load1 25 (.t 5)),
 (none, .call (some 26) F.slices_Max_Sint_int [(.t 25)]),
 (none, .bin 27 .gtr (.t 26) (.c (.I 0))),
 (none, .mv 28 (.t 27)),
 (some (28, false), .load1 29 (.t 6)),
 (some (28, false), .mv 30 (.t 2)),
 (some (28, false), .callV (some 31) (.t 29) [(.t 30)]),
 (none, .pick 32 (.t 28) (.c (.B true)) (.t 31)),
 (none, .mv 11 (.t 32))])
 (.ret))
 (.skip)))
 (.draw [⟨(none, .load1 33 (.t 4)), [], []⟩,
 ⟨(none, .mv 34 (.t 0)), [], []⟩,
 ⟨(none, .load1 35 (.t 3)), [], []⟩,
 ⟨(none, .bin 36 .quo (.t 34) (.t 35)), [], []⟩,
 ⟨(none, .idxS 37 1 (.t 33) (.t 36)), [], []⟩,
 ⟨(none, .load1 38 (.t 37)), [], []⟩,
 ⟨(none, .mv 1 (.t 38)), [], []⟩])))
 (.skip)))
 (.seq (.seq (.ops [(none, .load1 39 (.t 7)),
 (none, .mv 40 (.t 0)),
 (none, .bin 41 .add (.t 40) (.c (.I 1))),
 (none, .mv 42 (.t 1)),
 (none, .mv 43 (.t 2)),
 (none, .callV (some 44) (.t 39) [(.t 41), (.t 42), (.t 43)]),
 (none, .un 45 .not (.t 44))])
 (.cond (.t 45) (.seq (.ops [(none, .mv 11 (.c (.B false)))])
 (.ret))
 (.skip)))
 (.seq (.seq (.draw [⟨(none, .mv 46 (.t 1)), [], []⟩,
 ⟨(none, .bin 47 .eql (.t 46) (.c (.I 0))), [], []⟩,
 ⟨(none, .mv 48 (.t 47)), [], []⟩,
 ⟨(some (48, false), .load1 49 (.t 5)), [], []⟩,
 ⟨(some (48, false), .mv 50 (.t 0)), [], []⟩,
 ⟨(some (48, false), .load1 51 (.t 3)), [], []⟩,
 ⟨(some (48, false), .bin 52 .rem (.t 50) (.t 51)), [], []⟩,
 ⟨(some (48, false), .idxS 53 1 (.t 49) (.t 52)), [], []⟩,
 ⟨(some (48, false), .load1 54 (.t 53)), [], []⟩,
 ⟨(some (48, false), .bin 55 .eql (.t 54) (.c (.I 0))), [], []⟩,
 ⟨(none, .pick 56 (.t 48) (.c (.B true)) (.t 55)), [], []⟩])
 (.cond (.t 56) (.seq (.ops [(none, .mv 11 (.c (.B true)))])
 (.ret))
 (.skip)))
 (.seq (.draw [⟨(none, .load1 57 (.t 5)), [], []⟩,
 ⟨(none, .mv 58 (.t 0)), [], []⟩,
 ⟨(none, .load1 59 (.t 3)), [], []⟩,
 ⟨(none, .bin 60 .rem (.t 58) (.t 59)), [], []⟩,
 ⟨(none, .idxS 61 1 (.t 57) (.t 60)), [], []⟩,
 ⟨(none, .load1 62 (.t 61)), [], []⟩,
 ⟨(none, .bin 63 .sub (.t 62) (.c (.I 1))), [], []⟩,
 ⟨(none, .idxS 64 1 (.t 57) (.t 60)), [], []⟩,
 ⟨(none, .store 1 (.t 64) (.t 63)), [], []⟩])
 (.seq (.draw [⟨(none, .load1 65 (.t 7)), [], []⟩,
 ⟨(none, .mv 66 (.t 0)), [], []⟩,
 ⟨(none, .bin 67 .add (.t 66) (.c (.I 1))), [], []⟩,
 ⟨(none, .mv 68 (.t 1)), [], []⟩,
 ⟨(none, .bin 69 .sub (.t 68) (.c (.I 1))), [], []⟩,
 ⟨(none, .mv 70 (.t 2)), [], []⟩,
 ⟨(none, .mv 71 (.t 0)), [], []⟩,
 ⟨(none, .bin 72 .shl (.c (.U 1)) (.t 71)), [], []⟩,
 ⟨(none, .bin 73 .or (.t 70) (.t 72)), [], []⟩,
 ⟨(none, .callV (some 74) (.t 65) [(.t 67), (.t 69), (.t 73)]), [], []⟩,
 ⟨(none, .mv 12 (.t 74)), [], []⟩])
 (.seq (.draw [⟨(none, .load1 75 (.t 5)), [], []⟩,
 ⟨(none, .mv 76 (.t 0)), [], []⟩,
 ⟨(none, .load1 77 (.t 3)), [], []⟩,
 ⟨(none, .bin 78 .rem (.t 76) (.t 77)), [], []⟩,
 ⟨(none, .idxS 79 1 (.t 75) (.t 78)), [], []⟩,
 ⟨(none, .load1 80 (.t 79)), [], []⟩,
 ⟨(none, .bin 81 .add (.t 80) (.c (.I 1))), [], []⟩,
 ⟨(none, .idxS 82 1 (.t 75) (.t 78)), [], []⟩,
 ⟨(none, .store 1 (.t 82) (.t 81)), [], []⟩])
 (.seq (.ops [(none, .mv 83 (.t 12)),
 (none, .mv 11 (.t 83))])
 (.ret))))))))⟩
end Go.Ab.C

/- That the program has this code. -/
namespace Go.Ab.K
open Go Go.Ab
theorem impl_tables_1 : prepF Go.Proofs.Try.prog F.impl_tables_1 = some C.impl_tables_1 := by kernel_rfl
end Go.Ab.K

/- The abstract code of some functions (written by a program of mine from the translation, by way of prepF). -/
namespace Go.Ab.C
open Go.Ab
end Go.Ab.C

/- That the program has this code. -/
namespace Go.Ab.K
open Go Go.Ab
end Go.Ab.K

/- The abstract code of some functions (written by a program of mine from the translation, by way of prepF). -/
namespace Go.Ab.C
open Go.Ab
end Go.Ab.C

/- That the program has this code. -/
namespace Go.Ab.K
open Go Go.Ab
end Go.Ab.K

/- Contracts: the reference's search for packings. -/
namespace Go.Ab
open Go
set_option linter.unusedSimpArgs false
set_option linter.unusedVariables false
set_option maxRecDepth 20000

def FndRes (M : Mem) (q t1 : Nat) (P0 : List Int × Nat) (v : LV) (N : Mem) : Prop := ∃ t, v = .agg [.ref t 0 P0.1.length, .I P0.2] ∧ Live N t (.row (intL P0.1) true 1) ∧ (t = t1 ∨ t = q ∨ M.length ≤ t) ∧ Pre M N
section
variable {x y z : Int} {t o u : Nat} {cs : List Cell} {L : List (List Cell)} {once : Bool} (hA : AskOK x y z cs L)
include hA
end
end Go.Ab

/- Contracts: the reference's packings. -/
namespace Go.Ab
open Go
set_option linter.unusedSimpArgs false
set_option linter.unusedVariables false
set_option maxRecDepth 20000

/-- The cells of the pieces that a list lacks. -/
noncomputable def remTo (L : List (List Cell)) (xs : List Int) : Nat → Nat
  | 0 => 0
  | m + 1 => remTo L xs m + if (m : Int) ∈ xs then 0 else (L.getD m []).length
section
variable {x y z : Int} {cs : List Cell} {L : List (List Cell)} (hA : AskOK x y z cs L)
include hA
noncomputable def allPk (x y z : Int) (cs : List Cell) (L : List (List Cell)) : List (List Int) := packs x y z cs L 8 (startL x y z cs)
def FindRes (M : Mem) (P0 : List Int × Nat) (v : LV) (N : Mem) : Prop := ∃ t, v = .agg [.ref t 0 P0.1.length, .I P0.2] ∧ Live N t (.row (intL P0.1) true 1) ∧ M.length ≤ t ∧ Pre M N
end
noncomputable def countPk (x y z : Int) (cs : List Cell) (L : List (List Cell)) : Int × Bool := if AskOK x y z cs L then (((allPk x y z cs L).length : Nat), true) else (0, false)
end Go.Ab

/- Plain: what the program keeps while it packs. -/
namespace Go.Ab
open Go
set_option linter.unusedSimpArgs false
set_option linter.unusedVariables false

def freeX (y z : Int) (xs : List Int) (c : Cell) : Bool := decide (atL y z xs c = -2)
/-- The program's list has the numbers that are set. -/
def Agr (xs ys : List Int) : Prop := ys.length = xs.length ∧ ∀ k, k < xs.length → xs.getD k 0 ≠ -2 → ys.getD k 0 = xs.getD k 0
def UsedOK (n : Nat) (xs : List Int) (used : Nat) : Prop := used < 2 ^ n ∧ ∀ i, i < n → (used.testBit i = true ↔ (i : Int) ∈ xs)
/-- The first k places overwritten. -/
def overL (y z : Int) (ds : List Cell) (i : Int) (ys : List Int) : Nat → List Int
  | 0 => ys
  | k + 1 => if cellAt y z k ∈ ds then (overL y z ds i ys k).set k i else overL y z ds i ys k
section
variable {x y z : Int} {cs : List Cell} {L : List (List Cell)} {xs ys : List Int} {l : List Cell} {p : Cell}
def CubesOK (y z : Int) (x : Int) (cs : List Cell) (xs : List Int) : Prop := ∀ c, c.inBox x y z → c ∈ cs → atL y z xs c ≠ -2
end
theorem sel_app {once : Bool} {A B : List (List Int)} (h : once = true → A = []) : selP once (A ++ B) = selP once A ++ selP once B := by
  cases once with
  | false => rfl
  | true => rw [h rfl]; rfl
end Go.Ab

/- The abstract code of some functions (written by a program of mine from the translation, by way of prepF). -/
namespace Go.Ab.C
open Go.Ab
def slices_Max_Sint_int : AFn :=
 ⟨1, 25, [.tmp 2],
 .seq (.ops [(none, .mv 2 (.c (.I 0)))])
 (.seq (.seq (.ops [(none, .mv 5 (.t 0)),
 (none, .len 6 (.t 5)),
 (none, .bin 7 .lss (.t 6) (.c (.I 1)))])
 (.cond (.t 7) (.ops [(none, .bad),
 (none, .bad)])
 (.skip)))
 (.seq (.ops [(none, .mv 9 (.t 0)),
 (none, .idxS 10 1 (.t 9) (.c (.I 0))),
 (none, .load1 11 (.t 10)),
 (none, .mv 3 (.t 11))])
 (.seq (.seq (.ops [(none, .mv 4 (.c (.I 1)))])
 (.block 0 (.loop (.seq (.seq (.ops [(none, .mv 12 (.t 4)),
 (none, .mv 13 (.t 0)),
 (none, .len 14 (.t 13)),
 (none, .bin 15 .lss (.t 12) (.t 14))])
 (.cond (.t 15) (.skip)
 (.exit 0)))
 (.seq (.block 1 (.ops [(none, .mv 18 (.t 3)),
 (none, .mv 19 (.t 0)),
 (none, .mv 20 (.t 4)),
 (none, .idxS 21 1 (.t 19) (.t 20)),
 (none, .load1 22 (.t 21)),
 (none, .mm 23 true [(.t 18), (.t 22)]),
 (none, .mv 3 (.t 23))]))
 (.ops [(none, .mv 16 (.t 4)),
 (none, .bin 17 .add (.t 16) (.c (.I 1))),
 (none, .mv 4 (.t 17))]))))))
 (.seq (.ops [(none, .mv 24 (.t 3)),
 (none, .mv 2 (.t 24))])
 (.ret)))))⟩
end Go.Ab.C

/- That the program has this code. -/
namespace Go.Ab.K
open Go Go.Ab
theorem slices_Max_Sint_int : prepF Go.Proofs.Try.prog F.slices_Max_Sint_int = some C.slices_Max_Sint_int := by kernel_rfl
end Go.Ab.K

/- The abstract code of some functions (written by a program of mine from the translation, by way of prepF). -/
namespace Go.Ab.C
open Go.Ab
end Go.Ab.C

/- That the program has this code. -/
namespace Go.Ab.K
open Go Go.Ab
end Go.Ab.K

/- Plain: what one sees of lines of columns, levels, orders by sights. -/
namespace Go.Ab
open Go
set_option linter.unusedSimpArgs false
set_option linter.unusedVariables false
set_option maxRecDepth 20000

/-- The greatest height so far, and how many columns one has seen. -/
def seeStep (s : Int × Int) (h : Int) : Int × Int := if h > s.1 then (h, s.2 + 1) else s
def seen (l : List Int) : Int × Int := l.foldl seeStep (0, 0)
/-- The greatest number of a list, at least 0. -/
def mostL (l : List Int) : Int := l.foldl max 0
theorem most_le {n : Int} : ∀ (l : List Int) (s : Int), l.foldl max s ≤ n ↔ s ≤ n ∧ ∀ a ∈ l, a ≤ n
  | [], s => by simp
  | a :: l, s => by
    rw [List.foldl_cons, most_le l]
    simp only [List.mem_cons, forall_eq_or_imp]
    constructor
    · rintro ⟨h1, h2⟩; exact ⟨by omega, by omega, h2⟩
    · rintro ⟨h1, h2, h3⟩; exact ⟨by omega, h3⟩
theorem mostL_le {n : Int} {l : List Int} : mostL l ≤ n ↔ 0 ≤ n ∧ ∀ a ∈ l, a ≤ n := most_le l 0
theorem most_eq {l : List Int} {r : Int} (h0 : ∀ a ∈ l, 0 ≤ a) (h1 : ∀ a ∈ l, a ≤ r) (h2 : r ∈ l) : mostL l = r := by
  have q1 := (mostL_le (n := mostL l)).1 (Int.le_refl _)
  have q2 := (mostL_le (n := r) (l := l)).2 ⟨h0 r h2, h1⟩
  have := q1.2 r h2
  omega
/-- The length and the number of the lines of a direction; the column of a place of a line. -/
def lnN (x y : Int) (dir : Nat) : Nat := (if dir = 0 then x else y).toNat
def lnM (x y : Int) (dir : Nat) : Nat := (if dir = 0 then y else x).toNat
def lnI (y : Int) (dir i k : Nat) : Nat := if dir = 0 then k * y.toNat + i else i * y.toNat + k
def lineH (x y : Int) (dir : Nat) (ts : List Int) (i n : Nat) : List Int := (List.range n).map fun k => ts.getD (lnI y dir i k) 0
def linesH (x y : Int) (dir : Nat) (ts : List Int) (m : Nat) : List (List Int) := (List.range m).map fun i => lineH x y dir ts i (lnN x y dir)
/-- The line of a column. -/
def othN (y : Nat) (dir p : Nat) : Nat := if dir = 0 then p % y else p / y
def rowsB (x y dir i : Nat) : Bool := !(decide (0 < y) && decide (i < (if dir = 0 then y else x))) || decide ((List.range (x * y)).filter (fun p => othN y dir p == i) = (List.range (if dir = 0 then x else y)).map fun k => if dir = 0 then k * y + i else i * y + k)
def rowP (y : Int) (dir : Nat) (ts : List Int) (i n : Nat) : List Int := ((List.range n).filter fun p => othN y.toNat dir p == i).map fun p => ts.getD p 0
/-- Sights of all lines, and the sky line. -/
def sgtL (x y : Int) (dir : Nat) (back : Bool) (ts : List Int) (m : Nat) : List Int := (List.range m).map fun i => (seen (if back then (lineH x y dir ts i (lnN x y dir)).reverse else lineH x y dir ts i (lnN x y dir))).2
def skyL (x y : Int) (dir : Nat) (ts : List Int) (m : Nat) : List Int := (List.range m).map fun i => mostL (lineH x y dir ts i (lnN x y dir))
/-- Levels: a height counts at its place. -/
def lvStep (v : List Int) (h : Int) : List Int := v.set h.toNat (v.getD h.toNat 0 + 1)
def lvL (z : Int) (ts : List Int) : List Int := ts.foldl lvStep (List.replicate (z + 1).toNat 0)
/-- How many orders of m columns one sees i of. -/
def stir : Nat → Nat → Nat
  | 0, 0 => 1
  | 0, _ + 1 => 0
  | m + 1, 0 => m * stir m 0
  | m + 1, i + 1 => m * stir m (i + 1) + stir m i
def stirT : Nat → List Nat
  | 0 => [1, 0, 0, 0, 0, 0, 0, 0, 0, 0, 0, 0, 0]
  | m + 1 => let r := stirT m; (List.range 13).map fun i => m * r.getD i 0 + if i = 0 then 0 else r.getD (i - 1) 0
def factN : Nat → Nat
  | 0 => 1
  | n + 1 => factN n * (n + 1)
end Go.Ab

/- Contracts: lines of columns, sights and sky lines of the reference. -/
namespace Go.Ab
open Go
set_option linter.unusedSimpArgs false
set_option linter.unusedVariables false
set_option maxRecDepth 20000

/-- A list of numbers that may be read, and a truth. -/
def IntsQ (M : Mem) (l : List Int) (b : Bool) (v : LV) (N : Mem) : Prop := ∃ w, v = .tup [w, .B b] ∧ IntsV N w l ∧ Pre M N
def FlatOK (x y z : Int) (cs : List Cell) (d : Int) : Prop := HeapOK x y z cs ∧ 0 ≤ d ∧ d ≤ 1
noncomputable instance (x y z : Int) (cs : List Cell) (d : Int) : Decidable (FlatOK x y z cs d) := Classical.propDecidable _
noncomputable def flatB (x y z : Int) (cs : List Cell) (d : Int) : Bool := decide (FlatOK x y z cs d)
noncomputable def sgtOf (x y z : Int) (cs : List Cell) (d : Int) (b : Bool) : List Int := if FlatOK x y z cs d then sgtL x y d.toNat b (topsOf x y cs) (lnM x y d.toNat) else []
noncomputable def skyOf (x y z : Int) (cs : List Cell) (d : Int) : List Int := if FlatOK x y z cs d then skyL x y d.toNat (topsOf x y cs) (lnM x y d.toNat) else []
section
variable {x y z : Int} {t : Nat} {cs : List Cell} {M : Mem} (h : Tri M t 0 cs)
include h
end
end Go.Ab

/- Contracts: lines of columns, sights and sky lines of the program. -/
namespace Go.Ab
open Go
set_option linter.unusedSimpArgs false
set_option linter.unusedVariables false
set_option maxRecDepth 20000

theorem g_Max {l : List Int} {u : Nat} {M : Mem} (h : Ints M u 0 l) (h0 : 0 < l.length) (hl : l.length ≤ 1000) (hp : ∀ a ∈ l, 0 ≤ a) : CallsTo PG F.slices_Max_Sint_int [.ref u 0 l.length] M (.I (mostL l)) M := by
  have hg0 := Ints.get h (k := 0) h0
  rw [Nat.zero_add] at hg0
  refine calls_run K.slices_Max_Sint_int rfl ?_
  have hlt : ¬ ((l.length : Nat) : Int) < 1 := by omega
  simp (disch := omega) only [C.slices_Max_Sint_int, hlt, hg0, Nat.mul_one, Nat.zero_add, ↓SXd, SXu, slBounds, ↓sop, ↓aop, ↓reduceIte, LV.cells, AOp.dst, LV.I, LV.B, LV.U, LV.S, LV.nil, Nat.reduceEqDiff, Nat.reduceAdd, Nat.reduceMul, Nat.reduceSub, Nat.reduceLeDiff, Nat.reduceBEq, Nat.reduceDiv, Nat.reduceMod, Int.reduceToNat, Int.reduceLT, Int.reduceLE, Int.reduceAdd, Int.reduceSub, Int.reduceMul, Int.reduceEq, Int.reduceNeg, reduceCtorEq, resV, resAll, ARes.ev, LV.flat, ite_true, ite_false, exists_eq_left', exists_eq_left, keyOf, implies_true, fillC, capOf]
  refine ev_loop (fun m fr M' => ∃ (k : Nat) (r : Int), k + m = l.length ∧ 1 ≤ k ∧ M' = M ∧ fr 0 = .ref u 0 l.length ∧ fr 3 = .I r ∧ fr 4 = .I k ∧ (∀ a ∈ l.take k, a ≤ r) ∧ r ∈ l.take k) (l.length - 1)
    ⟨1, l.getD 0 0, by omega, by omega, rfl, rfl, rfl, rfl, fun a ha => ?_, ?_⟩ ?_
  · obtain ⟨b, l', rfl⟩ : ∃ b l', l = b :: l' := by cases l with | nil => simp at h0 | cons b l' => exact ⟨b, l', rfl⟩
    simp at ha
    subst ha
    simp
  · obtain ⟨b, l', rfl⟩ : ∃ b l', l = b :: l' := by cases l with | nil => simp at h0 | cons b l' => exact ⟨b, l', rfl⟩
    simp
  rintro m fr M' ⟨k, r, hk, hk1, rfl, f0, f3, f4, h1, h2⟩
  simp (disch := omega) only [f0, f3, f4, ↓SXd, SXu, slBounds, ↓sop, ↓aop, ↓reduceIte, LV.cells, AOp.dst, LV.I, LV.B, LV.U, LV.S, LV.nil, Nat.reduceEqDiff, Nat.reduceAdd, Nat.reduceMul, Nat.reduceSub, Nat.reduceLeDiff, Nat.reduceBEq, Nat.reduceDiv, Nat.reduceMod, Int.reduceToNat, Int.reduceLT, Int.reduceLE, Int.reduceAdd, Int.reduceSub, Int.reduceMul, Int.reduceEq, Int.reduceNeg, reduceCtorEq, resV, resAll, ARes.ev, LV.flat, ite_true, ite_false, exists_eq_left', exists_eq_left, keyOf, implies_true, fillC, capOf]
  refine condC_dec (fun hlt2 => ?_) (fun hlt2 => ?_)
  · have hkl : k < l.length := by omega
    have hg := Ints.get h hkl
    rw [Nat.zero_add] at hg
    have e : l.take (k + 1) = l.take k ++ [l.getD k 0] := by rw [List.take_add_one, List.getElem?_eq_getElem hkl]; simp [hkl]
    simp (disch := omega) only [f0, f3, f4, hg, Nat.mul_one, Nat.zero_add, maxV, if_true, ite_true, ↓SXd, SXu, slBounds, ↓sop, ↓aop, ↓reduceIte, LV.cells, AOp.dst, LV.I, LV.B, LV.U, LV.S, LV.nil, Nat.reduceEqDiff, Nat.reduceAdd, Nat.reduceMul, Nat.reduceSub, Nat.reduceLeDiff, Nat.reduceBEq, Nat.reduceDiv, Nat.reduceMod, Int.reduceToNat, Int.reduceLT, Int.reduceLE, Int.reduceAdd, Int.reduceSub, Int.reduceMul, Int.reduceEq, Int.reduceNeg, reduceCtorEq, resV, resAll, ARes.ev, LV.flat, ite_true, ite_false, exists_eq_left', exists_eq_left, keyOf, implies_true, fillC, capOf]
    refine ⟨m - 1, by omega, k + 1, max r (l.getD k 0), by omega, by omega, rfl, f0, rfl, eqI (natI _), fun a ha => ?_, ?_⟩
    · rw [e] at ha
      rcases List.mem_append.1 ha with ha | ha
      · have := h1 a ha; omega
      · rw [List.mem_singleton.1 ha]; omega
    · rw [e]
      rcases Int.le_total r (l.getD k 0) with hh | hh
      · rw [Int.max_eq_right hh]; simp
      · rw [Int.max_eq_left hh]; exact List.mem_append_left _ h2
  · have hkl : k = l.length := by omega
    subst hkl
    rw [List.take_length] at h1 h2
    rw [most_eq hp h1 h2]
    simp (disch := omega) only [f0, f3, f4, ↓SXd, SXu, slBounds, ↓sop, ↓aop, ↓reduceIte, LV.cells, AOp.dst, LV.I, LV.B, LV.U, LV.S, LV.nil, Nat.reduceEqDiff, Nat.reduceAdd, Nat.reduceMul, Nat.reduceSub, Nat.reduceLeDiff, Nat.reduceBEq, Nat.reduceDiv, Nat.reduceMod, Int.reduceToNat, Int.reduceLT, Int.reduceLE, Int.reduceAdd, Int.reduceSub, Int.reduceMul, Int.reduceEq, Int.reduceNeg, reduceCtorEq, resV, resAll, ARes.ev, LV.flat, ite_true, ite_false, exists_eq_left', exists_eq_left, keyOf, implies_true, fillC, capOf]
    exact cmp_drop0 rfl
/-- A row of a table in the making: nothing yet, or a block of its own. -/
def RowM (N : Mem) (r : LV) (l : List Int) (u : Nat) : Prop := (l = [] ∧ r = .nil) ∨ (l ≠ [] ∧ r = .ref u 0 l.length ∧ Live N u (.row (intL l) true 1))
theorem RowM.at {N N' : Mem} {r : LV} {l : List Int} {u : Nat} (h : RowM N r l u) (hk : l ≠ [] → N'[u]? = N[u]?) : RowM N' r l u := by
  rcases h with h | ⟨h1, h2, h3⟩
  · exact .inl h
  · refine .inr ⟨h1, h2, ?_⟩
    unfold Live at h3 ⊢
    rw [hk h1]; exact h3
end Go.Ab

/- Contracts: the program's search for tables. -/
namespace Go.Ab
open Go
set_option linter.unusedSimpArgs false
set_option linter.unusedVariables false
set_option maxRecDepth 20000

/-- A table, cell by cell, as a set. -/
def setT (T : List Int) : BitVec 64 := bsN T.length fun i => decide (T.getD i 0 = 1)
theorem bsN_congr {f g : Nat → Bool} : ∀ {n : Nat}, (∀ i, i < n → f i = g i) → bsN n f = bsN n g
  | 0, _ => rfl
  | n + 1, h => by rw [bsN_succ, bsN_succ, bsN_congr (n := n) fun i hi => h i (by omega), h n (by omega)]
theorem setT_snoc {T : List Int} {a : Int} : setT (T ++ [a]) = if a = 1 then setT T ||| 1#64 <<< T.length else setT T := by
  unfold setT
  rw [List.length_append, List.length_singleton, bsN_succ]
  have e1 : (T ++ [a]).getD T.length 0 = a := by
    simp only [List.getD_eq_getElem?_getD]; rw [List.getElem?_append_right (Nat.le_refl _)]; simp
  have e2 : bsN T.length (fun i => decide ((T ++ [a]).getD i 0 = 1)) = bsN T.length fun i => decide (T.getD i 0 = 1) := bsN_congr fun i hi => by
    simp only [List.getD_eq_getElem?_getD]; rw [List.getElem?_append_left hi]
  rw [e1, e2]
  by_cases h : a = 1 <;> simp [h]
theorem setT_bit {T : List Int} (h : T.length ≤ 64) (i : Nat) : (setT T).getLsbD i = (decide (i < T.length) && decide (T.getD i 0 = 1)) := bsN_bit h i
/-- What a search leaves alone: all but some blocks. -/
def FrmL (ws : List Nat) (M N : Mem) : Prop := M.length ≤ N.length ∧ ∀ q, q < M.length → q ∉ ws → N[q]? = M[q]?
theorem FrmL.trans {ws : List Nat} {M N N' : Mem} (h : FrmL ws M N) (k : FrmL ws N N') : FrmL ws M N' := ⟨Nat.le_trans h.1 k.1, fun q h1 h2 => by rw [k.2 q (Nat.lt_of_lt_of_le h1 h.1) h2]; exact h.2 q h1 h2⟩
theorem FrmL.of {ws : List Nat} {M N : Mem} (h : Pre M N) : FrmL ws M N := ⟨h.1, fun q h1 _ => h.2 q h1⟩
theorem Live.frmL {ws : List Nat} {q : Nat} {M N : Mem} {b : Blk} (h : Live M q b) (k : FrmL ws M N) (h1 : q ∉ ws) : Live N q b := Live.at h (k.2 q h.lt h1)
def TEnv (n : Nat) (R : List Int) (B : Mem) (tr pn pr pl pv pf w : Nat) (fv : FuncId) (cps : List (Nat × Nat)) (M : Mem) : Prop :=
  Pre B M ∧ Live M pn (.row [.I n] true 0) ∧ Live M pr (.row [.ref tr 0 R.length] true 0) ∧ Live M pl (.row [.ref w 0 n] true 0) ∧ Live M pv (.row [.clo fv cps] true 0) ∧ Live M pf (.row [.clo F.impl_tables_1 [(pn, 0), (pr, 0), (pl, 0), (pv, 0), (pf, 0)]] true 0)
def TDis (B : Mem) (pn pr pl pv pf : Nat) (ws : List Nat) : Prop := ∀ c ∈ ws, B.length ≤ c ∧ c ≠ pn ∧ c ≠ pr ∧ c ≠ pl ∧ c ≠ pv ∧ c ≠ pf
theorem TEnv.frm {n : Nat} {R : List Int} {B : Mem} {tr pn pr pl pv pf w : Nat} {fv : FuncId} {cps : List (Nat × Nat)} {ws : List Nat} {M N : Mem} (hD : TDis B pn pr pl pv pf ws) (h : TEnv n R B tr pn pr pl pv pf w fv cps M) (k : FrmL ws M N) : TEnv n R B tr pn pr pl pv pf w fv cps N := by
  obtain ⟨h0, h1, h2, h3, h4, h5⟩ := h
  exact ⟨⟨Nat.le_trans h0.1 k.1, fun q hq => by rw [k.2 q (Nat.lt_of_lt_of_le hq h0.1) (fun hm => by have := (hD q hm).1; omega)]; exact h0.2 q hq⟩, h1.frmL k fun hm => (hD _ hm).2.1 rfl, h2.frmL k fun hm => (hD _ hm).2.2.1 rfl, h3.frmL k fun hm => (hD _ hm).2.2.2.1 rfl, h4.frmL k fun hm => (hD _ hm).2.2.2.2.1 rfl, h5.frmL k fun hm => (hD _ hm).2.2.2.2.2 rfl⟩
theorem set_back {l : List Int} {j : Nat} (v : Int) (h : j < l.length) : (l.set j v).set j (l.getD j 0) = l := by
  rw [List.set_set]
  simp only [List.getD_eq_getElem?_getD, List.getElem?_eq_getElem h, Option.getD_some]
  exact List.set_getElem_self h
section
variable {n : Nat} {R : List Int} {once : Bool} {B : Mem} {tr pn pr pl pv pf w : Nat} {cc : List Nat} {fv : FuncId} {cps : List (Nat × Nat)} {Inv : List (List Int) → Mem → Prop}
  (hn : 1 ≤ n ∧ n ≤ 4) (hR4 : R.length ≤ 4) (hRb : ∀ r ∈ R, 0 ≤ r ∧ r ≤ 1000) (hRI : Ints B tr 0 R) (hD : TDis B pn pr pl pv pf (w :: cc)) (hwc : w ∉ cc)
  (hInv : ∀ {P : List (List Int)} {N N' : Mem}, Inv P N → N.length ≤ N'.length → (∀ q, q < N.length → q ≠ w → N'[q]? = N[q]?) → Inv P N')
  (hVis : ∀ {P : List (List Int)} {T : List Int} {N : Mem}, (once = true → P = []) → Inv P N → T.length = R.length * n → P.length + 1 ≤ 1000000000 →
    CallsR PG fv (.W (setT T) :: cps.map fun p => .ptr p.1 p.2) N fun r N' => r = .B (!once) ∧ N.length ≤ N'.length ∧ (∀ q, q < N.length → q ∉ cc → N'[q]? = N[q]?) ∧ Inv (P ++ [T]) N')
include hn hR4 hRb hRI hD hwc hInv hVis
theorem g_fillT : ∀ (f : Nat) {rs : List Int} {k : Nat} {s : Int} {left T : List Int} {P0 : List (List Int)} {M : Mem}, f = rs.length * n + k → rs.length ≤ R.length → k < n → R.drop (R.length - rs.length) = rs → 0 ≤ s ∧ s ≤ 1000 → left.length = n → (∀ a ∈ left, 0 ≤ a ∧ a ≤ 1000) → T.length + f = R.length * n → TEnv n R B tr pn pr pl pv pf w fv cps M → Live M w (.row (intL left) true 1) → Inv P0 M → (once = true → P0 = []) → P0.length + (fillK n rs k s left).length ≤ 1000000000 →
    CallsR PG F.impl_tables_1 [.I (T.length : Nat), .I s, .W (setT T), .ptr pn 0, .ptr pr 0, .ptr pl 0, .ptr pv 0, .ptr pf 0] M fun r N => r = .B (!(once && !(fillK n rs k s left).isEmpty)) ∧ FrmL (w :: cc) M N ∧ Live N w (.row (intL left) true 1) ∧ Inv (P0 ++ selP once ((fillK n rs k s left).map (T ++ ·))) N := by
  intro f
  induction f using Nat.strongRecOn with
  | ind f ih =>
  intro rs k s left T P0 M hf hrl hk hdr hs hln hlb hT hE hw hI hz hb
  obtain ⟨hB, bN, bR, bL, bV, bF⟩ := id hE
  have hnl := bN.lt
  have hrll := bR.lt
  have hll := bL.lt
  have hvl := bV.lt
  have hfl := bF.lt
  have hwl := hw.lt
  have hTb : T.length ≤ 16 := by
    have : R.length * n ≤ 4 * 4 := Nat.mul_le_mul hR4 hn.2
    omega
  have hne : ¬ ((n : Nat) : Int) = 0 := by omega
  have hTe : T.length = (R.length - rs.length) * n - k := by
    rw [Nat.sub_mul]; omega
  have hkk : k = 0 ∨ 1 ≤ R.length - rs.length := by
    rcases Nat.eq_zero_or_pos (R.length - rs.length) with h | h
    · left
      have e : R.length = rs.length := by omega
      rw [e, hf] at hT; omega
    · exact .inr h
  have hmod : T.length % n = if k = 0 then 0 else n - k := by
    by_cases h0 : k = 0
    · rw [if_pos h0, hTe, h0, Nat.sub_zero, Nat.mul_mod_left]
    · rw [if_neg h0, hTe]
      obtain ⟨q, hq⟩ : ∃ q, R.length - rs.length = q + 1 := ⟨R.length - rs.length - 1, by omega⟩
      rw [hq, Nat.add_mul, Nat.one_mul, show q * n + n - k = (n - k) + q * n by omega, Nat.add_mul_mod_self_right, Nat.mod_eq_of_lt (by omega)]
  refine callsR_run K.impl_tables_1 rfl ?_
  simp (disch := omega) only [C.impl_tables_1, tmodNN, hne, ne_eq, not_false_eq_true, bN.cell, ↓SXd, SXu, slBounds, ↓sop, ↓aop, ↓reduceIte, LV.cells, AOp.dst, LV.I, LV.B, LV.U, LV.S, LV.nil, Nat.reduceEqDiff, Nat.reduceAdd, Nat.reduceMul, Nat.reduceSub, Nat.reduceLeDiff, Nat.reduceBEq, Nat.reduceDiv, Nat.reduceMod, Int.reduceToNat, Int.reduceLT, Int.reduceLE, Int.reduceAdd, Int.reduceSub, Int.reduceMul, Int.reduceEq, Int.reduceNeg, reduceCtorEq, resV, resAll, ARes.ev, LV.flat, ite_true, ite_false, exists_eq_left', exists_eq_left, keyOf, implies_true, fillC, capOf]
  refine cond_cut (fun fr' M' => M' = M ∧ ∃ (rs' : List Int) (k' : Nat) (s' : Int), fillK n rs k s left = fillK n rs' (k' + 1) s' left ∧ f = rs'.length * n + (k' + 1) ∧ rs'.length ≤ R.length ∧ k' < n ∧ R.drop (R.length - rs'.length) = rs' ∧ (0 ≤ s' ∧ s' ≤ 1000) ∧ T.length % n = n - (k' + 1) ∧
    fr' 0 = .I (T.length : Nat) ∧ fr' 1 = .I s' ∧ fr' 2 = .W (setT T) ∧ fr' 3 = .ptr pn 0 ∧ fr' 4 = .ptr pr 0 ∧ fr' 5 = .ptr pl 0 ∧ fr' 6 = .ptr pv 0 ∧ fr' 7 = .ptr pf 0) ?_ ?_
  · refine condC_dec (fun hm0 => ?_) (fun hm0 => ?_)
    · have hk0 : k = 0 := by
        rw [hmod] at hm0
        split at hm0
        · assumption
        · omega
      subst hk0
      rw [Nat.add_zero] at hf
      simp (disch := omega) only [↓SXd, SXu, slBounds, ↓sop, ↓aop, ↓reduceIte, LV.cells, AOp.dst, LV.I, LV.B, LV.U, LV.S, LV.nil, Nat.reduceEqDiff, Nat.reduceAdd, Nat.reduceMul, Nat.reduceSub, Nat.reduceLeDiff, Nat.reduceBEq, Nat.reduceDiv, Nat.reduceMod, Int.reduceToNat, Int.reduceLT, Int.reduceLE, Int.reduceAdd, Int.reduceSub, Int.reduceMul, Int.reduceEq, Int.reduceNeg, reduceCtorEq, resV, resAll, ARes.ev, LV.flat, ite_true, ite_false, exists_eq_left', exists_eq_left, keyOf, implies_true, fillC, capOf]
      refine condC_dec (fun hs0 => ?_) (fun hs0 => ?_)
      · have he : fillK n rs 0 s left = [] := by
          cases rs with
          | nil => rw [fillK_end, if_pos hs0]
          | cons r rs => rw [fillK_row, if_pos hs0]
        rw [he]
        simp (disch := omega) only [↓SXd, SXu, slBounds, ↓sop, ↓aop, ↓reduceIte, LV.cells, AOp.dst, LV.I, LV.B, LV.U, LV.S, LV.nil, Nat.reduceEqDiff, Nat.reduceAdd, Nat.reduceMul, Nat.reduceSub, Nat.reduceLeDiff, Nat.reduceBEq, Nat.reduceDiv, Nat.reduceMod, Int.reduceToNat, Int.reduceLT, Int.reduceLE, Int.reduceAdd, Int.reduceSub, Int.reduceMul, Int.reduceEq, Int.reduceNeg, reduceCtorEq, resV, resAll, ARes.ev, LV.flat, ite_true, ite_false, exists_eq_left', exists_eq_left, keyOf, implies_true, fillC, capOf]
        refine ⟨by simp, FrmL.of (Pre.refl _), hw, ?_⟩
        rw [show selP once ([] : List (List Int)) = [] by cases once <;> rfl, List.append_nil]; exact hI
      have hs0' : s = 0 := by omega
      have hmul : ((R.length : Nat) : Int) * ((n : Nat) : Int) = ((R.length * n : Nat) : Int) := by rw [Int.natCast_mul]
      have hmb : R.length * n ≤ 16 := Nat.mul_le_mul hR4 hn.2
      simp (disch := omega) only [bN.cell, bR.cell, hmul, ↓SXd, SXu, slBounds, ↓sop, ↓aop, ↓reduceIte, LV.cells, AOp.dst, LV.I, LV.B, LV.U, LV.S, LV.nil, Nat.reduceEqDiff, Nat.reduceAdd, Nat.reduceMul, Nat.reduceSub, Nat.reduceLeDiff, Nat.reduceBEq, Nat.reduceDiv, Nat.reduceMod, Int.reduceToNat, Int.reduceLT, Int.reduceLE, Int.reduceAdd, Int.reduceSub, Int.reduceMul, Int.reduceEq, Int.reduceNeg, reduceCtorEq, resV, resAll, ARes.ev, LV.flat, ite_true, ite_false, exists_eq_left', exists_eq_left, keyOf, implies_true, fillC, capOf]
      refine condC_dec (fun hend => ?_) (fun hend => ?_)
      · have hend2 : T.length = R.length * n := Int.ofNat.inj hend
        have hrs0 : rs = [] := by
          have : rs.length * n = 0 := by omega
          rcases Nat.mul_eq_zero.1 this with h | h
          · exact List.eq_nil_of_length_eq_zero h
          · omega
        subst hrs0
        have hmx := g_Max (l := left) hw.has (by omega) (by omega) fun a ha => (hlb a ha).1
        rw [hln] at hmx
        have hfe : fillK n [] 0 s left = if mostL left ≤ 0 then [[]] else [] := by
          rw [fillK_end, if_neg (by omega)]
          have : left.all (fun v => decide (v ≤ 0)) = decide (mostL left ≤ 0) := by
            rw [Bool.eq_iff_iff, List.all_eq_true, decide_eq_true_iff, mostL_le]
            exact ⟨fun h => ⟨Int.le_refl _, fun a ha => of_decide_eq_true (h a ha)⟩, fun h a ha => decide_eq_true (h.2 a ha)⟩
          rw [this]
          by_cases h : mostL left ≤ 0 <;> simp [h]
        rw [hfe] at hb ⊢
        simp (disch := omega) only [bL.cell, ↓SXd, SXu, slBounds, ↓sop, ↓aop, ↓reduceIte, LV.cells, AOp.dst, LV.I, LV.B, LV.U, LV.S, LV.nil, Nat.reduceEqDiff, Nat.reduceAdd, Nat.reduceMul, Nat.reduceSub, Nat.reduceLeDiff, Nat.reduceBEq, Nat.reduceDiv, Nat.reduceMod, Int.reduceToNat, Int.reduceLT, Int.reduceLE, Int.reduceAdd, Int.reduceSub, Int.reduceMul, Int.reduceEq, Int.reduceNeg, reduceCtorEq, resV, resAll, ARes.ev, LV.flat, ite_true, ite_false, exists_eq_left', exists_eq_left, keyOf, implies_true, fillC, capOf]
        refine callK_of hmx ?_
        by_cases hmo : 0 < mostL left
        · rw [if_neg (by omega)]
          simp (disch := omega) only [hmo, ↓SXd, SXu, slBounds, ↓sop, ↓aop, ↓reduceIte, LV.cells, AOp.dst, LV.I, LV.B, LV.U, LV.S, LV.nil, Nat.reduceEqDiff, Nat.reduceAdd, Nat.reduceMul, Nat.reduceSub, Nat.reduceLeDiff, Nat.reduceBEq, Nat.reduceDiv, Nat.reduceMod, Int.reduceToNat, Int.reduceLT, Int.reduceLE, Int.reduceAdd, Int.reduceSub, Int.reduceMul, Int.reduceEq, Int.reduceNeg, reduceCtorEq, resV, resAll, ARes.ev, LV.flat, ite_true, ite_false, exists_eq_left', exists_eq_left, keyOf, implies_true, fillC, capOf]
          refine ⟨by simp, FrmL.of (Pre.refl _), hw, ?_⟩
          rw [show selP once ([] : List (List Int)) = [] by cases once <;> rfl, List.append_nil]; exact hI
        · rw [if_pos (by omega)] at hb ⊢
          simp (disch := omega) only [hmo, bV.cell, ↓SXd, SXu, slBounds, ↓sop, ↓aop, ↓reduceIte, LV.cells, AOp.dst, LV.I, LV.B, LV.U, LV.S, LV.nil, Nat.reduceEqDiff, Nat.reduceAdd, Nat.reduceMul, Nat.reduceSub, Nat.reduceLeDiff, Nat.reduceBEq, Nat.reduceDiv, Nat.reduceMod, Int.reduceToNat, Int.reduceLT, Int.reduceLE, Int.reduceAdd, Int.reduceSub, Int.reduceMul, Int.reduceEq, Int.reduceNeg, reduceCtorEq, resV, resAll, ARes.ev, LV.flat, ite_true, ite_false, exists_eq_left', exists_eq_left, keyOf, implies_true, fillC, capOf]
          refine callR_of (hVis hz hI (by omega) (by simpa using hb)) ?_
          rintro _ N ⟨rfl, k1, k2, k3⟩
          simp (disch := omega) only [↓SXd, SXu, slBounds, ↓sop, ↓aop, ↓reduceIte, LV.cells, AOp.dst, LV.I, LV.B, LV.U, LV.S, LV.nil, Nat.reduceEqDiff, Nat.reduceAdd, Nat.reduceMul, Nat.reduceSub, Nat.reduceLeDiff, Nat.reduceBEq, Nat.reduceDiv, Nat.reduceMod, Int.reduceToNat, Int.reduceLT, Int.reduceLE, Int.reduceAdd, Int.reduceSub, Int.reduceMul, Int.reduceEq, Int.reduceNeg, reduceCtorEq, resV, resAll, ARes.ev, LV.flat, ite_true, ite_false, exists_eq_left', exists_eq_left, keyOf, implies_true, fillC, capOf]
          refine ⟨by cases once <;> rfl, ⟨k1, fun q h1 h2 => k2 q h1 fun hm => h2 (by simp [hm])⟩, Live.at hw (k2 w hwl hwc), ?_⟩
          rw [List.append_nil, show selP once [T] = [T] by cases once <;> rfl]
          exact k3
      · have hend2 : ¬ T.length = R.length * n := fun e => hend (congrArg Int.ofNat e)
        obtain ⟨r, rs1, rfl⟩ : ∃ r rs1, rs = r :: rs1 := by
          cases rs with
          | nil =>
            rw [List.length_nil, Nat.zero_mul] at hf
            omega
          | cons r rs1 => exact ⟨r, rs1, rfl⟩
        rw [List.length_cons] at hrl hf hdr hTe
        have hdi : T.length / n = R.length - (rs1.length + 1) := by rw [hTe, Nat.sub_zero, Nat.mul_div_cancel _ (by omega)]
        have hgi : R[R.length - (rs1.length + 1)]? = some r := by
          have := congrArg (fun l => l[0]?) hdr
          simpa using this
        have hrm : r ∈ R := List.mem_of_getElem? hgi
        have hgr := Ints.get (hRI.pre hB) (k := R.length - (rs1.length + 1)) (by omega)
        rw [Nat.zero_add, List.getD_eq_getElem?_getD, hgi, Option.getD_some, ← hdi] at hgr
        have hdl : T.length / n < R.length := by omega
        have hdl' : ((T.length / n : Nat) : Int) < ((R.length : Nat) : Int) := by omega
        simp (disch := omega) only [bR.cell, bN.cell, tdivNN, hgr, hdl, hdl', ↓SXd, SXu, slBounds, ↓sop, ↓aop, ↓reduceIte, LV.cells, AOp.dst, LV.I, LV.B, LV.U, LV.S, LV.nil, Nat.reduceEqDiff, Nat.reduceAdd, Nat.reduceMul, Nat.reduceSub, Nat.reduceLeDiff, Nat.reduceBEq, Nat.reduceDiv, Nat.reduceMod, Int.reduceToNat, Int.reduceLT, Int.reduceLE, Int.reduceAdd, Int.reduceSub, Int.reduceMul, Int.reduceEq, Int.reduceNeg, reduceCtorEq, resV, resAll, ARes.ev, LV.flat, ite_true, ite_false, exists_eq_left', exists_eq_left, keyOf, implies_true, fillC, capOf]
        refine ⟨rs1, n - 1, r, ?_, ?_, by omega, by omega, ?_, hRb r hrm, ?_, rfl⟩
        · rw [fillK_row, if_neg (by omega), show n - 1 + 1 = n by omega]
        · rw [hf, Nat.add_mul]; omega
        · have := congrArg List.tail hdr
          rw [List.tail_drop, List.tail_cons] at this
          refine Eq.trans ?_ this; congr 1; omega
        · rw [hmod, if_pos rfl]; omega
    · have hk1 : k ≠ 0 := fun e => by rw [hmod, if_pos e] at hm0; exact hm0 rfl
      obtain ⟨k', rfl⟩ : ∃ k', k = k' + 1 := ⟨k - 1, by omega⟩
      rw [if_neg hk1] at hmod
      simp (disch := omega) only [↓SXd, SXu, slBounds, ↓sop, ↓aop, ↓reduceIte, LV.cells, AOp.dst, LV.I, LV.B, LV.U, LV.S, LV.nil, Nat.reduceEqDiff, Nat.reduceAdd, Nat.reduceMul, Nat.reduceSub, Nat.reduceLeDiff, Nat.reduceBEq, Nat.reduceDiv, Nat.reduceMod, Int.reduceToNat, Int.reduceLT, Int.reduceLE, Int.reduceAdd, Int.reduceSub, Int.reduceMul, Int.reduceEq, Int.reduceNeg, reduceCtorEq, resV, resAll, ARes.ev, LV.flat, ite_true, ite_false, exists_eq_left', exists_eq_left, keyOf, implies_true, fillC, capOf]
      exact ⟨rs, k', s, rfl, hf, hrl, by omega, hdr, hs, hmod, rfl⟩
  · rintro fr M' ⟨rfl, rs', k', s', hfk, hf', hrl', hk', hdr', hs', hmod', f0, f1, f2, f3, f4, f5, f6, f7⟩
    rw [hfk] at hb ⊢
    clear hfk hmod hf hrl hk hdr hs hTe hkk
    rw [fillK_cell] at hb ⊢
    have ht1 : setT (T ++ [0]) = setT T := by rw [setT_snoc, if_neg (by omega)]
    have hl1 : (T ++ [(0 : Int)]).length = T.length + 1 := by simp
    have hb1 : P0.length + (fillK n rs' k' s' left).length ≤ 1000000000 := by
      rw [List.length_append, List.length_map] at hb; omega
    have hih1 := ih (f - 1) (by omega) (rs := rs') (k := k') (s := s') (left := left) (T := T ++ [0]) (P0 := P0) (M := M') (by omega) hrl' hk' hdr' hs' hln hlb (by omega) hE hw hI hz hb1
    rw [ht1, hl1] at hih1
    have hj : n - (k' + 1) < left.length := by omega
    simp (disch := omega) only [f0, f1, f2, f3, f4, f5, f6, f7, bF.cell, ↓SXd, SXu, slBounds, ↓sop, ↓aop, ↓reduceIte, LV.cells, AOp.dst, LV.I, LV.B, LV.U, LV.S, LV.nil, Nat.reduceEqDiff, Nat.reduceAdd, Nat.reduceMul, Nat.reduceSub, Nat.reduceLeDiff, Nat.reduceBEq, Nat.reduceDiv, Nat.reduceMod, Int.reduceToNat, Int.reduceLT, Int.reduceLE, Int.reduceAdd, Int.reduceSub, Int.reduceMul, Int.reduceEq, Int.reduceNeg, reduceCtorEq, resV, resAll, ARes.ev, LV.flat, ite_true, ite_false, exists_eq_left', exists_eq_left, keyOf, implies_true, fillC, capOf]
    refine callR_of hih1 ?_
    rintro _ N ⟨rfl, hfr1, hw1, hI1⟩
    have hmp1 : (fillK n rs' k' s' left).map ((T ++ [0]) ++ ·) = ((fillK n rs' k' s' left).map (0 :: ·)).map (T ++ ·) := by
      rw [List.map_map]; congr 1; funext q; simp
    rw [hmp1] at hI1
    generalize hA : fillK n rs' k' s' left = A at *
    by_cases hst : once = true ∧ A ≠ []
    · obtain ⟨rfl, hAn⟩ := hst
      obtain ⟨a1, A1, rfl⟩ : ∃ a A1, A = a :: A1 := by
        cases A with
        | nil => exact absurd rfl hAn
        | cons a A1 => exact ⟨a, A1, rfl⟩
      simp (disch := omega) only [f0, f1, f2, f3, f4, f5, f6, f7, List.isEmpty_cons, Bool.and_self, Bool.not_false, Bool.not_true, ↓SXd, SXu, slBounds, ↓sop, ↓aop, ↓reduceIte, LV.cells, AOp.dst, LV.I, LV.B, LV.U, LV.S, LV.nil, Nat.reduceEqDiff, Nat.reduceAdd, Nat.reduceMul, Nat.reduceSub, Nat.reduceLeDiff, Nat.reduceBEq, Nat.reduceDiv, Nat.reduceMod, Int.reduceToNat, Int.reduceLT, Int.reduceLE, Int.reduceAdd, Int.reduceSub, Int.reduceMul, Int.reduceEq, Int.reduceNeg, reduceCtorEq, resV, resAll, ARes.ev, LV.flat, ite_true, ite_false, exists_eq_left', exists_eq_left, keyOf, implies_true, fillC, capOf]
      refine ⟨rfl, hfr1, hw1, ?_⟩
      exact hI1
    have hval : (!(once && !A.isEmpty)) = true := by
      cases once with
      | false => rfl
      | true =>
        have : A = [] := Classical.byContradiction fun h => hst ⟨rfl, h⟩
        rw [this]; rfl
    have hz1 : once = true → A = [] := fun e => Classical.byContradiction fun h => hst ⟨e, h⟩
    rw [hval]
    have hE1 := hE.frm hD hfr1
    obtain ⟨hB1, bN1, bR1, bL1, bV1, bF1⟩ := id hE1
    have hgl := Ints.get hw1.has hj
    rw [Nat.zero_add] at hgl
    have hlv := hlb _ (getD_mem' (d := 0) hj)
    have hjn : n - (k' + 1) < n := by omega
    have hjn' : ((n - (k' + 1) : Nat) : Int) < ((n : Nat) : Int) := by omega
    have hsel : selP once (((A.map (0 :: ·)) ++ if s' = 0 ∨ left.getD (n - (k' + 1)) 0 = 0 then [] else (fillK n rs' k' (s' - 1) (left.set (n - (k' + 1)) (left.getD (n - (k' + 1)) 0 - 1))).map (1 :: ·)).map (T ++ ·)) = selP once ((A.map (0 :: ·)).map (T ++ ·)) ++ selP once ((if s' = 0 ∨ left.getD (n - (k' + 1)) 0 = 0 then [] else (fillK n rs' k' (s' - 1) (left.set (n - (k' + 1)) (left.getD (n - (k' + 1)) 0 - 1))).map (1 :: ·)).map (T ++ ·)) := by
      rw [List.map_append, sel_app]
      intro e; rw [hz1 e]; rfl
    rw [hsel]
    by_cases hs0 : s' = 0
    · rw [if_pos (.inl hs0)] at hb ⊢
      simp (disch := omega) only [f0, f1, f2, f3, f4, f5, f6, f7, hs0, ↓SXd, SXu, slBounds, ↓sop, ↓aop, ↓reduceIte, LV.cells, AOp.dst, LV.I, LV.B, LV.U, LV.S, LV.nil, Nat.reduceEqDiff, Nat.reduceAdd, Nat.reduceMul, Nat.reduceSub, Nat.reduceLeDiff, Nat.reduceBEq, Nat.reduceDiv, Nat.reduceMod, Int.reduceToNat, Int.reduceLT, Int.reduceLE, Int.reduceAdd, Int.reduceSub, Int.reduceMul, Int.reduceEq, Int.reduceNeg, reduceCtorEq, resV, resAll, ARes.ev, LV.flat, ite_true, ite_false, exists_eq_left', exists_eq_left, keyOf, implies_true, fillC, capOf]
      refine ⟨?_, hfr1, hw1, ?_⟩
      · rw [List.append_nil]
        have : (A.map (0 :: ·)).isEmpty = A.isEmpty := by cases A <;> rfl
        rw [this, hval]
      · rw [show selP once ([] : List (List Int)) = [] by cases once <;> rfl, List.append_nil]
        exact hI1
    · simp (disch := omega) only [f0, f1, f2, f3, f4, f5, f6, f7, hs0, bL1.cell, bN1.cell, tmodNN, hne, ne_eq, not_false_eq_true, hmod', hjn, hjn', hgl, ↓SXd, SXu, slBounds, ↓sop, ↓aop, ↓reduceIte, LV.cells, AOp.dst, LV.I, LV.B, LV.U, LV.S, LV.nil, Nat.reduceEqDiff, Nat.reduceAdd, Nat.reduceMul, Nat.reduceSub, Nat.reduceLeDiff, Nat.reduceBEq, Nat.reduceDiv, Nat.reduceMod, Int.reduceToNat, Int.reduceLT, Int.reduceLE, Int.reduceAdd, Int.reduceSub, Int.reduceMul, Int.reduceEq, Int.reduceNeg, reduceCtorEq, resV, resAll, ARes.ev, LV.flat, ite_true, ite_false, exists_eq_left', exists_eq_left, keyOf, implies_true, fillC, capOf]
      have hlb2 : ∀ v : Int, 0 ≤ v ∧ v ≤ 1000 → ∀ a ∈ left.set (n - (k' + 1)) v, 0 ≤ a ∧ a ≤ 1000 := fun v hv a ha => by
        rcases List.mem_or_eq_of_mem_set ha with h | h
        · exact hlb a h
        · rw [h]; exact hv
      have hbk := set_back (l := left) (left.getD (n - (k' + 1)) 0 - 1) hj
      have hgs : (left.set (n - (k' + 1)) (left.getD (n - (k' + 1)) 0 - 1)).getD (n - (k' + 1)) 0 = left.getD (n - (k' + 1)) 0 - 1 := by
        simp only [List.getD_eq_getElem?_getD]; rw [List.getElem?_set_self hj]; rfl
      generalize left.getD (n - (k' + 1)) 0 = a at hgl hlv hb hbk hgs hlb2 ⊢
      by_cases ha0 : a = 0
      · rw [if_pos (.inr ha0)] at hb ⊢
        simp (disch := omega) only [f0, f1, f2, f3, f4, f5, f6, f7, ha0, ↓SXd, SXu, slBounds, ↓sop, ↓aop, ↓reduceIte, LV.cells, AOp.dst, LV.I, LV.B, LV.U, LV.S, LV.nil, Nat.reduceEqDiff, Nat.reduceAdd, Nat.reduceMul, Nat.reduceSub, Nat.reduceLeDiff, Nat.reduceBEq, Nat.reduceDiv, Nat.reduceMod, Int.reduceToNat, Int.reduceLT, Int.reduceLE, Int.reduceAdd, Int.reduceSub, Int.reduceMul, Int.reduceEq, Int.reduceNeg, reduceCtorEq, resV, resAll, ARes.ev, LV.flat, ite_true, ite_false, exists_eq_left', exists_eq_left, keyOf, implies_true, fillC, capOf]
        refine ⟨?_, hfr1, hw1, ?_⟩
        · rw [List.append_nil]
          have : (A.map (0 :: ·)).isEmpty = A.isEmpty := by cases A <;> rfl
          rw [this, hval]
        · rw [show selP once ([] : List (List Int)) = [] by cases once <;> rfl, List.append_nil]
          exact hI1
      · have hno : ¬ (s' = 0 ∨ a = 0) := fun h => h.elim hs0 ha0
        rw [if_neg hno] at hb
        have hno2 : ∀ {h : Decidable (s' = 0 ∨ a = 0)} {l l' : List (List Int)}, @ite _ (s' = 0 ∨ a = 0) h l l' = l' := fun {h l l'} => by rw [@if_neg _ h hno]
        simp (disch := omega) only [f0, f1, f2, f3, f4, f5, f6, f7, ha0, hno2, bL1.cell, bN1.cell, tmodNN, hne, ne_eq, not_false_eq_true, hmod', hjn, hjn', hgl, ↓SXd, SXu, slBounds, ↓sop, ↓aop, ↓reduceIte, LV.cells, AOp.dst, LV.I, LV.B, LV.U, LV.S, LV.nil, Nat.reduceEqDiff, Nat.reduceAdd, Nat.reduceMul, Nat.reduceSub, Nat.reduceLeDiff, Nat.reduceBEq, Nat.reduceDiv, Nat.reduceMod, Int.reduceToNat, Int.reduceLT, Int.reduceLE, Int.reduceAdd, Int.reduceSub, Int.reduceMul, Int.reduceEq, Int.reduceNeg, reduceCtorEq, resV, resAll, ARes.ev, LV.flat, ite_true, ite_false, exists_eq_left', exists_eq_left, keyOf, implies_true, fillC, capOf]
        refine memK_int hw1 (by omega) fun N2 k1 k2 k3 => ?_
        have hfr2 : FrmL (w :: cc) N N2 := ⟨by omega, fun q h1 h2 => k3 q (fun e => h2 (by simp [e])) h1⟩
        have hE2 := hE1.frm hD hfr2
        obtain ⟨hB2, bN2, bR2, bL2, bV2, bF2⟩ := id hE2
        have hI2 := hInv hI1 (by omega) fun q h1 h2 => k3 q h2 h1
        have hT1 : setT (T ++ [1]) = setT T ||| 1#64 <<< T.length := by rw [setT_snoc, if_pos rfl]
        have hL1 : (T ++ [(1 : Int)]).length = T.length + 1 := by simp
        rw [List.length_append, List.length_map, List.length_map] at hb
        have hih2 := ih (f - 1) (by omega) (rs := rs') (k := k') (s := s' - 1) (left := left.set (n - (k' + 1)) (a - 1)) (T := T ++ [1]) (P0 := P0 ++ selP once ((A.map (0 :: ·)).map (T ++ ·))) (M := N2) (by omega) hrl' hk' hdr' (by omega) (by rw [List.length_set]; exact hln) (hlb2 _ (by omega)) (by omega) hE2 k2 hI2 (fun e => by rw [hz e, hz1 e]; cases once <;> rfl) (by
          have := selP_len (once := once) (P := (A.map (0 :: ·)).map (T ++ ·))
          rw [List.length_map, List.length_map] at this
          rw [List.length_append]; omega)
        rw [hT1, hL1] at hih2
        simp (disch := omega) only [f0, f1, f2, f3, f4, f5, f6, f7, bF2.cell, ↓SXd, SXu, slBounds, ↓sop, ↓aop, ↓reduceIte, LV.cells, AOp.dst, LV.I, LV.B, LV.U, LV.S, LV.nil, Nat.reduceEqDiff, Nat.reduceAdd, Nat.reduceMul, Nat.reduceSub, Nat.reduceLeDiff, Nat.reduceBEq, Nat.reduceDiv, Nat.reduceMod, Int.reduceToNat, Int.reduceLT, Int.reduceLE, Int.reduceAdd, Int.reduceSub, Int.reduceMul, Int.reduceEq, Int.reduceNeg, reduceCtorEq, resV, resAll, ARes.ev, LV.flat, ite_true, ite_false, exists_eq_left', exists_eq_left, keyOf, implies_true, fillC, capOf]
        refine callR_of hih2 ?_
        rintro _ N3 ⟨rfl, hfr3, hw3, hI3⟩
        have hE3 := hE2.frm hD hfr3
        obtain ⟨hB3, bN3, bR3, bL3, bV3, bF3⟩ := id hE3
        have hgl3 := Ints.get hw3.has (k := n - (k' + 1)) (by rw [List.length_set]; exact hj)
        rw [Nat.zero_add, hgs] at hgl3
        simp (disch := omega) only [f0, f1, f2, f3, f4, f5, f6, f7, bL3.cell, bN3.cell, tmodNN, hne, ne_eq, not_false_eq_true, hmod', hjn, hjn', hgl3, Int.sub_add_cancel, ↓SXd, SXu, slBounds, ↓sop, ↓aop, ↓reduceIte, LV.cells, AOp.dst, LV.I, LV.B, LV.U, LV.S, LV.nil, Nat.reduceEqDiff, Nat.reduceAdd, Nat.reduceMul, Nat.reduceSub, Nat.reduceLeDiff, Nat.reduceBEq, Nat.reduceDiv, Nat.reduceMod, Int.reduceToNat, Int.reduceLT, Int.reduceLE, Int.reduceAdd, Int.reduceSub, Int.reduceMul, Int.reduceEq, Int.reduceNeg, reduceCtorEq, resV, resAll, ARes.ev, LV.flat, ite_true, ite_false, exists_eq_left', exists_eq_left, keyOf, implies_true, fillC, capOf]
        refine memK_int hw3 (by rw [List.length_set]; omega) fun N4 l1 l2 l3 => ?_
        rw [hbk] at l2
        have hfr4 : FrmL (w :: cc) N3 N4 := ⟨by omega, fun q h1 h2 => l3 q (fun e => h2 (by simp [e])) h1⟩
        have hI4 := hInv hI3 (by omega) fun q h1 h2 => l3 q h2 h1
        generalize fillK n rs' k' (s' - 1) (left.set (n - (k' + 1)) (a - 1)) = A2 at *
        simp (disch := omega) only [f0, f1, f2, f3, f4, f5, f6, f7, ↓SXd, SXu, slBounds, ↓sop, ↓aop, ↓reduceIte, LV.cells, AOp.dst, LV.I, LV.B, LV.U, LV.S, LV.nil, Nat.reduceEqDiff, Nat.reduceAdd, Nat.reduceMul, Nat.reduceSub, Nat.reduceLeDiff, Nat.reduceBEq, Nat.reduceDiv, Nat.reduceMod, Int.reduceToNat, Int.reduceLT, Int.reduceLE, Int.reduceAdd, Int.reduceSub, Int.reduceMul, Int.reduceEq, Int.reduceNeg, reduceCtorEq, resV, resAll, ARes.ev, LV.flat, ite_true, ite_false, exists_eq_left', exists_eq_left, keyOf, implies_true, fillC, capOf]
        refine ⟨?_, ((hfr1.trans hfr2).trans hfr3).trans hfr4, l2, ?_⟩
        · cases once with
          | false => rfl
          | true =>
            rw [hz1 rfl]
            cases A2 <;> rfl
        · have hmp2 : A2.map ((T ++ [1]) ++ ·) = (A2.map (1 :: ·)).map (T ++ ·) := by
            rw [List.map_map]; congr 1; funext q; simp
          rw [hmp2, List.append_assoc] at hI4
          exact hI4
end
end Go.Ab

/- Contracts: all tables and the first one, the program's side. -/
namespace Go.Ab
open Go
set_option linter.unusedSimpArgs false
set_option linter.unusedVariables false
set_option maxRecDepth 20000

section
variable {n : Nat} {R cols : List Int} {once : Bool} {B M : Mem} {tr tc : Nat} {cc : List Nat} {fv : FuncId} {cps : List (Nat × Nat)} {Inv : Nat → List (List Int) → Mem → Prop}
  (hn : 1 ≤ n ∧ n ≤ 4) (hR4 : R.length ≤ 4) (hRb : ∀ r ∈ R, 0 ≤ r ∧ r ≤ 1000) (hRI : Ints B tr 0 R) (hCI : Ints B tc 0 cols) (hcn : cols.length = n) (hcb : ∀ a ∈ cols, 0 ≤ a ∧ a ≤ 1000)
  (hBM : Pre B M) (hcc : ∀ c ∈ cc, B.length ≤ c ∧ c < M.length) (hfb : (fillK n R 0 0 cols).length ≤ 1000000000)
  (hI : ∀ w, M.length ≤ w → ∀ N, Pre M N → Inv w [] N)
  (hInv : ∀ {w : Nat} {P : List (List Int)} {N N' : Mem}, Inv w P N → N.length ≤ N'.length → (∀ q, q < N.length → q ≠ w → N'[q]? = N[q]?) → Inv w P N')
  (hVis : ∀ {w : Nat} {P : List (List Int)} {T : List Int} {N : Mem}, (once = true → P = []) → Inv w P N → T.length = R.length * n → P.length + 1 ≤ 1000000000 →
    CallsR PG fv (.W (setT T) :: cps.map fun p => .ptr p.1 p.2) N fun r N' => r = .B (!once) ∧ N.length ≤ N'.length ∧ (∀ q, q < N.length → q ∉ cc → N'[q]? = N[q]?) ∧ Inv w (P ++ [T]) N')
include hn hR4 hRb hRI hCI hcn hcb hBM hcc hI hInv hVis hfb
theorem g_tables : CallsR PG F.impl_tables [.ref tr 0 R.length, .ref tc 0 n, .clo fv cps] M fun r N => M.length ≤ N.length ∧ (∀ q, q < M.length → q ∉ cc → N[q]? = M[q]?) ∧ ∃ w, Inv w (selP once (fillK n R 0 0 cols)) N := by
  have hcI := hCI.pre hBM
  have hBl := hBM.1
  have htr := hRI.lt
  refine callsR_run K.impl_tables rfl ?_
  simp (disch := omega) only [C.impl_tables, ↓SXd, SXu, slBounds, ↓sop, ↓aop, ↓reduceIte, LV.cells, AOp.dst, LV.I, LV.B, LV.U, LV.S, LV.nil, Nat.reduceEqDiff, Nat.reduceAdd, Nat.reduceMul, Nat.reduceSub, Nat.reduceLeDiff, Nat.reduceBEq, Nat.reduceDiv, Nat.reduceMod, Int.reduceToNat, Int.reduceLT, Int.reduceLE, Int.reduceAdd, Int.reduceSub, Int.reduceMul, Int.reduceEq, Int.reduceNeg, reduceCtorEq, resV, resAll, ARes.ev, LV.flat, ite_true, ite_false, exists_eq_left', exists_eq_left, keyOf, implies_true, fillC, capOf]
  have hcl := g_cloneI (ys := cols) (w := tc) (N := M ++ [some (.row [.ref tr 0 R.length] true 0), some (.row [.clo fv cps] true 0)]) hcI.app (by omega) (by omega)
  rw [hcn] at hcl
  refine callR_of hcl ?_
  rintro _ N ⟨w, rfl, hw, hwl, hp⟩
  have hpl := hp.1
  simp only [List.length_append, List.length_cons, List.length_nil] at hwl hpl
  have hwlt := hw.lt
  have b3 : Live N M.length (.row [.ref tr 0 R.length] true 0) := Live.new.pre hp
  have b5 : Live N (M.length + 1) (.row [.clo fv cps] true 0) := (Live.newj (j := 1) rfl).pre hp
  have hpMN : Pre M N := (Pre.app _ _).trans hp
  simp (disch := omega) only [↓SXd, SXu, slBounds, ↓sop, ↓aop, ↓reduceIte, LV.cells, AOp.dst, LV.I, LV.B, LV.U, LV.S, LV.nil, Nat.reduceEqDiff, Nat.reduceAdd, Nat.reduceMul, Nat.reduceSub, Nat.reduceLeDiff, Nat.reduceBEq, Nat.reduceDiv, Nat.reduceMod, Int.reduceToNat, Int.reduceLT, Int.reduceLE, Int.reduceAdd, Int.reduceSub, Int.reduceMul, Int.reduceEq, Int.reduceNeg, reduceCtorEq, resV, resAll, ARes.ev, LV.flat, ite_true, ite_false, exists_eq_left', exists_eq_left, keyOf, implies_true, fillC, capOf]
  have hfill := g_fillT (n := n) (R := R) (once := once) (B := B) (tr := tr) (pn := N.length) (pr := M.length) (pl := N.length + 1) (pv := M.length + 1) (pf := N.length + 2) (w := w) (cc := cc) (fv := fv) (cps := cps) (Inv := Inv w) hn hR4 hRb hRI (fun c hc => by
      rcases List.mem_cons.1 hc with rfl | hc
      · omega
      · have := hcc c hc; omega) (fun hm => by have := hcc w hm; omega) (fun {P N N'} => hInv) (fun {P T N} => hVis) (R.length * n + 0) (rs := R) (k := 0) (s := 0) (left := cols) (T := []) (P0 := [])
    (M := N ++ [some (.row [.I n] true 0), some (.row [.ref w 0 n] true 0), some (.row [.clo F.impl_tables_1 [(N.length, 0), (M.length, 0), (N.length + 1, 0), (M.length + 1, 0), (N.length + 2, 0)]] true 0)])
    rfl (Nat.le_refl _) (by omega) (by rw [Nat.sub_self, List.drop_zero]) (by omega) hcn hcb (by simp)
    ⟨(hBM.trans hpMN).app', Live.new, b3.app, Live.newj (j := 1) rfl, b5.app, Live.newj (j := 2) rfl⟩ hw.app (hI w (by omega) _ hpMN.app') (fun _ => rfl) (by simpa using hfb)
  refine callR_of hfill ?_
  rintro _ N2 ⟨rfl, hfr, hw2, hI2⟩
  have hf1 := hfr.1
  simp only [List.length_append, List.length_cons, List.length_nil] at hf1
  simp (disch := omega) only [↓SXd, SXu, slBounds, ↓sop, ↓aop, ↓reduceIte, LV.cells, AOp.dst, LV.I, LV.B, LV.U, LV.S, LV.nil, Nat.reduceEqDiff, Nat.reduceAdd, Nat.reduceMul, Nat.reduceSub, Nat.reduceLeDiff, Nat.reduceBEq, Nat.reduceDiv, Nat.reduceMod, Int.reduceToNat, Int.reduceLT, Int.reduceLE, Int.reduceAdd, Int.reduceSub, Int.reduceMul, Int.reduceEq, Int.reduceNeg, reduceCtorEq, resV, resAll, ARes.ev, LV.flat, ite_true, ite_false, exists_eq_left', exists_eq_left, keyOf, implies_true, fillC, capOf]
  refine ⟨by omega, fun q h1 h2 => ?_, w, ?_⟩
  · rw [hfr.2 q (by simp; omega) (fun hm => by
      rcases List.mem_cons.1 hm with rfl | hm
      · omega
      · exact h2 hm), List.getElem?_append_left (by omega)]
    exact hpMN.2 q h1
  · have e : (fillK n R 0 0 cols).map ([] ++ ·) = fillK n R 0 0 cols := by
      rw [show (([] : List Int) ++ · : List Int → List Int) = id from rfl, List.map_id]
    rw [e] at hI2
    exact hI2
end
/-- The first of the tables, as a set. -/
def firstW (L : List (List Int)) : BitVec 64 := match L with
  | [] => 0#64
  | T :: _ => setT T
theorem g_visitF {T : List Int} {c k : Nat} {a b : LV} {N : Mem} (h1 : Live N c (.row [a] true 0)) (h2 : Live N (c + 1) (.row [b] true 0)) :
    CallsR PG F.impl_firstTable_1 [.W (setT T), .ptr c 0, .ptr (c + 1) 0] N fun r N' => r = .B false ∧ N.length ≤ N'.length ∧ (∀ q, q < N.length → q ∉ [c, c + 1] → N'[q]? = N[q]?) ∧ Live N' c (.row [.W (setT T)] true 0) ∧ Live N' (c + 1) (.row [.B true] true 0) := by
  refine callsR_run K.impl_firstTable_1 rfl ?_
  simp (disch := omega) only [C.impl_firstTable_1, ↓SXd, SXu, slBounds, ↓sop, ↓aop, ↓reduceIte, LV.cells, AOp.dst, LV.I, LV.B, LV.U, LV.S, LV.nil, Nat.reduceEqDiff, Nat.reduceAdd, Nat.reduceMul, Nat.reduceSub, Nat.reduceLeDiff, Nat.reduceBEq, Nat.reduceDiv, Nat.reduceMod, Int.reduceToNat, Int.reduceLT, Int.reduceLE, Int.reduceAdd, Int.reduceSub, Int.reduceMul, Int.reduceEq, Int.reduceNeg, reduceCtorEq, resV, resAll, ARes.ev, LV.flat, ite_true, ite_false, exists_eq_left', exists_eq_left, keyOf, implies_true, fillC, capOf]
  refine memK_one h1 (by simp) fun N3 j1 j2 j3 => ?_
  have h3 := live_step h2 (by omega) j3
  simp (disch := omega) only [↓SXd, SXu, slBounds, ↓sop, ↓aop, ↓reduceIte, LV.cells, AOp.dst, LV.I, LV.B, LV.U, LV.S, LV.nil, Nat.reduceEqDiff, Nat.reduceAdd, Nat.reduceMul, Nat.reduceSub, Nat.reduceLeDiff, Nat.reduceBEq, Nat.reduceDiv, Nat.reduceMod, Int.reduceToNat, Int.reduceLT, Int.reduceLE, Int.reduceAdd, Int.reduceSub, Int.reduceMul, Int.reduceEq, Int.reduceNeg, reduceCtorEq, resV, resAll, ARes.ev, LV.flat, ite_true, ite_false, exists_eq_left', exists_eq_left, keyOf, implies_true, fillC, capOf]
  refine memK_one h3 (by simp) fun N4 l1 l2 l3 => ?_
  simp (disch := omega) only [↓SXd, SXu, slBounds, ↓sop, ↓aop, ↓reduceIte, LV.cells, AOp.dst, LV.I, LV.B, LV.U, LV.S, LV.nil, Nat.reduceEqDiff, Nat.reduceAdd, Nat.reduceMul, Nat.reduceSub, Nat.reduceLeDiff, Nat.reduceBEq, Nat.reduceDiv, Nat.reduceMod, Int.reduceToNat, Int.reduceLT, Int.reduceLE, Int.reduceAdd, Int.reduceSub, Int.reduceMul, Int.reduceEq, Int.reduceNeg, reduceCtorEq, resV, resAll, ARes.ev, LV.flat, ite_true, ite_false, exists_eq_left', exists_eq_left, keyOf, implies_true, fillC, capOf]
  refine ⟨rfl, by omega, fun q q1 q2 => ?_, live_step j2 (by omega) l3, l2⟩
  simp at q2
  rw [l3 q (by omega) (by omega), j3 q (by omega) (by omega)]
theorem g_firstTable {n : Nat} {R cols : List Int} {M : Mem} {tr tc : Nat} (hn : 1 ≤ n ∧ n ≤ 4) (hR4 : R.length ≤ 4) (hRb : ∀ r ∈ R, 0 ≤ r ∧ r ≤ 1000) (hRI : Ints M tr 0 R) (hCI : Ints M tc 0 cols) (hcn : cols.length = n) (hcb : ∀ a ∈ cols, 0 ≤ a ∧ a ≤ 1000) (hfb : (fillK n R 0 0 cols).length ≤ 1000000000) :
    CallsR PG F.impl_firstTable [.ref tr 0 R.length, .ref tc 0 n] M fun v N => v = .tup [.W (firstW (fillK n R 0 0 cols)), .B (!(fillK n R 0 0 cols).isEmpty)] ∧ Pre M N := by
  refine callsR_run K.impl_firstTable rfl ?_
  simp (disch := omega) only [C.impl_firstTable, ↓SXd, SXu, slBounds, ↓sop, ↓aop, ↓reduceIte, LV.cells, AOp.dst, LV.I, LV.B, LV.U, LV.S, LV.nil, Nat.reduceEqDiff, Nat.reduceAdd, Nat.reduceMul, Nat.reduceSub, Nat.reduceLeDiff, Nat.reduceBEq, Nat.reduceDiv, Nat.reduceMod, Int.reduceToNat, Int.reduceLT, Int.reduceLE, Int.reduceAdd, Int.reduceSub, Int.reduceMul, Int.reduceEq, Int.reduceNeg, reduceCtorEq, resV, resAll, ARes.ev, LV.flat, ite_true, ite_false, exists_eq_left', exists_eq_left, keyOf, implies_true, fillC, capOf]
  have htb := g_tables (n := n) (R := R) (cols := cols) (once := true) (B := M) (M := M ++ [some (.row [.U 0] true 0), some (.row [.B false] true 0)]) (tr := tr) (tc := tc) (cc := [M.length, M.length + 1]) (fv := F.impl_firstTable_1) (cps := [(M.length, 0), (M.length + 1, 0)])
    (Inv := fun w P N => Live N M.length (.row [.W (firstW P)] true 0) ∧ Live N (M.length + 1) (.row [.B (!P.isEmpty)] true 0) ∧ w ≠ M.length ∧ w ≠ M.length + 1)
    hn hR4 hRb hRI hCI hcn hcb (Pre.app _ _) (fun c hc => by
      simp at hc
      simp; omega) hfb
    (fun w hw N hp => ⟨Live.new.pre hp, (Live.newj (j := 1) rfl).pre hp, by simp at hw; omega, by simp at hw; omega⟩)
    (fun {w P N N'} h k1 k2 => ⟨Live.at h.1 (k2 _ h.1.lt (fun e => h.2.2.1 e.symm)), Live.at h.2.1 (k2 _ h.2.1.lt (fun e => h.2.2.2 e.symm)), h.2.2⟩)
    (fun {w P T N} hz h hT hb => (g_visitF (k := 0) h.1 h.2.1).mono fun r N' hr => ⟨hr.1, hr.2.1, hr.2.2.1, by rw [hz rfl]; exact hr.2.2.2.1, by rw [hz rfl]; exact hr.2.2.2.2, h.2.2⟩)
  refine callR_of htb ?_
  rintro _ N ⟨k1, k2, w, l1, l2, _⟩
  have e1 : firstW (selP true (fillK n R 0 0 cols)) = firstW (fillK n R 0 0 cols) := by
    cases fillK n R 0 0 cols <;> rfl
  have e2 : (selP true (fillK n R 0 0 cols)).isEmpty = (fillK n R 0 0 cols).isEmpty := by
    cases fillK n R 0 0 cols <;> rfl
  rw [e1] at l1
  rw [e2] at l2
  simp (disch := omega) only [l1.cell, l2.cell, ↓SXd, SXu, slBounds, ↓sop, ↓aop, ↓reduceIte, LV.cells, AOp.dst, LV.I, LV.B, LV.U, LV.S, LV.nil, Nat.reduceEqDiff, Nat.reduceAdd, Nat.reduceMul, Nat.reduceSub, Nat.reduceLeDiff, Nat.reduceBEq, Nat.reduceDiv, Nat.reduceMod, Int.reduceToNat, Int.reduceLT, Int.reduceLE, Int.reduceAdd, Int.reduceSub, Int.reduceMul, Int.reduceEq, Int.reduceNeg, reduceCtorEq, resV, resAll, ARes.ev, LV.flat, ite_true, ite_false, exists_eq_left', exists_eq_left, keyOf, implies_true, fillC, capOf]
  simp only [List.length_append, List.length_cons, List.length_nil] at k1 k2
  exact ⟨rfl, by omega, fun q hq => by rw [k2 q (by omega) (by simp; omega), List.getElem?_append_left hq]⟩
end Go.Ab

/- The abstract code of some functions (written by a program of mine from the translation, by way of prepF). -/
namespace Go.Ab.C
open Go.Ab
def spec_FirstAlike : AFn :=
 ⟨3, 97, [.cellN 6 4, .tmp 7],
 .seq (.ops [(none, .box 3 (.t 0)),
 (none, .alloc 6 [(.I 0), (.I 0), (.I 0), .nil]),
 (none, .mv 7 (.c (.B false)))])
 (.seq (.seq (.ops [(none, .loadN 19 4 (.t 3)),
 (none, .mv 20 (.t 1)),
 (none, .mv 21 (.t 2)),
 (none, .call (some 22) F.spec_l4Two [(.t 19), (.t 20), (.t 21)]),
 (none, .un 23 .not (.t 22))])
 (.cond (.t 23) (.seq (.ops [(none, .build 24 [(.I 0), (.I 0), (.I 0), .nil] []),
 (none, .store 4 (.t 6) (.t 24)),
 (none, .mv 7 (.c (.B false)))])
 (.ret))
 (.skip)))
 (.seq (.draw [⟨(none, .mv 25 (.t 1)), [], []⟩,
 ⟨(none, .mv 26 (.t 2)), [], []⟩,
 ⟨(none, .fieldAddr 28 (.t 3) 0), [], []⟩,
 ⟨(none, .load1 29 (.t 28)), [], []⟩,
 ⟨(none, .fieldAddr 30 (.t 3) 1), [], []⟩,
 ⟨(none, .load1 31 (.t 30)), [], []⟩,
 ⟨(none, .fieldAddr 32 (.t 3) 2), [], []⟩,
 ⟨(none, .load1 33 (.t 32)), [], []⟩,
 ⟨(none, .alloc 9 [(.I 0), (.I 0), (.I 0), .nil]), [], []⟩,
 ⟨(none, .call (some 27) F.spec_l4Third [(.t 25), (.t 26)]), [8], [2, 3, 4, 5, 6, 7]⟩,
 ⟨(none, .call (some 34) F.spec_l2Empty [(.t 29), (.t 31), (.t 33)]), [8], []⟩,
 ⟨(none, .mv 8 (.t 27)), [], []⟩,
 ⟨(none, .store 4 (.t 9) (.t 34)), [], []⟩])
 (.seq (.ops [(none, .mv 36 (.t 8)),
 (none, .call (some 37) F.spec_l2Others [(.t 36)]),
 (none, .mv 35 (.t 37)),
 (none, .extract 38 (.t 35) 0),
 (none, .extract 39 (.t 35) 1),
 (none, .mv 10 (.t 38)),
 (none, .mv 11 (.t 39))])
 (.seq (.seq (.ops [(none, .mv 12 (.c (.I 0)))])
 (.block 0 (.loop (.seq (.seq (.ops [(none, .mv 40 (.t 12)),
 (none, .loadN 41 4 (.t 3)),
 (none, .mv 42 (.t 8)),
 (none, .call (some 43) F.spec_l2Long [(.t 41), (.t 42)]),
 (none, .bin 44 .lss (.t 40) (.t 43))])
 (.cond (.t 44) (.skip)
 (.exit 0)))
 (.seq (.block 1 (.seq (.ops [(none, .loadN 48 4 (.t 3)),
 (none, .mv 49 (.t 8)),
 (none, .mv 50 (.t 12)),
 (none, .call (some 51) F.spec_l2Layer [(.t 48), (.t 49), (.t 50)]),
 (none, .call (some 52) F.spec_l4Sums [(.t 51)]),
 (none, .mv 47 (.t 52)),
 (none, .extract 53 (.t 47) 0),
 (none, .extract 54 (.t 47) 1),
 (none, .mv 13 (.t 53)),
 (none, .mv 14 (.t 54))])
 (.seq (.ops [(none, .mv 55 (.t 13)),
 (none, .mv 56 (.t 14)),
 (none, .call (some 57) F.spec_l4Tables [(.t 55), (.t 56)]),
 (none, .idxS 58 1 (.t 57) (.c (.I 0))),
 (none, .load1 59 (.t 58)),
 (none, .mv 15 (.t 59))])
 (.seq (.ops [(none, .mv 16 (.c (.I 0)))])
 (.block 2 (.loop (.seq (.seq (.ops [(none, .mv 60 (.t 16)),
 (none, .mv 61 (.t 15)),
 (none, .len 62 (.t 61)),
 (none, .bin 63 .lss (.t 60) (.t 62))])
 (.cond (.t 63) (.skip)
 (.exit 2)))
 (.seq (.block 3 (.seq (.ops [(none, .mv 17 (.c (.I 0)))])
 (.block 4 (.loop (.seq (.seq (.ops [(none, .mv 66 (.t 17)),
 (none, .mv 67 (.t 15)),
 (none, .mv 68 (.t 16)),
 (none, .idxS 69 1 (.t 67) (.t 68)),
 (none, .load1 70 (.t 69)),
 (none, .len 71 (.t 70)),
 (none, .bin 72 .lss (.t 66) (.t 71))])
 (.cond (.t 72) (.skip)
 (.exit 4)))
 (.seq (.block 5 (.seq (.ops [(none, .build 75 [(.I 0), (.I 0), (.I 0)] []),
 (none, .alloc 18 [(.I 0), (.I 0), (.I 0)]),
 (none, .store 3 (.t 18) (.t 75))])
 (.seq (.ops [(none, .mv 76 (.t 8)),
 (none, .mv 77 (.t 12)),
 (none, .idxA 78 3 1 (.t 18) (.t 76)),
 (none, .store 1 (.t 78) (.t 77))])
 (.seq (.ops [(none, .mv 79 (.t 10)),
 (none, .mv 80 (.t 16)),
 (none, .idxA 81 3 1 (.t 18) (.t 79)),
 (none, .store 1 (.t 81) (.t 80))])
 (.seq (.ops [(none, .mv 82 (.t 11)),
 (none, .mv 83 (.t 17)),
 (none, .idxA 84 3 1 (.t 18) (.t 82)),
 (none, .store 1 (.t 84) (.t 83))])
 (.seq (.ops [(none, .mv 85 (.t 15)),
 (none, .mv 86 (.t 16)),
 (none, .idxS 87 1 (.t 85) (.t 86)),
 (none, .load1 88 (.t 87)),
 (none, .mv 89 (.t 17)),
 (none, .idxS 90 1 (.t 88) (.t 89)),
 (none, .load1 91 (.t 90)),
 (none, .bin 92 .eql (.t 91) (.c (.I 1)))])
 (.cond (.t 92) (.ops [(none, .loadN 93 4 (.t 9)),
 (none, .loadN 94 3 (.t 18)),
 (none, .call (some 95) F.spec_l2With [(.t 93), (.t 94)]),
 (none, .store 4 (.t 9) (.t 95))])
 (.skip))))))))
 (.ops [(none, .mv 73 (.t 17)),
 (none, .bin 74 .add (.t 73) (.c (.I 1))),
 (none, .mv 17 (.t 74))])))))))
 (.ops [(none, .mv 64 (.t 16)),
 (none, .bin 65 .add (.t 64) (.c (.I 1))),
 (none, .mv 16 (.t 65))])))))))))
 (.ops [(none, .mv 45 (.t 12)),
 (none, .bin 46 .add (.t 45) (.c (.I 1))),
 (none, .mv 12 (.t 46))]))))))
 (.seq (.ops [(none, .loadN 96 4 (.t 9)),
 (none, .store 4 (.t 6) (.t 96)),
 (none, .mv 7 (.c (.B true)))])
 (.ret))))))⟩
end Go.Ab.C

/- That the program has this code. -/
namespace Go.Ab.K
open Go Go.Ab
theorem spec_FirstAlike : prepF Go.Proofs.Try.prog F.spec_FirstAlike = some C.spec_FirstAlike := by kernel_rfl
end Go.Ab.K

/- The abstract code of some functions (written by a program of mine from the translation, by way of prepF). -/
namespace Go.Ab.C
open Go.Ab
end Go.Ab.C

/- That the program has this code. -/
namespace Go.Ab.K
open Go Go.Ab
end Go.Ab.K

/- Plain words: sinking. -/
namespace Go.Ab

def up (c : Cell) : Cell := ⟨c.a, c.b, c.c + 1⟩
def down (c : Cell) : Cell := ⟨c.a, c.b, c.c - 1⟩
noncomputable def hang (x y z : Int) (p : Cell → Bool) : Cell → Bool := fun c => p c && !stand x y z p c
noncomputable def sinkNext (x y z : Int) (p : Cell → Bool) : Cell → Bool := fun d => stand x y z p d || (decide ((up d).inBox x y z) && hang x y z p (up d))
/-- The first k cubes that hang have sunk. -/
noncomputable def sinkK (x y z : Int) (p : Cell → Bool) (k : Nat) : Cell → Bool := fun d => stand x y z p d || ((pick x y z (hang x y z p)).take k).any fun e => decide (d = down e)
noncomputable def sink (x y z : Int) : Nat → (Cell → Bool) → (Cell → Bool) × Nat
  | 0, p => (p, 0)
  | f + 1, p => if Firm x y z p then (p, 0) else ((sink x y z f (sinkNext x y z p)).1, (sink x y z f (sinkNext x y z p)).2 + 1)

def sumC (l : List Cell) : Nat := (l.map fun c => c.c.toNat).sum
section
variable {x y z : Int} (hS : Sides x y z)
include hS
end
end Go.Ab

/- Contracts: sinking, both sides. -/
namespace Go.Ab
open Go
set_option linter.unusedSimpArgs false
set_option linter.unusedVariables false

/-- What SinkHeap answers. -/
noncomputable def sinkOf (x y z : Int) (cs : List Cell) : Option Hp := by
  classical
  exact if HeapOK x y z cs then some ⟨x, y, z, pick x y z (sink x y z 1000 fun c => decide (c ∈ cs)).1⟩ else none
noncomputable def sinkTimes (x y z : Int) (cs : List Cell) : Int := by
  classical
  exact if HeapOK x y z cs then ((sink x y z 1000 fun c => decide (c ∈ cs)).2 : Nat) else 0
end Go.Ab
