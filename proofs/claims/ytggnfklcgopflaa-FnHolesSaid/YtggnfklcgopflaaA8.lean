/- Parts of the proof of FnHolesSaid: Ia Ib C_Ze K_Ze C_Zd K_Zd C_Zc K_Zc C_Zb K_Zb C_Za K_Za Za C_Yh K_Yh C_Yf K_Yf C_Tl K_Tl C_Tk K_Tk Tk Tl Yf C_Gf K_Gf C_Gc K_Gc Gc Gf Yg Yh Zb C_Yi K_Yi Yi Zc C_Wb K_Wb Va Wa C_Uk K_Uk C_Uj K_Uj C_Ui K_Ui Ui Uj Uk Wb Zd Ze Zf Ic Qc C_Pc K_Pc C_Pb K_Pb Pa C_Nc K_Nc Nc Pb Oe Pc. -/
import Derived.Test.YtggnfklcgopflaaA7
import Derived.Test.YtggnfklcgopflaaA4
import Derived.Test.YtggnfklcgopflaaA3
import Derived.Test.YtggnfklcgopflaaProg
import Derived.KernelRfl
import Derived.Test.YtggnfklcgopflaaA6
import Derived.Test.YtggnfklcgopflaaA5
set_option linter.all false
namespace Go.Ab
open Go
set_option maxRecDepth 20000

def nearD (p c : Cell) (d : Nat) : Bool := decide (0 ≤ p.at (d : Int) - 2 * c.at (d : Int) ∧ p.at (d : Int) - 2 * c.at (d : Int) ≤ 2)
def nearTo (p c : Cell) : Nat → Bool
  | 0 => true
  | d + 1 => nearTo p c d && nearD p c d
def inBody (cs : List Cell) (p : Cell) : Prop := ∃ c ∈ cs, nearTo p c 3 = true
noncomputable instance {cs : List Cell} {p : Cell} : Decidable (inBody cs p) := Classical.propDecidable _
theorem row_at (c : Cell) {j : Nat} (h : j < 3) : c.row[j]? = some (.I (c.at (j : Int))) := by
  rcases (show j = 0 ∨ j = 1 ∨ j = 2 by omega) with rfl | rfl | rfl <;> rfl
theorem at_in4 {c : Cell} (h : c.inBox 4 4 4) {j : Nat} (hj : j < 3) : 0 ≤ c.at (j : Int) ∧ c.at (j : Int) ≤ 3 := by
  obtain ⟨⟨_, _⟩, ⟨_, _⟩, ⟨_, _⟩⟩ := h
  rcases (show j = 0 ∨ j = 1 ∨ j = 2 by omega) with rfl | rfl | rfl
  · show 0 ≤ c.a ∧ c.a ≤ 3; omega
  · show 0 ≤ c.b ∧ c.b ≤ 3; omega
  · show 0 ≤ c.c ∧ c.c ≤ 3; omega
theorem h_l6In {x y z : Int} {p : Cell} {t o : Nat} {cs : List Cell} {M : Mem} (h : Tri M t o cs) (hn : cs.length ≤ 1000) (hin : ∀ c ∈ cs, c.inBox 4 4 4) (hp : ∀ j : Nat, j < 3 → 0 ≤ p.at (j : Int) ∧ p.at (j : Int) ≤ 8) :
    CallsTo PG F.spec_l6In [.agg [.I x, .I y, .I z, .ref t o cs.length], .agg [.I p.a, .I p.b, .I p.c]] M (.B (decide (inBody cs p))) M := by
  have ht := h.lt
  refine calls_run K.spec_l6In rfl ?_
  simp (disch := omega) only [C.spec_l6In, ↓SXd, SXu, slBounds, ↓sop, ↓aop, ↓reduceIte, LV.cells, AOp.dst, LV.I, LV.B, LV.U, LV.S, LV.nil, Nat.reduceEqDiff, Nat.reduceAdd, Nat.reduceMul, Nat.reduceSub, Nat.reduceLeDiff, Nat.reduceBEq, Nat.reduceDiv, Nat.reduceMod, Int.reduceToNat, Int.reduceLT, Int.reduceLE, Int.reduceAdd, Int.reduceSub, Int.reduceMul, Int.reduceEq, Int.reduceNeg, reduceCtorEq, resV, resAll, ARes.ev, LV.flat, ite_true, ite_false, exists_eq_left', exists_eq_left, keyOf, implies_true, fillC, capOf]
  refine ev_loop (fun m fr M' => ∃ k : Nat, k + m = cs.length ∧ M' = M ++ [some (.row [.I x, .I y, .I z, .ref t o cs.length] true 0), some (.row [.I p.a, .I p.b, .I p.c] true 0)] ∧ (∀ c ∈ cs.take k, nearTo p c 3 = false) ∧
    fr 2 = .ptr M.length 0 ∧ fr 3 = .ptr (M.length + 1) 0 ∧ fr 5 = .I k) cs.length
    ⟨0, by omega, rfl, by simp, rfl, rfl, rfl⟩ ?_
  rintro m fr M' ⟨k, hk, rfl, hall, f2, f3, f5⟩
  simp (disch := omega) only [f2, f3, f5, ↓SXd, SXu, slBounds, ↓sop, ↓aop, ↓reduceIte, LV.cells, AOp.dst, LV.I, LV.B, LV.U, LV.S, LV.nil, Nat.reduceEqDiff, Nat.reduceAdd, Nat.reduceMul, Nat.reduceSub, Nat.reduceLeDiff, Nat.reduceBEq, Nat.reduceDiv, Nat.reduceMod, Int.reduceToNat, Int.reduceLT, Int.reduceLE, Int.reduceAdd, Int.reduceSub, Int.reduceMul, Int.reduceEq, Int.reduceNeg, reduceCtorEq, resV, resAll, ARes.ev, LV.flat, ite_true, ite_false, exists_eq_left', exists_eq_left, keyOf, implies_true, fillC, capOf]
  refine condC_dec (fun hlt => ?_) (fun hlt => ?_)
  · have hkl : k < cs.length := by omega
    have hts : cs.take (k + 1) = cs.take k ++ [cs.getD k default] := by
      rw [List.take_succ, List.getElem?_eq_getElem hkl]; simp [hkl]
    have hcm := getD_mem' (d := default) hkl
    have hg := fun (j : Nat) (hj : j < 3) => Tri.get1 (h.app (L := [some (.row [.I x, .I y, .I z, .ref t o cs.length] true 0), some (.row [.I p.a, .I p.b, .I p.c] true 0)])) hkl hj
    have hc4 := hin _ hcm
    generalize cs.getD k default = c at hts hcm hg hc4
    simp (disch := omega) only [f2, f3, f5, ↓SXd, SXu, slBounds, ↓sop, ↓aop, ↓reduceIte, LV.cells, AOp.dst, LV.I, LV.B, LV.U, LV.S, LV.nil, Nat.reduceEqDiff, Nat.reduceAdd, Nat.reduceMul, Nat.reduceSub, Nat.reduceLeDiff, Nat.reduceBEq, Nat.reduceDiv, Nat.reduceMod, Int.reduceToNat, Int.reduceLT, Int.reduceLE, Int.reduceAdd, Int.reduceSub, Int.reduceMul, Int.reduceEq, Int.reduceNeg, reduceCtorEq, resV, resAll, ARes.ev, LV.flat, ite_true, ite_false, exists_eq_left', exists_eq_left, keyOf, implies_true, fillC, capOf]
    refine ev_loop (fun m2 fr2 M2 => ∃ j : Nat, j + m2 = 3 ∧ M2 = M ++ [some (.row [.I x, .I y, .I z, .ref t o cs.length] true 0), some (.row [.I p.a, .I p.b, .I p.c] true 0)] ∧
      fr2 2 = .ptr M.length 0 ∧ fr2 3 = .ptr (M.length + 1) 0 ∧ fr2 5 = .I k ∧ fr2 6 = .B (nearTo p c j) ∧ fr2 7 = .I j) 3
      ⟨0, by omega, rfl, f2, f3, f5, rfl, rfl⟩ ?_
    clear f2 f3 f5
    rintro m2 fr2 M2 ⟨j, hj, rfl, g2, g3, g5, g6, g7⟩
    have hnx : nearTo p c (j + 1) = (nearTo p c j && nearD p c j) := rfl
    by_cases hj3 : j < 3
    · have hgj := hg j hj3
      rw [row_at c hj3] at hgj
      have hpj : [LV.val (.int .i64 p.a), LV.val (.int .i64 p.b), LV.val (.int .i64 p.c)][j]? = some (.I (p.at (j : Int))) := row_at p hj3
      have hpb := hp j hj3
      have hcb := at_in4 hc4 hj3
      have hlt2 : (j : Int) < 3 := by omega
      have hnd : nearD p c j = decide (0 ≤ p.at (j : Int) - 2 * c.at (j : Int) ∧ p.at (j : Int) - 2 * c.at (j : Int) ≤ 2) := rfl
      generalize p.at (j : Int) = pv at hpj hpb hnd
      generalize c.at (j : Int) = cv at hgj hcb hnd
      cases hb : nearTo p c j with
      | true =>
        rw [hb, Bool.true_and, hnd] at hnx
        rw [hb] at g6
        simp (disch := omega) only [g2, g3, g5, g6, g7, hlt2, hpj, hgj, Nat.mul_one, Nat.zero_add, ↓SXd, SXu, slBounds, ↓sop, ↓aop, ↓reduceIte, LV.cells, AOp.dst, LV.I, LV.B, LV.U, LV.S, LV.nil, Nat.reduceEqDiff, Nat.reduceAdd, Nat.reduceMul, Nat.reduceSub, Nat.reduceLeDiff, Nat.reduceBEq, Nat.reduceDiv, Nat.reduceMod, Int.reduceToNat, Int.reduceLT, Int.reduceLE, Int.reduceAdd, Int.reduceSub, Int.reduceMul, Int.reduceEq, Int.reduceNeg, reduceCtorEq, resV, resAll, ARes.ev, LV.flat, ite_true, ite_false, exists_eq_left', exists_eq_left, keyOf, implies_true, fillC, capOf]
        refine callK_of h_l1In ?_
        simp (disch := omega) only [g2, g3, g5, g6, g7, ↓SXd, SXu, slBounds, ↓sop, ↓aop, ↓reduceIte, LV.cells, AOp.dst, LV.I, LV.B, LV.U, LV.S, LV.nil, Nat.reduceEqDiff, Nat.reduceAdd, Nat.reduceMul, Nat.reduceSub, Nat.reduceLeDiff, Nat.reduceBEq, Nat.reduceDiv, Nat.reduceMod, Int.reduceToNat, Int.reduceLT, Int.reduceLE, Int.reduceAdd, Int.reduceSub, Int.reduceMul, Int.reduceEq, Int.reduceNeg, reduceCtorEq, resV, resAll, ARes.ev, LV.flat, ite_true, ite_false, exists_eq_left', exists_eq_left, keyOf, implies_true, fillC, capOf]
        exact ⟨m2 - 1, by omega, j + 1, by omega, rfl, g2, g3, g5, by rw [hnx]; rfl, eqI (natI _)⟩
      | false =>
        rw [hb, Bool.false_and] at hnx
        rw [hb] at g6
        simp (disch := omega) only [g2, g3, g5, g6, g7, hlt2, ↓SXd, SXu, slBounds, ↓sop, ↓aop, ↓reduceIte, LV.cells, AOp.dst, LV.I, LV.B, LV.U, LV.S, LV.nil, Nat.reduceEqDiff, Nat.reduceAdd, Nat.reduceMul, Nat.reduceSub, Nat.reduceLeDiff, Nat.reduceBEq, Nat.reduceDiv, Nat.reduceMod, Int.reduceToNat, Int.reduceLT, Int.reduceLE, Int.reduceAdd, Int.reduceSub, Int.reduceMul, Int.reduceEq, Int.reduceNeg, reduceCtorEq, resV, resAll, ARes.ev, LV.flat, ite_true, ite_false, exists_eq_left', exists_eq_left, keyOf, implies_true, fillC, capOf]
        exact ⟨m2 - 1, by omega, j + 1, by omega, rfl, g2, g3, g5, by rw [hnx]; rfl, eqI (natI _)⟩
    · have : j = 3 := by omega
      subst this
      have hlt2 : ¬ (((3 : Nat) : Int) < 3) := by omega
      cases hb : nearTo p c 3 with
      | true =>
        rw [hb] at g6
        simp (disch := omega) only [g2, g3, g5, g6, g7, hlt2, ↓SXd, SXu, slBounds, ↓sop, ↓aop, ↓reduceIte, LV.cells, AOp.dst, LV.I, LV.B, LV.U, LV.S, LV.nil, Nat.reduceEqDiff, Nat.reduceAdd, Nat.reduceMul, Nat.reduceSub, Nat.reduceLeDiff, Nat.reduceBEq, Nat.reduceDiv, Nat.reduceMod, Int.reduceToNat, Int.reduceLT, Int.reduceLE, Int.reduceAdd, Int.reduceSub, Int.reduceMul, Int.reduceEq, Int.reduceNeg, reduceCtorEq, resV, resAll, ARes.ev, LV.flat, ite_true, ite_false, exists_eq_left', exists_eq_left, keyOf, implies_true, fillC, capOf]
        rw [decide_eq_true (show inBody cs p from ⟨c, hcm, hb⟩)]
        exact cmp_pre (Pre.app _ _) rfl
      | false =>
        rw [hb] at g6
        simp (disch := omega) only [g2, g3, g5, g6, g7, hlt2, ↓SXd, SXu, slBounds, ↓sop, ↓aop, ↓reduceIte, LV.cells, AOp.dst, LV.I, LV.B, LV.U, LV.S, LV.nil, Nat.reduceEqDiff, Nat.reduceAdd, Nat.reduceMul, Nat.reduceSub, Nat.reduceLeDiff, Nat.reduceBEq, Nat.reduceDiv, Nat.reduceMod, Int.reduceToNat, Int.reduceLT, Int.reduceLE, Int.reduceAdd, Int.reduceSub, Int.reduceMul, Int.reduceEq, Int.reduceNeg, reduceCtorEq, resV, resAll, ARes.ev, LV.flat, ite_true, ite_false, exists_eq_left', exists_eq_left, keyOf, implies_true, fillC, capOf]
        exact ⟨m - 1, by omega, k + 1, by omega, rfl, fun e he => by
          rw [hts] at he
          rcases List.mem_append.1 he with he | he
          · exact hall e he
          · rw [List.mem_singleton.1 he]; exact hb, g2, g3, eqI (natI _)⟩
  · simp (disch := omega) only [f2, f3, f5, ↓SXd, SXu, slBounds, ↓sop, ↓aop, ↓reduceIte, LV.cells, AOp.dst, LV.I, LV.B, LV.U, LV.S, LV.nil, Nat.reduceEqDiff, Nat.reduceAdd, Nat.reduceMul, Nat.reduceSub, Nat.reduceLeDiff, Nat.reduceBEq, Nat.reduceDiv, Nat.reduceMod, Int.reduceToNat, Int.reduceLT, Int.reduceLE, Int.reduceAdd, Int.reduceSub, Int.reduceMul, Int.reduceEq, Int.reduceNeg, reduceCtorEq, resV, resAll, ARes.ev, LV.flat, ite_true, ite_false, exists_eq_left', exists_eq_left, keyOf, implies_true, fillC, capOf]
    have : k = cs.length := by omega
    subst this
    rw [List.take_length] at hall
    rw [decide_eq_false (show ¬ inBody cs p from fun ⟨c, hc, e⟩ => by rw [hall c hc] at e; cases e)]
    exact cmp_pre (Pre.app _ _) rfl
end Go.Ab

namespace Go.Ab
open Go
set_option maxRecDepth 20000

def kindOf (x y z : Nat) : Nat := x % 2 + y % 2 + z % 2
noncomputable def addPt (cs : List Cell) (x y z : Nat) (out : List Int) : List Int := if inBody cs ⟨x, y, z⟩ then out.set (kindOf x y z) (out.getD (kindOf x y z) 0 + 1) else out
noncomputable def lineF (cs : List Cell) (x y : Nat) : Nat → List Int → List Int
  | 0, out => out
  | k + 1, out => addPt cs x y k (lineF cs x y k out)
noncomputable def planeF (cs : List Cell) (x nz : Nat) : Nat → List Int → List Int
  | 0, out => out
  | j + 1, out => lineF cs x j nz (planeF cs x nz j out)
noncomputable def gridF (cs : List Cell) (ny nz : Nat) : Nat → List Int → List Int
  | 0, out => out
  | i + 1, out => planeF cs i nz ny (gridF cs ny nz i out)
def Four (B : Int) (out : List Int) : Prop := out.length = 4 ∧ ∀ k, k < 4 → 0 ≤ out.getD k 0 ∧ out.getD k 0 ≤ B
theorem four_add {cs : List Cell} {x y z : Nat} {B : Int} {out : List Int} (h : Four B out) : Four (B + 1) (addPt cs x y z out) := by
  unfold addPt
  split
  · refine ⟨by rw [List.length_set]; exact h.1, fun k hk => ?_⟩
    have hk0 : kindOf x y z < 4 := by unfold kindOf; omega
    have h1 := h.2 k hk
    have h2 := h.2 _ hk0
    by_cases e : kindOf x y z = k
    · subst e
      have e1 : (out.set (kindOf x y z) (out.getD (kindOf x y z) 0 + 1)).getD (kindOf x y z) 0 = out.getD (kindOf x y z) 0 + 1 := by simp [h.1, hk0]
      rw [e1]; omega
    · have e1 : (out.set (kindOf x y z) (out.getD (kindOf x y z) 0 + 1)).getD k 0 = out.getD k 0 := by
        simp only [List.getD_eq_getElem?_getD]; rw [List.getElem?_set_ne e]
      rw [e1]; omega
  · exact ⟨h.1, fun k hk => by have := h.2 k hk; omega⟩
theorem four_line {cs : List Cell} {x y : Nat} {B : Int} {out : List Int} (h : Four B out) : ∀ {k : Nat}, Four (B + k) (lineF cs x y k out)
  | 0 => by simpa [lineF] using h
  | k + 1 => by
    have := four_add (cs := cs) (x := x) (y := y) (z := k) (out := lineF cs x y k out) (four_line (k := k) h)
    rw [show B + ((k + 1 : Nat) : Int) = B + (k : Int) + 1 by omega]; exact this
theorem four_plane {cs : List Cell} {x nz : Nat} {B : Int} {out : List Int} (h : Four B out) : ∀ {j : Nat}, Four (B + (j * nz : Nat)) (planeF cs x nz j out)
  | 0 => by simpa [planeF] using h
  | j + 1 => by
    have := four_line (cs := cs) (x := x) (y := j) (k := nz) (B := B + ((j * nz : Nat) : Int)) (out := planeF cs x nz j out) (four_plane (j := j) h)
    rw [show B + (((j + 1) * nz : Nat) : Int) = B + ((j * nz : Nat) : Int) + (nz : Int) by rw [Nat.succ_mul]; omega]; exact this
theorem four_grid {cs : List Cell} {ny nz : Nat} {B : Int} {out : List Int} (h : Four B out) : ∀ {i : Nat}, Four (B + (i * (ny * nz) : Nat)) (gridF cs ny nz i out)
  | 0 => by simpa [gridF] using h
  | i + 1 => by
    have := four_plane (cs := cs) (x := i) (nz := nz) (j := ny) (B := B + ((i * (ny * nz) : Nat) : Int)) (out := gridF cs ny nz i out) (four_grid (i := i) h)
    rw [show B + (((i + 1) * (ny * nz) : Nat) : Int) = B + ((i * (ny * nz) : Nat) : Int) + ((ny * nz : Nat) : Int) by rw [Nat.succ_mul]; omega]; exact this
theorem intL_set' {xs : List Int} {k : Nat} {v : Int} : (intL xs).set k (.I v) = intL (xs.set k v) := by simp [intL, List.map_set]
noncomputable def countsOf (x y z : Int) (cs : List Cell) : List Int := gridF cs (2 * y + 1).toNat (2 * z + 1).toNat (2 * x + 1).toNat [0, 0, 0, 0]
theorem h_l6Counts {x y z : Int} {t o : Nat} {cs : List Cell} {M : Mem} (h : Tri M t o cs) (hH : HeapOK x y z cs) :
    CallsTo PG F.spec_l6Counts [.agg [.I x, .I y, .I z, .ref t o cs.length]] M (.agg (intL (countsOf x y z cs))) M := by
  have hS := hH.1
  have hlen := hH.len
  have ht := h.lt
  have hin : ∀ c ∈ cs, c.inBox 4 4 4 := fun c hc => box4 hS (hH.mem hc)
  obtain ⟨⟨_, _⟩, ⟨_, _⟩, ⟨_, _⟩⟩ := id hS
  obtain ⟨nx, hnx⟩ : ∃ n : Nat, (n : Int) = 2 * x + 1 := ⟨(2 * x + 1).toNat, by omega⟩
  obtain ⟨ny, hny⟩ : ∃ n : Nat, (n : Int) = 2 * y + 1 := ⟨(2 * y + 1).toNat, by omega⟩
  obtain ⟨nz, hnz⟩ : ∃ n : Nat, (n : Int) = 2 * z + 1 := ⟨(2 * z + 1).toNat, by omega⟩
  have hco : countsOf x y z cs = gridF cs ny nz nx [0, 0, 0, 0] := by
    unfold countsOf
    rw [← hnx, ← hny, ← hnz, Int.toNat_natCast, Int.toNat_natCast, Int.toNat_natCast]
  rw [hco]
  have h4 : Four 0 [0, 0, 0, 0] := ⟨rfl, fun k hk => by
    rcases (show k = 0 ∨ k = 1 ∨ k = 2 ∨ k = 3 by omega) with rfl | rfl | rfl | rfl <;> simp⟩
  have hyz : ny * nz ≤ 81 := Nat.le_trans (Nat.mul_le_mul (show ny ≤ 9 by omega) (show nz ≤ 9 by omega)) (by omega)
  have hb1 : ∀ i, i ≤ nx → i * (ny * nz) ≤ 729 := fun i hi => Nat.le_trans (Nat.mul_le_mul (show i ≤ 9 by omega) hyz) (by omega)
  have hb2 : ∀ j, j ≤ ny → j * nz ≤ 81 := fun j hj => Nat.le_trans (Nat.mul_le_mul (show j ≤ 9 by omega) (show nz ≤ 9 by omega)) (by omega)
  refine calls_run K.spec_l6Counts rfl ?_
  simp (disch := omega) only [C.spec_l6Counts, splice, ↓SXd, SXu, slBounds, ↓sop, ↓aop, ↓reduceIte, LV.cells, AOp.dst, LV.I, LV.B, LV.U, LV.S, LV.nil, Nat.reduceEqDiff, Nat.reduceAdd, Nat.reduceMul, Nat.reduceSub, Nat.reduceLeDiff, Nat.reduceBEq, Nat.reduceDiv, Nat.reduceMod, Int.reduceToNat, Int.reduceLT, Int.reduceLE, Int.reduceAdd, Int.reduceSub, Int.reduceMul, Int.reduceEq, Int.reduceNeg, reduceCtorEq, resV, resAll, ARes.ev, LV.flat, ite_true, ite_false, exists_eq_left', exists_eq_left, keyOf, implies_true, fillC, capOf]
  refine ev_loop (fun m fr M' => ∃ i : Nat, i + m = nx ∧ Pre M M' ∧ Live M' M.length (.row [.I x, .I y, .I z, .ref t o cs.length] true 0) ∧ Live M' (M.length + 1) (.row [.I 0, .I 0, .I 0, .I 0] true 0) ∧ Live M' (M.length + 2) (.row (intL (gridF cs ny nz i [0, 0, 0, 0])) true 0) ∧
    fr 1 = .ptr M.length 0 ∧ fr 2 = .ptr (M.length + 1) 0 ∧ fr 3 = .ptr (M.length + 2) 0 ∧ fr 4 = .I i) nx
    ⟨0, by omega, Pre.app _ _, Live.new, Live.newj rfl, Live.newj rfl, rfl, rfl, rfl, rfl⟩ ?_
  rintro m fr M' ⟨i, hi, hpre, b1, b2, b3, f1, f2, f3, f4⟩
  simp (disch := omega) only [f1, f2, f3, f4, b1.cell, ↓SXd, SXu, slBounds, ↓sop, ↓aop, ↓reduceIte, LV.cells, AOp.dst, LV.I, LV.B, LV.U, LV.S, LV.nil, Nat.reduceEqDiff, Nat.reduceAdd, Nat.reduceMul, Nat.reduceSub, Nat.reduceLeDiff, Nat.reduceBEq, Nat.reduceDiv, Nat.reduceMod, Int.reduceToNat, Int.reduceLT, Int.reduceLE, Int.reduceAdd, Int.reduceSub, Int.reduceMul, Int.reduceEq, Int.reduceNeg, reduceCtorEq, resV, resAll, ARes.ev, LV.flat, ite_true, ite_false, exists_eq_left', exists_eq_left, keyOf, implies_true, fillC, capOf]
  have hg4 := four_grid (cs := cs) (ny := ny) (nz := nz) h4 (i := i)
  refine condC_dec (fun hlt => ?_) (fun hlt => ?_)
  · have hbi := hb1 i (by omega)
    generalize hout : gridF cs ny nz i [0, 0, 0, 0] = out at b3 hg4
    simp (disch := omega) only [f1, f2, f3, f4, ↓SXd, SXu, slBounds, ↓sop, ↓aop, ↓reduceIte, LV.cells, AOp.dst, LV.I, LV.B, LV.U, LV.S, LV.nil, Nat.reduceEqDiff, Nat.reduceAdd, Nat.reduceMul, Nat.reduceSub, Nat.reduceLeDiff, Nat.reduceBEq, Nat.reduceDiv, Nat.reduceMod, Int.reduceToNat, Int.reduceLT, Int.reduceLE, Int.reduceAdd, Int.reduceSub, Int.reduceMul, Int.reduceEq, Int.reduceNeg, reduceCtorEq, resV, resAll, ARes.ev, LV.flat, ite_true, ite_false, exists_eq_left', exists_eq_left, keyOf, implies_true, fillC, capOf]
    refine ev_loop (fun m2 fr M2 => ∃ j : Nat, j + m2 = ny ∧ Pre M M2 ∧ Live M2 M.length (.row [.I x, .I y, .I z, .ref t o cs.length] true 0) ∧ Live M2 (M.length + 1) (.row [.I 0, .I 0, .I 0, .I 0] true 0) ∧ Live M2 (M.length + 2) (.row (intL (planeF cs i nz j out)) true 0) ∧
      fr 1 = .ptr M.length 0 ∧ fr 2 = .ptr (M.length + 1) 0 ∧ fr 3 = .ptr (M.length + 2) 0 ∧ fr 4 = .I i ∧ fr 5 = .I j) ny
      ⟨0, by omega, hpre, b1, b2, b3, f1, f2, f3, f4, rfl⟩ ?_
    clear f1 f2 f3 f4 b1 b2 b3
    rintro m2 fr M2 ⟨j, hj, hpre, b1, b2, b3, f1, f2, f3, f4, f5⟩
    simp (disch := omega) only [f1, f2, f3, f4, f5, b1.cell, ↓SXd, SXu, slBounds, ↓sop, ↓aop, ↓reduceIte, LV.cells, AOp.dst, LV.I, LV.B, LV.U, LV.S, LV.nil, Nat.reduceEqDiff, Nat.reduceAdd, Nat.reduceMul, Nat.reduceSub, Nat.reduceLeDiff, Nat.reduceBEq, Nat.reduceDiv, Nat.reduceMod, Int.reduceToNat, Int.reduceLT, Int.reduceLE, Int.reduceAdd, Int.reduceSub, Int.reduceMul, Int.reduceEq, Int.reduceNeg, reduceCtorEq, resV, resAll, ARes.ev, LV.flat, ite_true, ite_false, exists_eq_left', exists_eq_left, keyOf, implies_true, fillC, capOf]
    have hg5 := four_plane (cs := cs) (x := i) (nz := nz) hg4 (j := j)
    refine condC_dec (fun hlt2 => ?_) (fun hlt2 => ?_)
    · have hbj := hb2 j (by omega)
      generalize hout2 : planeF cs i nz j out = out2 at b3 hg5
      simp (disch := omega) only [f1, f2, f3, f4, f5, ↓SXd, SXu, slBounds, ↓sop, ↓aop, ↓reduceIte, LV.cells, AOp.dst, LV.I, LV.B, LV.U, LV.S, LV.nil, Nat.reduceEqDiff, Nat.reduceAdd, Nat.reduceMul, Nat.reduceSub, Nat.reduceLeDiff, Nat.reduceBEq, Nat.reduceDiv, Nat.reduceMod, Int.reduceToNat, Int.reduceLT, Int.reduceLE, Int.reduceAdd, Int.reduceSub, Int.reduceMul, Int.reduceEq, Int.reduceNeg, reduceCtorEq, resV, resAll, ARes.ev, LV.flat, ite_true, ite_false, exists_eq_left', exists_eq_left, keyOf, implies_true, fillC, capOf]
      refine ev_loop (fun m3 fr M3 => ∃ k : Nat, k + m3 = nz ∧ Pre M M3 ∧ Live M3 M.length (.row [.I x, .I y, .I z, .ref t o cs.length] true 0) ∧ Live M3 (M.length + 1) (.row [.I 0, .I 0, .I 0, .I 0] true 0) ∧ Live M3 (M.length + 2) (.row (intL (lineF cs i j k out2)) true 0) ∧
        fr 1 = .ptr M.length 0 ∧ fr 2 = .ptr (M.length + 1) 0 ∧ fr 3 = .ptr (M.length + 2) 0 ∧ fr 4 = .I i ∧ fr 5 = .I j ∧ fr 6 = .I k) nz
        ⟨0, by omega, hpre, b1, b2, b3, f1, f2, f3, f4, f5, rfl⟩ ?_
      clear f1 f2 f3 f4 f5 b1 b2 b3
      rintro m3 fr M3 ⟨k, hk, hpre, b1, b2, b3, f1, f2, f3, f4, f5, f6⟩
      simp (disch := omega) only [f1, f2, f3, f4, f5, f6, b1.cell, ↓SXd, SXu, slBounds, ↓sop, ↓aop, ↓reduceIte, LV.cells, AOp.dst, LV.I, LV.B, LV.U, LV.S, LV.nil, Nat.reduceEqDiff, Nat.reduceAdd, Nat.reduceMul, Nat.reduceSub, Nat.reduceLeDiff, Nat.reduceBEq, Nat.reduceDiv, Nat.reduceMod, Int.reduceToNat, Int.reduceLT, Int.reduceLE, Int.reduceAdd, Int.reduceSub, Int.reduceMul, Int.reduceEq, Int.reduceNeg, reduceCtorEq, resV, resAll, ARes.ev, LV.flat, ite_true, ite_false, exists_eq_left', exists_eq_left, keyOf, implies_true, fillC, capOf]
      have hg6 := four_line (cs := cs) (x := i) (y := j) hg5 (k := k)
      refine condC_dec (fun hlt3 => ?_) (fun hlt3 => ?_)
      · have hsucc : lineF cs i j (k + 1) out2 = addPt cs i j k (lineF cs i j k out2) := rfl
        generalize lineF cs i j k out2 = out3 at b3 hg6 hsucc
        unfold addPt at hsucc
        simp (disch := omega) only [f1, f2, f3, f4, f5, f6, b1.cells, ↓SXd, SXu, slBounds, ↓sop, ↓aop, ↓reduceIte, LV.cells, AOp.dst, LV.I, LV.B, LV.U, LV.S, LV.nil, Nat.reduceEqDiff, Nat.reduceAdd, Nat.reduceMul, Nat.reduceSub, Nat.reduceLeDiff, Nat.reduceBEq, Nat.reduceDiv, Nat.reduceMod, Int.reduceToNat, Int.reduceLT, Int.reduceLE, Int.reduceAdd, Int.reduceSub, Int.reduceMul, Int.reduceEq, Int.reduceNeg, reduceCtorEq, resV, resAll, ARes.ev, LV.flat, ite_true, ite_false, exists_eq_left', exists_eq_left, keyOf, implies_true, fillC, capOf]
        refine callK_of (h_l6In (p := ⟨(i : Int), (j : Int), (k : Int)⟩) (h.pre hpre) (by omega) hin (fun d hd => by
          rcases (show d = 0 ∨ d = 1 ∨ d = 2 by omega) with rfl | rfl | rfl
          · show 0 ≤ (i : Int) ∧ (i : Int) ≤ 8; omega
          · show 0 ≤ (j : Int) ∧ (j : Int) ≤ 8; omega
          · show 0 ≤ (k : Int) ∧ (k : Int) ≤ 8; omega)) ?_
        by_cases hbd : inBody cs ⟨(i : Int), (j : Int), (k : Int)⟩
        · rw [if_pos hbd] at hsucc
          rw [decide_eq_true hbd]
          have h20 : ¬ ((2 : Int) = 0) := by omega
          have em : ∀ n : Nat, (n : Int).tmod 2 = ((n % 2 : Nat) : Int) := fun n => by rw [Int.tmod_eq_emod_of_nonneg (by omega)]; omega
          obtain ⟨K, hK⟩ : ∃ K : Nat, K = kindOf i j k := ⟨_, rfl⟩
          have hK4 : K < 4 := by rw [hK]; unfold kindOf; omega
          have hsum : (i : Int).tmod 2 + (j : Int).tmod 2 + (k : Int).tmod 2 = (K : Int) := by rw [em, em, em, hK]; unfold kindOf; omega
          have q1 : 0 ≤ (i : Int).tmod 2 ∧ (i : Int).tmod 2 ≤ 1 := by rw [em]; omega
          have q2 : 0 ≤ (j : Int).tmod 2 ∧ (j : Int).tmod 2 ≤ 1 := by rw [em]; omega
          have q3 : 0 ≤ (k : Int).tmod 2 ∧ (k : Int).tmod 2 ≤ 1 := by rw [em]; omega
          rw [← hK] at hsucc
          have hgK := hg6.2 K hK4
          have hbk : (k : Int) ≤ 9 := by omega
          have hcell : getCell M3 (M.length + 2) K = some (.I (out3.getD K 0)) := by
            have := b3.cell (o := K)
            rw [this, intL_get (by rw [hg6.1]; exact hK4)]
          simp (disch := omega) only [f1, f2, f3, f4, f5, f6, ne_eq, h20, not_false_eq_true, hsum, Nat.mul_one, Nat.zero_add, hcell, ↓SXd, SXu, slBounds, ↓sop, ↓aop, ↓reduceIte, LV.cells, AOp.dst, LV.I, LV.B, LV.U, LV.S, LV.nil, Nat.reduceEqDiff, Nat.reduceAdd, Nat.reduceMul, Nat.reduceSub, Nat.reduceLeDiff, Nat.reduceBEq, Nat.reduceDiv, Nat.reduceMod, Int.reduceToNat, Int.reduceLT, Int.reduceLE, Int.reduceAdd, Int.reduceSub, Int.reduceMul, Int.reduceEq, Int.reduceNeg, reduceCtorEq, resV, resAll, ARes.ev, LV.flat, ite_true, ite_false, exists_eq_left', exists_eq_left, keyOf, implies_true, fillC, capOf]
          refine memK_one b3 (by rw [intL_len, hg6.1]; exact hK4) fun N k1 k2 k3 => ?_
          simp (disch := omega) only [f1, f2, f3, f4, f5, f6, ↓SXd, SXu, slBounds, ↓sop, ↓aop, ↓reduceIte, LV.cells, AOp.dst, LV.I, LV.B, LV.U, LV.S, LV.nil, Nat.reduceEqDiff, Nat.reduceAdd, Nat.reduceMul, Nat.reduceSub, Nat.reduceLeDiff, Nat.reduceBEq, Nat.reduceDiv, Nat.reduceMod, Int.reduceToNat, Int.reduceLT, Int.reduceLE, Int.reduceAdd, Int.reduceSub, Int.reduceMul, Int.reduceEq, Int.reduceNeg, reduceCtorEq, resV, resAll, ARes.ev, LV.flat, ite_true, ite_false, exists_eq_left', exists_eq_left, keyOf, implies_true, fillC, capOf]
          rw [intL_set', ← hsucc] at k2
          exact ⟨m3 - 1, by omega, k + 1, by omega, pre_step hpre (by omega) (j := 0) k1 k3, live_step b1 (by omega) k3, live_step b2 (by omega) k3, k2, f1, f2, f3, f4, f5, eqI (natI _)⟩
        · rw [if_neg hbd] at hsucc
          rw [decide_eq_false hbd]
          simp (disch := omega) only [f1, f2, f3, f4, f5, f6, ↓SXd, SXu, slBounds, ↓sop, ↓aop, ↓reduceIte, LV.cells, AOp.dst, LV.I, LV.B, LV.U, LV.S, LV.nil, Nat.reduceEqDiff, Nat.reduceAdd, Nat.reduceMul, Nat.reduceSub, Nat.reduceLeDiff, Nat.reduceBEq, Nat.reduceDiv, Nat.reduceMod, Int.reduceToNat, Int.reduceLT, Int.reduceLE, Int.reduceAdd, Int.reduceSub, Int.reduceMul, Int.reduceEq, Int.reduceNeg, reduceCtorEq, resV, resAll, ARes.ev, LV.flat, ite_true, ite_false, exists_eq_left', exists_eq_left, keyOf, implies_true, fillC, capOf]
          exact ⟨m3 - 1, by omega, k + 1, by omega, hpre, b1, b2, by rw [hsucc]; exact b3, f1, f2, f3, f4, f5, eqI (natI _)⟩
      · have : k = nz := by omega
        subst this
        simp (disch := omega) only [f1, f2, f3, f4, f5, f6, ↓SXd, SXu, slBounds, ↓sop, ↓aop, ↓reduceIte, LV.cells, AOp.dst, LV.I, LV.B, LV.U, LV.S, LV.nil, Nat.reduceEqDiff, Nat.reduceAdd, Nat.reduceMul, Nat.reduceSub, Nat.reduceLeDiff, Nat.reduceBEq, Nat.reduceDiv, Nat.reduceMod, Int.reduceToNat, Int.reduceLT, Int.reduceLE, Int.reduceAdd, Int.reduceSub, Int.reduceMul, Int.reduceEq, Int.reduceNeg, reduceCtorEq, resV, resAll, ARes.ev, LV.flat, ite_true, ite_false, exists_eq_left', exists_eq_left, keyOf, implies_true, fillC, capOf]
        exact ⟨m2 - 1, by omega, j + 1, by omega, hpre, b1, b2, by rw [show planeF cs i k (j + 1) out = lineF cs i j k (planeF cs i k j out) from rfl, hout2]; exact b3, f1, f2, f3, f4, eqI (natI _)⟩
    · have : j = ny := by omega
      subst this
      simp (disch := omega) only [f1, f2, f3, f4, f5, ↓SXd, SXu, slBounds, ↓sop, ↓aop, ↓reduceIte, LV.cells, AOp.dst, LV.I, LV.B, LV.U, LV.S, LV.nil, Nat.reduceEqDiff, Nat.reduceAdd, Nat.reduceMul, Nat.reduceSub, Nat.reduceLeDiff, Nat.reduceBEq, Nat.reduceDiv, Nat.reduceMod, Int.reduceToNat, Int.reduceLT, Int.reduceLE, Int.reduceAdd, Int.reduceSub, Int.reduceMul, Int.reduceEq, Int.reduceNeg, reduceCtorEq, resV, resAll, ARes.ev, LV.flat, ite_true, ite_false, exists_eq_left', exists_eq_left, keyOf, implies_true, fillC, capOf]
      exact ⟨m - 1, by omega, i + 1, by omega, hpre, b1, b2, by rw [show gridF cs j nz (i + 1) [0, 0, 0, 0] = planeF cs i nz j (gridF cs j nz i [0, 0, 0, 0]) from rfl, hout]; exact b3, f1, f2, f3, eqI (natI _)⟩
  · have : i = nx := by omega
    subst this
    generalize gridF cs ny nz i [0, 0, 0, 0] = out at b3 hg4
    obtain ⟨n0, n1, n2, n3, rfl⟩ : ∃ a b c d, out = [a, b, c, d] := by
      match out, hg4.1 with
      | [a, b, c, d], _ => exact ⟨a, b, c, d, rfl⟩
    have b3' : Live M' (M.length + 2) (.row [.I n0, .I n1, .I n2, .I n3] true 0) := b3
    simp (disch := omega) only [f1, f2, f3, f4, b3'.cells, ↓SXd, SXu, slBounds, ↓sop, ↓aop, ↓reduceIte, LV.cells, AOp.dst, LV.I, LV.B, LV.U, LV.S, LV.nil, Nat.reduceEqDiff, Nat.reduceAdd, Nat.reduceMul, Nat.reduceSub, Nat.reduceLeDiff, Nat.reduceBEq, Nat.reduceDiv, Nat.reduceMod, Int.reduceToNat, Int.reduceLT, Int.reduceLE, Int.reduceAdd, Int.reduceSub, Int.reduceMul, Int.reduceEq, Int.reduceNeg, reduceCtorEq, resV, resAll, ARes.ev, LV.flat, ite_true, ite_false, exists_eq_left', exists_eq_left, keyOf, implies_true, fillC, capOf]
    refine memK_box b2 (by simp) fun N k1 k2 k3 => ?_
    simp (disch := omega) only [f1, f2, f3, f4, k2.cells, ↓SXd, SXu, slBounds, ↓sop, ↓aop, ↓reduceIte, LV.cells, AOp.dst, LV.I, LV.B, LV.U, LV.S, LV.nil, Nat.reduceEqDiff, Nat.reduceAdd, Nat.reduceMul, Nat.reduceSub, Nat.reduceLeDiff, Nat.reduceBEq, Nat.reduceDiv, Nat.reduceMod, Int.reduceToNat, Int.reduceLT, Int.reduceLE, Int.reduceAdd, Int.reduceSub, Int.reduceMul, Int.reduceEq, Int.reduceNeg, reduceCtorEq, resV, resAll, ARes.ev, LV.flat, ite_true, ite_false, exists_eq_left', exists_eq_left, keyOf, implies_true, fillC, capOf]
    exact cmp_pre (pre_step hpre (by omega) (j := 0) k1 k3) rfl
theorem counts_four {x y z : Int} {cs : List Cell} (hS : Sides x y z) : Four 729 (countsOf x y z cs) := by
  obtain ⟨⟨_, _⟩, ⟨_, _⟩, ⟨_, _⟩⟩ := hS
  have h4 : Four 0 [0, 0, 0, 0] := ⟨rfl, fun k hk => by
    rcases (show k = 0 ∨ k = 1 ∨ k = 2 ∨ k = 3 by omega) with rfl | rfl | rfl | rfl <;> simp⟩
  have := four_grid (cs := cs) (ny := (2 * y + 1).toNat) (nz := (2 * z + 1).toNat) h4 (i := (2 * x + 1).toNat)
  have hb : (2 * x + 1).toNat * ((2 * y + 1).toNat * (2 * z + 1).toNat) ≤ 729 :=
    Nat.le_trans (Nat.mul_le_mul (show _ ≤ 9 by omega) (Nat.mul_le_mul (show _ ≤ 9 by omega) (show _ ≤ 9 by omega))) (by omega)
  exact ⟨this.1, fun k hk => by have := this.2 k hk; unfold countsOf; omega⟩
noncomputable def eulerOf (x y z : Int) (cs : List Cell) : Int := (countsOf x y z cs).getD 0 0 - (countsOf x y z cs).getD 1 0 + (countsOf x y z cs).getD 2 0 - (countsOf x y z cs).getD 3 0
theorem h_l6Euler {x y z : Int} {t o : Nat} {cs : List Cell} {M : Mem} (h : Tri M t o cs) (hH : HeapOK x y z cs) :
    CallsTo PG F.spec_l6Euler [.agg [.I x, .I y, .I z, .ref t o cs.length]] M (.I (eulerOf x y z cs)) M := by
  have hc := counts_four (cs := cs) hH.1
  have hcall := h_l6Counts (M := M ++ [some (.row [.I x, .I y, .I z, .ref t o cs.length] true 0)]) h.app hH
  unfold eulerOf
  generalize countsOf x y z cs = out at hc hcall
  obtain ⟨n0, n1, n2, n3, rfl⟩ : ∃ a b c d, out = [a, b, c, d] := by
    match out, hc.1 with
    | [a, b, c, d], _ => exact ⟨a, b, c, d, rfl⟩
  have q0 : 0 ≤ n0 ∧ n0 ≤ 729 := hc.2 0 (by omega)
  have q1 : 0 ≤ n1 ∧ n1 ≤ 729 := hc.2 1 (by omega)
  have q2 : 0 ≤ n2 ∧ n2 ≤ 729 := hc.2 2 (by omega)
  have q3 : 0 ≤ n3 ∧ n3 ≤ 729 := hc.2 3 (by omega)
  refine calls_run K.spec_l6Euler rfl ?_
  simp (disch := omega) only [C.spec_l6Euler, ↓SXd, SXu, slBounds, ↓sop, ↓aop, ↓reduceIte, LV.cells, AOp.dst, LV.I, LV.B, LV.U, LV.S, LV.nil, Nat.reduceEqDiff, Nat.reduceAdd, Nat.reduceMul, Nat.reduceSub, Nat.reduceLeDiff, Nat.reduceBEq, Nat.reduceDiv, Nat.reduceMod, Int.reduceToNat, Int.reduceLT, Int.reduceLE, Int.reduceAdd, Int.reduceSub, Int.reduceMul, Int.reduceEq, Int.reduceNeg, reduceCtorEq, resV, resAll, ARes.ev, LV.flat, ite_true, ite_false, exists_eq_left', exists_eq_left, keyOf, implies_true, fillC, capOf]
  refine callK_of hcall ?_
  change putK _ _ _ (LV.agg [.I n0, .I n1, .I n2, .I n3]) _
  simp (disch := omega) only [splice, ↓SXd, SXu, slBounds, ↓sop, ↓aop, ↓reduceIte, LV.cells, AOp.dst, LV.I, LV.B, LV.U, LV.S, LV.nil, Nat.reduceEqDiff, Nat.reduceAdd, Nat.reduceMul, Nat.reduceSub, Nat.reduceLeDiff, Nat.reduceBEq, Nat.reduceDiv, Nat.reduceMod, Int.reduceToNat, Int.reduceLT, Int.reduceLE, Int.reduceAdd, Int.reduceSub, Int.reduceMul, Int.reduceEq, Int.reduceNeg, reduceCtorEq, resV, resAll, ARes.ev, LV.flat, ite_true, ite_false, exists_eq_left', exists_eq_left, keyOf, implies_true, fillC, capOf]
  exact cmp_pre (Pre.app _ _) rfl
end Go.Ab

namespace Go.Ab.C
open Go.Ab
end Go.Ab.C

namespace Go.Ab.K
open Go Go.Ab
end Go.Ab.K

namespace Go.Ab.C
open Go.Ab
end Go.Ab.C

namespace Go.Ab.K
open Go Go.Ab
end Go.Ab.K

namespace Go.Ab.C
open Go.Ab
end Go.Ab.C

namespace Go.Ab.K
open Go Go.Ab
end Go.Ab.K

namespace Go.Ab.C
open Go.Ab
end Go.Ab.C

namespace Go.Ab.K
open Go Go.Ab
end Go.Ab.K

namespace Go.Ab.C
open Go.Ab
end Go.Ab.C

namespace Go.Ab.K
open Go Go.Ab
end Go.Ab.K

namespace Go.Ab
open Go
set_option maxRecDepth 20000

def SlF (N : Mem) (v : LV) (n : Nat) (Z : List Int) : Prop := Z.length = n * 2 ∧ ((v = .nil ∧ n = 0) ∨ ∃ t, v = .ref t 0 n ∧ Live N t (.row (intL Z) true 2))
theorem SlF.pre {M N : Mem} {v : LV} {n : Nat} {Z : List Int} (h : SlF M v n Z) (hp : Pre M N) : SlF N v n Z := by
  obtain ⟨h0, h | ⟨t, h1, h2⟩⟩ := h
  · exact ⟨h0, .inl h⟩
  · exact ⟨h0, .inr ⟨t, h1, h2.pre hp⟩⟩
theorem SlF.lenV {N : Mem} {v : LV} {n : Nat} {Z : List Int} (h : SlF N v n Z) : lenV v = some (n : Int) := by
  obtain ⟨h0, ⟨rfl, rfl⟩ | ⟨t, rfl, h2⟩⟩ := h <;> rfl
theorem SlF.older {M : Mem} {v : LV} {n : Nat} {Z : List Int} (h : SlF M v n Z) : Older M v := fun t o m e => by
  obtain ⟨h0, ⟨rfl, rfl⟩ | ⟨t', rfl, h2⟩⟩ := h
  · cases e
  · cases e; exact h2.lt
theorem SlF.at {M N : Mem} {w : LV} {n : Nat} {Z : List Int} (h : SlF M w n Z) (hk : ∀ t o m, w = .ref t o m → N[t]? = M[t]?) : SlF N w n Z := by
  obtain ⟨h0, h | ⟨t, h1, h2⟩⟩ := h
  · exact ⟨h0, .inl h⟩
  · refine ⟨h0, .inr ⟨t, h1, ?_⟩⟩
    unfold Live; rw [hk _ _ _ h1]; exact h2
end Go.Ab

namespace Go.Ab.C
open Go.Ab
end Go.Ab.C

namespace Go.Ab.K
open Go Go.Ab
end Go.Ab.K

namespace Go.Ab.C
open Go.Ab
end Go.Ab.C

namespace Go.Ab.K
open Go Go.Ab
end Go.Ab.K

namespace Go.Ab.C
open Go.Ab
end Go.Ab.C

namespace Go.Ab.K
open Go Go.Ab
end Go.Ab.K

namespace Go.Ab.C
open Go.Ab
end Go.Ab.C

namespace Go.Ab.K
open Go Go.Ab
end Go.Ab.K

namespace Go.Ab
open Go

end Go.Ab

namespace Go.Ab
open Go

def leC (a b : Cell) : Prop := a.a ≤ b.a ∧ a.b ≤ b.b ∧ a.c ≤ b.c
end Go.Ab

namespace Go.Ab
open Go
set_option maxRecDepth 20000

def At4 (at' : Cell) : Prop := (0 ≤ at'.a ∧ at'.a ≤ 4) ∧ (0 ≤ at'.b ∧ at'.b ≤ 4) ∧ (0 ≤ at'.c ∧ at'.c ≤ 4)
def PlacedOK (x y z : Int) (fr : Cell → Bool) (l : List Cell) (at' : Cell) : Prop := At4 at' ∧ ∀ c ∈ l, (shift at' c).inBox x y z ∧ fr (shift at' c) = true
noncomputable instance {x y z : Int} {fr : Cell → Bool} {l : List Cell} {at' : Cell} : Decidable (PlacedOK x y z fr l at') := Classical.propDecidable _
instance {at' : Cell} : Decidable (At4 at') := by unfold At4; exact inferInstance
end Go.Ab

namespace Go.Ab.C
open Go.Ab
end Go.Ab.C

namespace Go.Ab.K
open Go Go.Ab
end Go.Ab.K

namespace Go.Ab.C
open Go.Ab
end Go.Ab.C

namespace Go.Ab.K
open Go Go.Ab
end Go.Ab.K

namespace Go.Ab
open Go

end Go.Ab

namespace Go.Ab
open Go

def CssV (N : Mem) (v : LV) (L : List (List Cell)) : Prop := (v = .nil ∧ L = []) ∨ ∃ (t : Nat) (refs : List LV), v = .ref t 0 L.length ∧ Live N t (.row refs true 1) ∧ refs.length = L.length ∧ ∀ i, i < L.length → ∃ r, refs[i]? = some r ∧ CellsV N r (L.getD i [])
def SlCC (M N : Mem) (v : LV) (L : List (List Cell)) : Prop := (v = .nil ∧ L = []) ∨ ∃ (t : Nat) (refs : List LV), v = .ref t 0 L.length ∧ M.length ≤ t ∧ Live N t (.row refs true 1) ∧ refs.length = L.length ∧
  (∀ i, i < L.length → ∃ r, refs[i]? = some r ∧ SlC N r (L.getD i []) ∧ Newer M r) ∧ ∀ (i j : Nat) (r s : LV), i ≠ j → refs[i]? = some r → refs[j]? = some s → Apart r s
theorem CssV.lenV {N : Mem} {v : LV} {L : List (List Cell)} (h : CssV N v L) : lenV v = some (L.length : Int) := by
  rcases h with ⟨rfl, rfl⟩ | ⟨t, refs, rfl, _⟩ <;> rfl
theorem SlCC.v {M N : Mem} {v : LV} {L : List (List Cell)} (h : SlCC M N v L) : CssV N v L := by
  rcases h with h | ⟨t, refs, h1, h2, h3, h4, h5, _⟩
  · exact .inl h
  · exact .inr ⟨t, refs, h1, h3, h4, fun i hi => by obtain ⟨r, k1, k2, _⟩ := h5 i hi; exact ⟨r, k1, k2.v⟩⟩
theorem CssV.pre {M N : Mem} {v : LV} {L : List (List Cell)} (h : CssV M v L) (hp : Pre M N) : CssV N v L := by
  rcases h with h | ⟨t, refs, h1, h3, h4, h5⟩
  · exact .inl h
  · exact .inr ⟨t, refs, h1, h3.pre hp, h4, fun i hi => by obtain ⟨r, k1, k2⟩ := h5 i hi; exact ⟨r, k1, k2.pre hp⟩⟩
theorem SlCC.keep {M N N' : Mem} {v : LV} {L : List (List Cell)} (h : SlCC M N v L) (hp : ∀ u, M.length ≤ u → u < N.length → N'[u]? = N[u]?) : SlCC M N' v L := by
  have hl : ∀ {u : Nat} {b : Blk}, Live N u b → M.length ≤ u → Live N' u b := fun {u b} hL hu => by unfold Live; rw [hp u hu hL.lt]; exact hL
  rcases h with h | ⟨t, refs, h1, h2, h3, h4, h5, h6⟩
  · exact .inl h
  · refine .inr ⟨t, refs, h1, h2, hl h3 h2, h4, fun i hi => ?_, h6⟩
    obtain ⟨r, k1, k2, k3⟩ := h5 i hi
    refine ⟨r, k1, ?_, k3⟩
    rcases k2 with k2 | ⟨t', ex, q1, q2⟩
    · exact .inl k2
    · refine .inr ⟨t', ex, q1, hl q2 (Nat.not_lt.1 fun h => ?_)⟩
      rw [q1] at k3
      exact (k3 t' h) rfl
theorem SlCC.pre {M N N' : Mem} {v : LV} {L : List (List Cell)} (h : SlCC M N v L) (hp : Pre N N') : SlCC M N' v L := h.keep fun u _ hu => hp.2 u hu
theorem SlCC.mono {M M' N : Mem} {v : LV} {L : List (List Cell)} (h : SlCC M' N v L) (hp : Pre M M') : SlCC M N v L := by
  rcases h with h | ⟨t, refs, h1, h2, h3, h4, h5, h6⟩
  · exact .inl h
  · exact .inr ⟨t, refs, h1, Nat.le_trans hp.1 h2, h3, h4, fun i hi => by obtain ⟨r, k1, k2, k3⟩ := h5 i hi; exact ⟨r, k1, k2, k3.mono hp⟩, h6⟩
theorem SlCC.nil {M N : Mem} : SlCC M N .nil [] := .inl ⟨rfl, rfl⟩
theorem Css.ge {N : Mem} {hi : Nat} : ∀ {lo : Nat} {rs : List LV} {ls : List (List Cell)}, Css N lo hi rs ls → ∀ s ∈ rs, ∃ u n, s = .ref u 0 n ∧ lo ≤ u
  | _, [], _, _, s, hs => by cases hs
  | _, _ :: _, [], h, _, _ => h.elim
  | lo, r :: rs, l :: ls, ⟨u, h1, h2, h3, h4, h5⟩, s, hs => by
    rcases List.mem_cons.1 hs with rfl | hs
    · exact ⟨u, _, h3, h1⟩
    · obtain ⟨w, n, k1, k2⟩ := h5.ge s hs
      exact ⟨w, n, k1, by omega⟩
theorem Css.pair {N : Mem} {hi : Nat} : ∀ {lo : Nat} {rs : List LV} {ls : List (List Cell)}, Css N lo hi rs ls → rs.Pairwise Apart
  | _, [], _, _ => List.Pairwise.nil
  | _, _ :: _, [], h => h.elim
  | lo, r :: rs, l :: ls, ⟨u, h1, h2, h3, h4, h5⟩ => List.pairwise_cons.2 ⟨fun s hs t o n e => by
      obtain ⟨w, m, k1, k2⟩ := h5.ge s hs
      rw [k1] at e; cases e
      rw [h3]; show t ≠ u; omega, h5.pair⟩
theorem SlCC.of {M N : Mem} {u lo hi : Nat} {refs : List LV} {L : List (List Cell)} (hu : M.length ≤ u) (hlo : M.length ≤ lo) (h : Live N u (.row refs true 1)) (hc : Css N lo hi refs L) : SlCC M N (.ref u 0 refs.length) L := by
  have hpw := hc.pair
  rw [List.pairwise_iff_getElem] at hpw
  refine .inr ⟨u, refs, by rw [hc.len], hu, h, hc.len, fun i hi => ?_, fun i j r s hij hr hs => ?_⟩
  · obtain ⟨w, k1, k2, k3, k4⟩ := hc.get hi
    exact ⟨_, k3, SlC.of k4, Newer.of (by omega)⟩
  · obtain ⟨h1, rfl⟩ := List.getElem?_eq_some_iff.1 hr
    obtain ⟨h2, rfl⟩ := List.getElem?_eq_some_iff.1 hs
    rcases Nat.lt_or_ge i j with h3 | h3
    · exact hpw i j h1 h2 h3
    · exact (hpw j i h2 h1 (by omega)).symm

def tot : List (List Cell) → Nat
  | [] => 0
  | l :: ls => l.length + tot ls
theorem tot_take_succ : ∀ {L : List (List Cell)} {i : Nat}, i < L.length → tot (L.take (i + 1)) = tot (L.take i) + (L.getD i []).length
  | [], _, h => by simp at h
  | l :: ls, 0, _ => by simp [tot]
  | l :: ls, i + 1, h => by
    have := tot_take_succ (L := ls) (i := i) (by simpa using h)
    simp only [List.take_succ_cons, tot, List.getD_cons_succ] at this ⊢
    omega
theorem tot_take_le : ∀ {L : List (List Cell)} {i : Nat}, tot (L.take i) ≤ tot L
  | [], _ => by simp
  | l :: ls, 0 => by simp [tot]
  | l :: ls, i + 1 => by
    have := tot_take_le (L := ls) (i := i)
    simp only [List.take_succ_cons, tot]; omega
theorem tot_get {L : List (List Cell)} {i : Nat} (h : i < L.length) : (L.getD i []).length ≤ tot L := by
  have h1 := tot_take_succ h
  have h2 := tot_take_le (L := L) (i := i + 1)
  omega
def marksT (k : Int) (L : List (List Cell)) (i : Nat) : List (List Cell) := (List.range L.length).map fun j => if j < i then marks3 (k + 3 * (tot (L.take j) : Nat)) (L.getD j []).length else L.getD j []
def CssRes (M : Mem) (r : Option (List (List Cell))) (v : LV) (N : Mem) : Prop := ∃ w, v = .tup [w, .B r.isSome] ∧ SlCC M N w (r.getD []) ∧ Pre M N
end Go.Ab

namespace Go.Ab
open Go

def atL (y z : Int) (xs : List Int) (c : Cell) : Int := xs.getD (idx y z c).toNat 0
def fib (x y z : Int) (xs : List Int) (k : Nat) : List Cell := pick x y z fun c => decide (atL y z xs c = k)
def leftP (y z : Int) (cs : List Cell) (xs : List Int) (i : Nat) (c : Cell) : Bool := freeP cs c && !decide (0 ≤ atL y z xs c ∧ atL y z xs c < i)
def negC (c : Cell) : Cell := ⟨-c.a, -c.b, -c.c⟩
def tryAt (x y z : Int) (L : List (List Cell)) (xs : List Int) (i : Nat) : Cell := shift (negC ((L.getD i []).getD 0 default)) ((fib x y z xs i).getD 0 default)
def StepOK (x y z : Int) (cs : List Cell) (L : List (List Cell)) (xs : List Int) (i : Nat) : Prop :=
  fib x y z xs i ≠ [] ∧ PlacedOK x y z (leftP y z cs xs i) (L.getD i []) (tryAt x y z L xs i) ∧ ∀ d, d.inBox x y z → (d ∈ (L.getD i []).map (shift (tryAt x y z L xs i)) ↔ d ∈ fib x y z xs i)
def ImplPk (x y z : Int) (cs : List Cell) (L : List (List Cell)) (xs : List Int) : Prop :=
  xs.length = vol x y z ∧ (∀ v ∈ xs, -1 ≤ v ∧ v ≤ (L.length : Int) - 1) ∧ (∀ i, i < L.length → StepOK x y z cs L xs i) ∧ ∀ c, c.inBox x y z → leftP y z cs xs L.length c = false
def DiffOK (x y z : Int) (L : List (List Cell)) (xs : List Int) (k : Nat) : Prop :=
  (fib x y z xs k).length = (L.getD k []).length ∧ ∀ i, 1 ≤ i → i < (fib x y z xs k).length → ∀ d : Nat, d < 3 → Cell.at ((fib x y z xs k).getD i default) (d : Int) - Cell.at ((fib x y z xs k).getD 0 default) (d : Int) = Cell.at ((L.getD k []).getD i default) (d : Int) - Cell.at ((L.getD k []).getD 0 default) (d : Int)
def SpecPk (x y z : Int) (cs : List Cell) (L : List (List Cell)) (xs : List Int) : Prop :=
  xs.length = vol x y z ∧ tot L + cs.length = vol x y z ∧ (∀ i, i < vol x y z → (-1 ≤ xs.getD i 0 ∧ xs.getD i 0 ≤ (L.length : Int) - 1) ∧ (xs.getD i 0 < 0 ↔ cellAt y z i ∈ cs)) ∧ ∀ k, k < L.length → DiffOK x y z L xs k

section
variable {x y z : Int} {cs : List Cell} {L : List (List Cell)} {xs : List Int} (hA : AskOK x y z cs L)
include hA
end
end Go.Ab

namespace Go.Ab
open Go
set_option maxRecDepth 20000

noncomputable instance {x y z : Int} {cs : List Cell} {L : List (List Cell)} {xs : List Int} : Decidable (SpecPk x y z cs L xs) := Classical.propDecidable _
noncomputable def pkP (x y z : Int) (cs : List Cell) (L : List (List Cell)) (xs : List Int) : Bool × Bool := if AskOK x y z cs L then (decide (SpecPk x y z cs L xs), true) else (false, false)
end Go.Ab

namespace Go.Ab
open Go
set_option maxRecDepth 20000

def CrossAt (y z : Int) (xs : List Int) (d k i j : Nat) : Prop := 0 ≤ xs.getD i 0 ∧ xs.getD j 0 = xs.getD i 0 ∧ (cellAt y z i).at (d : Int) < k ∧ (k : Int) ≤ (cellAt y z j).at (d : Int)
def Crossed (x y z : Int) (xs : List Int) (d k : Nat) : Prop := ∃ i, i < vol x y z ∧ ∃ j, j < vol x y z ∧ CrossAt y z xs d k i j
noncomputable instance {x y z : Int} {xs : List Int} {d k : Nat} : Decidable (Crossed x y z xs d k) := Classical.propDecidable _
noncomputable def plK (x y z : Int) (xs : List Int) (d : Nat) : Nat → List Int
  | 0 => []
  | k + 1 => plK x y z xs d k ++ (if 1 ≤ k ∧ ¬ Crossed x y z xs d k then [(d : Int), (k : Int)] else [])
noncomputable def plD (x y z : Int) (xs : List Int) : Nat → List Int
  | 0 => []
  | d + 1 => plD x y z xs d ++ plK x y z xs d (sideOf x y z (d : Int)).toNat
noncomputable def planesN (x y z : Int) (cs : List Cell) (L : List (List Cell)) (xs : List Int) : Option (List Int) := if AskOK x y z cs L ∧ SpecPk x y z cs L xs then some (plD x y z xs 3) else none
def PairsRes (M : Mem) (r : Option (List Int)) (v : LV) (N : Mem) : Prop := ∃ w n, v = .tup [w, .B r.isSome] ∧ SlF N w n (r.getD []) ∧ n ≤ 100 ∧ Newer M w ∧ Pre M N

end Go.Ab

namespace Go.Ab.C
open Go.Ab
end Go.Ab.C

namespace Go.Ab.K
open Go Go.Ab
end Go.Ab.K

namespace Go.Ab
open Go
set_option maxRecDepth 20000

end Go.Ab

namespace Go.Ab
open Go
set_option maxRecDepth 20000

end Go.Ab

namespace Go.Ab.C
open Go.Ab
end Go.Ab.C

namespace Go.Ab.K
open Go Go.Ab
end Go.Ab.K

namespace Go.Ab
open Go

def onLine (y z : Int) (d : Nat) (i : Nat) (c : Cell) : Bool := decide ((lineOf y z c d).toNat = i)
def aloneK (y z : Int) (cs : List Cell) : Nat → Cell → Bool
  | 0, _ => false
  | k + 1, c => aloneK y z cs k c || decide (cs.countP (onLine y z k (lineOf y z c k).toNat) = 1)
def litL (xs : List Int) (n : Nat) : List Nat := (List.range n).filter fun i => decide (xs.getD i 0 = 1)
def litTo (tp fr sd : List Int) (d i : Nat) : List (Nat × Nat) := ((List.range d).flatMap fun e => (litL (shdList e tp fr sd) (shdList e tp fr sd).length).map fun j => (e, j)) ++ (litL (shdList d tp fr sd) i).map fun j => (d, j)
def lits (tp fr sd : List Int) : List (Nat × Nat) := litTo tp fr sd 3 0
def inLine (y z : Int) (p : Cell → Bool) (q : Nat × Nat) (c : Cell) : Bool := p c && onLine y z q.1 q.2 c
def lineSets (x y z : Int) (p : Cell → Bool) (L : List (Nat × Nat)) : List LV := L.map fun q => .W (bs x y z (inLine y z p q))
def mustTo (x y z : Int) (p : Cell → Bool) (L : List (Nat × Nat)) (c : Cell) : Bool := decide (∃ q ∈ L, (pick x y z (inLine y z p q)).length = 1 ∧ inLine y z p q c = true)
end Go.Ab

namespace Go.Ab
open Go

def offL (tp fr : List Int) (d : Nat) : Nat := if d = 2 then 0 else if d = 1 then tp.length else tp.length + fr.length
def gl (y z : Int) (tp fr : List Int) (d : Nat) (c : Cell) : Nat := offL tp fr d + (lineOf y z c d).toNat
def darkStep (y z : Int) (tp fr : List Int) (v : List Bool) (c : Cell) : List Bool := ((v.set (gl y z tp fr 2 c) false).set (gl y z tp fr 1 c) false).set (gl y z tp fr 0 c) false
def darkL (y z : Int) (tp fr sd : List Int) (cs : List Cell) : List Bool := cs.foldl (darkStep y z tp fr) ((tp ++ fr ++ sd).map fun n => decide (n = 1))
def Meets (y z : Int) (L : List (Nat × Nat)) (cs : List Cell) : Prop := ∀ q ∈ L, ∃ c ∈ cs, onLine y z q.1 q.2 c = true
instance (y z : Int) (L : List (Nat × Nat)) (cs : List Cell) : Decidable (Meets y z L cs) := by unfold Meets; exact inferInstance
end Go.Ab

namespace Go.Ab.C
open Go.Ab
end Go.Ab.C

namespace Go.Ab.K
open Go Go.Ab
end Go.Ab.K

namespace Go.Ab.C
open Go.Ab
end Go.Ab.C

namespace Go.Ab.K
open Go Go.Ab
end Go.Ab.K

namespace Go.Ab.C
open Go.Ab
end Go.Ab.C

namespace Go.Ab.K
open Go Go.Ab
end Go.Ab.K

namespace Go.Ab
open Go

end Go.Ab

namespace Go.Ab
open Go

def onesL (v : List Int) : List Int := v.map fun n => min n 1
def shdOf (x y z : Int) (d : Nat) (cs : List Cell) : List Int := onesL (viewL x y z d cs)
end Go.Ab

namespace Go.Ab
open Go

section
variable {x y z : Int} {t o : Nat} {cs : List Cell} {M : Mem} (h : Tri M t o cs) (hH : HeapOK x y z cs)
include h hH
end

def HasShd (x y z : Int) (tp fr sd : List Int) (cs : List Cell) : Prop := shdOf x y z 2 cs = tp ∧ shdOf x y z 1 cs = fr ∧ shdOf x y z 0 cs = sd
instance (x y z : Int) (tp fr sd : List Int) (cs : List Cell) : Decidable (HasShd x y z tp fr sd cs) := by unfold HasShd; exact inferInstance
end Go.Ab

namespace Go.Ab
open Go
set_option maxRecDepth 20000

def boolL (v : List Bool) : List LV := v.map LV.B
def stepTo (y z : Int) (tp fr : List Int) (V : List Bool) (c : Cell) : Nat → List Bool
  | 0 => V
  | k + 1 => (stepTo y z tp fr V c k).set (gl y z tp fr (2 - k) c) false
end Go.Ab

namespace Go.Ab
open Go
set_option maxRecDepth 20000

def At3 (p : Cell) : Prop := (0 ≤ p.a ∧ p.a ≤ 3) ∧ (0 ≤ p.b ∧ p.b ≤ 3) ∧ (0 ≤ p.c ∧ p.c ≤ 3)
def FitsP (x y z : Int) (cs l : List Cell) (p : Cell) : Prop := At3 p ∧ ∀ c ∈ l, (shift p c).inBox x y z ∧ shift p c ∉ cs
def startL (x y z : Int) (cs : List Cell) : List Int := (cellsOf x y z).map fun c => if c ∈ cs then -1 else -2
def setsL (y z : Int) (n : Int) (xs : List Int) (ds : List Cell) : List Int := ds.foldl (fun v d => v.set (idx y z d).toNat n) xs
def PutOK (x y z : Int) (cs l : List Cell) (p : Cell) (xs : List Int) : Prop := FitsP x y z cs l p ∧ ∀ c ∈ l, atL y z xs (shift p c) = -2
noncomputable instance {x y z : Int} {cs l : List Cell} {p : Cell} : Decidable (FitsP x y z cs l p) := Classical.propDecidable _
noncomputable instance {x y z : Int} {cs l : List Cell} {p : Cell} {xs : List Int} : Decidable (PutOK x y z cs l p xs) := Classical.propDecidable _
noncomputable def putR (x y z : Int) (cs l : List Cell) (p : Cell) (xs : List Int) (n : Int) : List Int := if PutOK x y z cs l p xs then setsL y z n xs (l.map (shift p)) else []

section
variable {l : List Cell} {t o : Nat} {M : Mem} {p : Cell} (h : Tri M t o l) (hn : l.length ≤ 64) (hin : ∀ c ∈ l, c.inBox 4 4 4) (hp : At3 p)
include h hn hin hp
end
section
variable {x y z : Int} {t o u q : Nat} {cs l : List Cell} {p : Cell} {M : Mem} (h : Tri M t o cs) (hH : HeapOK x y z cs) (hl : Tri M u q l) (hn : l.length ≤ 64) (hin : ∀ c ∈ l, c.inBox 4 4 4)
include h hH hl hn hin
end
end Go.Ab

namespace Go.Ab
open Go
set_option maxRecDepth 20000

def PutRes (M : Mem) (ok : Prop) [Decidable ok] (r : List Int) (v : LV) (N : Mem) : Prop := ∃ t, v = .tup [.ref t 0 r.length, .B (decide ok)] ∧ Live N t (.row (intL r) true 1) ∧ M.length ≤ t ∧ Pre M N
section
variable {x y z : Int} {t o u q w r : Nat} {cs l : List Cell} {p : Cell} {xs : List Int} {n : Int} {M : Mem} (h : Tri M t o cs) (hH : HeapOK x y z cs) (hl : Tri M u q l) (hP : PieceOK l) (hp : Small p) (hX : Ints M w r xs) (hxn : xs.length = vol x y z)
include h hH hl hP hp hX hxn
end
end Go.Ab

namespace Go.Ab
open Go

def hole (xs : List Int) : Nat := (xs.takeWhile fun v => v != -2).length
def placeAt (y z : Int) (L : List (List Cell)) (i k : Nat) : Cell := shift (negC ((L.getD i []).getD 0 default)) (cellAt y z k)
noncomputable def nextL (x y z : Int) (cs : List Cell) (L : List (List Cell)) (xs : List Int) (i : Nat) : List Int := putR x y z cs (L.getD i []) (placeAt y z L i (hole xs)) xs i
noncomputable def brP (x y z : Int) (cs : List Cell) (L : List (List Cell)) (g : List Int → List (List Int)) (xs : List Int) (i : Nat) : List (List Int) :=
  if (i : Int) ∈ xs then [] else if PutOK x y z cs (L.getD i []) (placeAt y z L i (hole xs)) xs then g (nextL x y z cs L xs i) else []
def leafP (n : Nat) (xs : List Int) : List (List Int) := if ∀ i : Nat, i < n → (i : Int) ∈ xs then [xs] else []
noncomputable def packs (x y z : Int) (cs : List Cell) (L : List (List Cell)) : Nat → List Int → List (List Int)
  | 0, xs => if (-2 : Int) ∈ xs then (List.range L.length).flatMap (brP x y z cs L (fun _ => []) xs) else leafP L.length xs
  | f + 1, xs => if (-2 : Int) ∈ xs then (List.range L.length).flatMap (brP x y z cs L (packs x y z cs L f) xs) else leafP L.length xs
noncomputable def packsB (x y z : Int) (cs : List Cell) (L : List (List Cell)) : Nat → List Int → List (List Int)
  | 0 => fun _ => []
  | f + 1 => packs x y z cs L f
theorem flat_succ {β : Type} {f : Nat → List β} {i : Nat} : (List.range (i + 1)).flatMap f = (List.range i).flatMap f ++ f i := by
  rw [List.range_succ, List.flatMap_append]; simp
def Lacks (n : Nat) (xs : List Int) (S : List Nat) : Prop := ∀ i, i < n → (i : Int) ∉ xs → i ∈ S
section
variable {x y z : Int} {cs : List Cell} {L : List (List Cell)} {xs : List Int} {i : Nat} {S : List Nat} {p : Cell} {l : List Cell} {n : Int}
end
def selP (once : Bool) (P : List (List Int)) : List (List Int) := if once then P.take 1 else P
def fndP (F : List Int × Nat) (R : List (List Int)) : List Int × Nat := (if F.2 = 0 then R.headD F.1 else F.1, F.2 + R.length)
end Go.Ab

namespace Go.Ab
open Go

def linePts (x y : Nat) (n : Nat) : List Cell := (List.range n).map fun (k : Nat) => ⟨(x : Int), (y : Int), (k : Int)⟩
def planePts (x nz : Nat) (n : Nat) : List Cell := (List.range n).flatMap fun j => linePts x j nz
def gridPts (ny nz : Nat) (n : Nat) : List Cell := (List.range n).flatMap fun i => planePts i nz ny
def kindC (p : Cell) : Nat := p.a.toNat % 2 + p.b.toNat % 2 + p.c.toNat % 2
noncomputable def inKind (cs : List Cell) (k : Nat) (p : Cell) : Bool := decide (inBody cs p) && decide (kindC p = k)
theorem addPt_get {cs : List Cell} {x y z k : Nat} {out : List Int} (hl : out.length = 4) (hk : k < 4) : (addPt cs x y z out).length = 4 ∧ (addPt cs x y z out).getD k 0 = out.getD k 0 + ((if inKind cs k ⟨(x : Int), (y : Int), (z : Int)⟩ = true then 1 else 0 : Nat) : Int) := by
  have hkc : kindC ⟨(x : Int), (y : Int), (z : Int)⟩ = kindOf x y z := by unfold kindC kindOf; simp
  have hk0 : kindOf x y z < 4 := by unfold kindOf; omega
  unfold addPt inKind
  rw [hkc]
  by_cases hb : inBody cs ⟨(x : Int), (y : Int), (z : Int)⟩
  · rw [if_pos hb, decide_eq_true hb, Bool.true_and]
    refine ⟨by rw [List.length_set]; exact hl, ?_⟩
    by_cases e : kindOf x y z = k
    · subst e
      simp [hl, hk0]
    · have e1 : (out.set (kindOf x y z) (out.getD (kindOf x y z) 0 + 1)).getD k 0 = out.getD k 0 := by
        simp only [List.getD_eq_getElem?_getD]; rw [List.getElem?_set_ne e]
      rw [e1]; simp [e]
  · rw [if_neg hb, decide_eq_false hb]
    exact ⟨hl, by simp⟩
theorem lineF_get {cs : List Cell} {x y k : Nat} {out : List Int} (hl : out.length = 4) (hk : k < 4) : ∀ {n : Nat}, (lineF cs x y n out).length = 4 ∧ (lineF cs x y n out).getD k 0 = out.getD k 0 + ((linePts x y n).countP (inKind cs k) : Nat)
  | 0 => ⟨hl, by simp [lineF, linePts]⟩
  | n + 1 => by
    obtain ⟨h1, h2⟩ := lineF_get (cs := cs) (x := x) (y := y) hl hk (n := n)
    have h3 := addPt_get (cs := cs) (x := x) (y := y) (z := n) h1 hk
    refine ⟨h3.1, ?_⟩
    show (addPt cs x y n (lineF cs x y n out)).getD k 0 = _
    have e : linePts x y (n + 1) = linePts x y n ++ [⟨(x : Int), (y : Int), (n : Int)⟩] := by unfold linePts; rw [List.range_succ, List.map_append]; rfl
    rw [h3.2, h2, e, List.countP_append, List.countP_singleton]
    omega
theorem planeF_get {cs : List Cell} {x nz k : Nat} {out : List Int} (hl : out.length = 4) (hk : k < 4) : ∀ {n : Nat}, (planeF cs x nz n out).length = 4 ∧ (planeF cs x nz n out).getD k 0 = out.getD k 0 + ((planePts x nz n).countP (inKind cs k) : Nat)
  | 0 => ⟨hl, by simp [planeF, planePts]⟩
  | n + 1 => by
    obtain ⟨h1, h2⟩ := planeF_get (cs := cs) (x := x) (nz := nz) hl hk (n := n)
    have h3 := lineF_get (cs := cs) (x := x) (y := n) h1 hk (n := nz)
    refine ⟨h3.1, ?_⟩
    show (lineF cs x n nz (planeF cs x nz n out)).getD k 0 = _
    have e : planePts x nz (n + 1) = planePts x nz n ++ linePts x n nz := by unfold planePts; rw [flat_succ]
    rw [h3.2, h2, e, List.countP_append]
    omega
theorem gridF_get {cs : List Cell} {ny nz k : Nat} {out : List Int} (hl : out.length = 4) (hk : k < 4) : ∀ {n : Nat}, (gridF cs ny nz n out).length = 4 ∧ (gridF cs ny nz n out).getD k 0 = out.getD k 0 + ((gridPts ny nz n).countP (inKind cs k) : Nat)
  | 0 => ⟨hl, by simp [gridF, gridPts]⟩
  | n + 1 => by
    obtain ⟨h1, h2⟩ := gridF_get (cs := cs) (ny := ny) (nz := nz) hl hk (n := n)
    have h3 := planeF_get (cs := cs) (x := n) (nz := nz) h1 hk (n := ny)
    refine ⟨h3.1, ?_⟩
    show (planeF cs n nz ny (gridF cs ny nz n out)).getD k 0 = _
    have e : gridPts ny nz (n + 1) = gridPts ny nz n ++ planePts n nz ny := by unfold gridPts; rw [flat_succ]
    rw [h3.2, h2, e, List.countP_append]
    omega
theorem mem_grid {ny nz n : Nat} {p : Cell} : p ∈ gridPts ny nz n ↔ (0 ≤ p.a ∧ p.a < n) ∧ (0 ≤ p.b ∧ p.b < ny) ∧ (0 ≤ p.c ∧ p.c < nz) := by
  unfold gridPts planePts linePts
  simp only [List.mem_flatMap, List.mem_range, List.mem_map]
  constructor
  · rintro ⟨i, hi, j, hj, k, hk, rfl⟩
    simp only
    omega
  · rintro ⟨⟨a1, a2⟩, ⟨b1, b2⟩, c1, c2⟩
    refine ⟨p.a.toNat, by omega, p.b.toNat, by omega, p.c.toNat, by omega, ?_⟩
    rw [cell_eq]; simp only; omega
theorem count_same {α : Type} [DecidableEq α] : ∀ {l m : List α}, l.Nodup → m.Nodup → (∀ a, a ∈ l ↔ a ∈ m) → l.length = m.length
  | [], m, _, _, h => by
    cases m with
    | nil => rfl
    | cons b m => exact absurd ((h b).2 (by simp)) (by simp)
  | a :: l, m, hl, hm, h => by
    rw [List.nodup_cons] at hl
    have ha : a ∈ m := (h a).1 (by simp)
    have := count_same (l := l) (m := m.erase a) hl.2 (hm.erase a) fun b => by
      constructor
      · intro hb
        have hne : b ≠ a := fun e => hl.1 (e ▸ hb)
        exact (List.mem_erase_of_ne hne).2 ((h b).1 (by simp [hb]))
      · intro hb
        have h1 := List.mem_of_mem_erase hb
        rcases List.mem_cons.1 ((h b).2 h1) with e | e
        · subst e; exact absurd hb (hm.not_mem_erase)
        · exact e
    rw [List.length_cons, this, List.length_erase_of_mem ha]
    have := List.length_pos_of_mem ha
    omega
theorem nodup_flat {f : Nat → List Cell} (hf : ∀ i, (f i).Nodup) (hd : ∀ i j, i ≠ j → ∀ p, p ∈ f i → p ∉ f j) : ∀ {n : Nat}, ((List.range n).flatMap f).Nodup
  | 0 => by simp
  | n + 1 => by
    rw [flat_succ, List.nodup_append]
    refine ⟨nodup_flat hf hd, hf n, fun p hp q hq e => ?_⟩
    subst e
    obtain ⟨i, hi, hpi⟩ := List.mem_flatMap.1 hp
    have := List.mem_range.1 hi
    exact hd i n (by omega) p hpi hq
theorem grid_nodup {ny nz n : Nat} : (gridPts ny nz n).Nodup := by
  have hl : ∀ x y, (linePts x y nz).Nodup := fun x y => by
    unfold linePts
    refine List.Pairwise.map _ (fun a b hab e => hab ?_) List.nodup_range
    rw [cell_eq] at e; simp only at e; omega
  have ml : ∀ x y p, p ∈ linePts x y nz → p.a = x ∧ p.b = y := fun x y p hp => by
    unfold linePts at hp
    obtain ⟨k, _, rfl⟩ := List.mem_map.1 hp
    exact ⟨rfl, rfl⟩
  have hp : ∀ x, (planePts x nz ny).Nodup := fun x => nodup_flat (fun j => hl x j) fun i j hij p h1 h2 => by
    have := (ml x i p h1).2; have := (ml x j p h2).2; omega
  refine nodup_flat hp fun i j hij p h1 h2 => ?_
  unfold planePts at h1 h2
  obtain ⟨a, _, ha⟩ := List.mem_flatMap.1 h1
  obtain ⟨b, _, hb⟩ := List.mem_flatMap.1 h2
  have := (ml i a p ha).1; have := (ml j b p hb).1; omega
theorem grid_count {cs D : List Cell} {ny nz n k : Nat} (hD : D.Nodup) (hm : ∀ p, p ∈ D ↔ p ∈ gridPts ny nz n ∧ inBody cs p) : (gridPts ny nz n).countP (inKind cs k) = D.countP fun p => decide (kindC p = k) := by
  rw [List.countP_eq_length_filter, List.countP_eq_length_filter]
  refine count_same (grid_nodup.filter _) (hD.filter _) fun p => ?_
  rw [List.mem_filter, List.mem_filter, hm]
  unfold inKind
  rw [Bool.and_eq_true, decide_eq_true_iff, decide_eq_true_iff]
  exact ⟨fun h => ⟨⟨h.1, h.2.1⟩, h.2.2⟩, fun h => ⟨h.1.1, h.1.2, h.2⟩⟩
end Go.Ab

namespace Go.Ab
open Go
set_option maxRecDepth 20000

theorem nodup_subG {α : Type} [DecidableEq α] : ∀ {l m : List α}, l.Nodup → (∀ c ∈ l, c ∈ m) → l.length ≤ m.length
  | [], _, _, _ => by simp
  | c :: l, m, hn, hm => by
    rw [List.nodup_cons] at hn
    have hc := hm c (by simp)
    have := nodup_subG (m := m.erase c) hn.2 fun d hd => (List.mem_erase_of_ne (fun e => hn.1 (by rw [← e]; exact hd))).2 (hm d (by simp [hd]))
    rw [List.length_erase_of_mem hc] at this
    have h0 : 0 < m.length := List.length_pos_of_mem hc
    simp only [List.length_cons]
    omega
def allB : Nat → List (List Bool)
  | 0 => [[]]
  | n + 1 => (allB n).map (false :: ·) ++ (allB n).map (true :: ·)
theorem allB_len : ∀ n, (allB n).length = 2 ^ n
  | 0 => rfl
  | n + 1 => by simp only [allB, List.length_append, List.length_map, allB_len n, Nat.pow_succ]; omega
theorem mem_allB : ∀ {n : Nat} {l : List Bool}, l ∈ allB n ↔ l.length = n
  | 0, l => by simp [allB]
  | n + 1, [] => by simp [allB]
  | n + 1, b :: l => by
    simp only [allB, List.mem_append, List.mem_map, List.cons.injEq, List.length_cons]
    constructor
    · rintro (⟨a, h, _, rfl⟩ | ⟨a, h, _, rfl⟩) <;> rw [mem_allB.1 h]
    · intro h
      have := (mem_allB (n := n) (l := l)).2 (by omega)
      cases b
      · exact .inl ⟨l, this, rfl, rfl⟩
      · exact .inr ⟨l, this, rfl, rfl⟩
theorem allB_nodup : ∀ n, (allB n).Nodup
  | 0 => by simp [allB]
  | n + 1 => by
    unfold allB
    rw [List.nodup_append]
    refine ⟨List.Pairwise.map _ (fun a b h e => h (by simpa using e)) (allB_nodup n), List.Pairwise.map _ (fun a b h e => h (by simpa using e)) (allB_nodup n), fun a ha b hb e => ?_⟩
    obtain ⟨a', _, rfl⟩ := List.mem_map.1 ha
    obtain ⟨b', _, rfl⟩ := List.mem_map.1 hb
    cases e
theorem pigeon {n m : Nat} {φ : List Bool → List Bool} (h1 : ∀ l, l.length = n → (φ l).length = m) (h2 : ∀ l l', l.length = n → l'.length = n → φ l = φ l' → l = l') : n ≤ m := by
  have hn : ((allB n).map φ).Nodup := List.pairwise_map.2 (List.Pairwise.imp_of_mem (fun {a b} ha hb hne he => hne (h2 a b (mem_allB.1 ha) (mem_allB.1 hb) he)) (allB_nodup n))
  have := nodup_subG (m := allB m) hn fun l hl => by
    obtain ⟨l', hl', rfl⟩ := List.mem_map.1 hl
    exact mem_allB.2 (h1 l' (mem_allB.1 hl'))
  rw [List.length_map, allB_len, allB_len] at this
  rcases Nat.lt_or_ge m n with h | h
  · have := Nat.pow_lt_pow_right (a := 2) (by omega) h
    omega
  · exact h
def zOf : List Cell → List Bool → Cell → Bool
  | f :: fs, b :: bs, p => if p = f then b else zOf fs bs p
  | _, _, _ => false
theorem zOf_out : ∀ {fs : List Cell} {bs : List Bool} {p : Cell}, p ∉ fs → zOf fs bs p = false
  | [], bs, p, _ => by cases bs <;> rfl
  | f :: fs, [], p, _ => rfl
  | f :: fs, b :: bs, p, h => by
    unfold zOf
    rw [if_neg fun e => h (by simp [e]), zOf_out fun h' => h (by simp [h'])]
theorem zOf_inj : ∀ {fs : List Cell} {bs bs' : List Bool}, fs.Nodup → bs.length = fs.length → bs'.length = fs.length → (∀ p, zOf fs bs p = zOf fs bs' p) → bs = bs'
  | [], bs, bs', _, h1, h2, _ => by
    rw [List.eq_nil_of_length_eq_zero h1, List.eq_nil_of_length_eq_zero h2]
  | f :: fs, [], _, _, h1, _, _ => by simp at h1
  | f :: fs, _ :: _, [], _, _, h2, _ => by simp at h2
  | f :: fs, b :: bs, b' :: bs', hn, h1, h2, h => by
    rw [List.nodup_cons] at hn
    have hf := h f
    unfold zOf at hf
    rw [if_pos rfl, if_pos rfl] at hf
    have := zOf_inj (fs := fs) (bs := bs) (bs' := bs') hn.2 (by simpa using h1) (by simpa using h2) fun p => by
      by_cases e : p = f
      · rw [e, zOf_out hn.1, zOf_out hn.1]
      · have := h p
        unfold zOf at this
        rwa [if_neg e, if_neg e] at this
    rw [hf, this]
def bdC (z : Cell → Bool) (p : Cell) : Bool :=
  (if p.a % 2 = 0 then z ⟨p.a + 1, p.b, p.c⟩ ^^ z ⟨p.a - 1, p.b, p.c⟩ else false) ^^ ((if p.b % 2 = 0 then z ⟨p.a, p.b + 1, p.c⟩ ^^ z ⟨p.a, p.b - 1, p.c⟩ else false) ^^ (if p.c % 2 = 0 then z ⟨p.a, p.b, p.c + 1⟩ ^^ z ⟨p.a, p.b, p.c - 1⟩ else false))
theorem bd_add {z z' : Cell → Bool} {p : Cell} : bdC (fun p => z p ^^ z' p) p = (bdC z p ^^ bdC z' p) := by
  have key : ∀ (c : Prop) [Decidable c] (a b a' b' : Bool), (if c then (a ^^ a') ^^ (b ^^ b') else false) = ((if c then a ^^ b else false) ^^ (if c then a' ^^ b' else false)) := fun c _ a b a' b' => by
    by_cases h : c
    · rw [if_pos h, if_pos h, if_pos h]; cases a <;> cases b <;> cases a' <;> cases b' <;> rfl
    · rw [if_neg h, if_neg h, if_neg h]; rfl
  unfold bdC
  rw [key, key, key]
  generalize (if p.a % 2 = 0 then z ⟨p.a + 1, p.b, p.c⟩ ^^ z ⟨p.a - 1, p.b, p.c⟩ else false) = a1
  generalize (if p.a % 2 = 0 then z' ⟨p.a + 1, p.b, p.c⟩ ^^ z' ⟨p.a - 1, p.b, p.c⟩ else false) = a2
  generalize (if p.b % 2 = 0 then z ⟨p.a, p.b + 1, p.c⟩ ^^ z ⟨p.a, p.b - 1, p.c⟩ else false) = a3
  generalize (if p.b % 2 = 0 then z' ⟨p.a, p.b + 1, p.c⟩ ^^ z' ⟨p.a, p.b - 1, p.c⟩ else false) = a4
  generalize (if p.c % 2 = 0 then z ⟨p.a, p.b, p.c + 1⟩ ^^ z ⟨p.a, p.b, p.c - 1⟩ else false) = a5
  generalize (if p.c % 2 = 0 then z' ⟨p.a, p.b, p.c + 1⟩ ^^ z' ⟨p.a, p.b, p.c - 1⟩ else false) = a6
  revert a1 a2 a3 a4 a5 a6
  decide
def evP (v : Cell) : Prop := v.a % 2 = 0 ∧ v.b % 2 = 0 ∧ v.c % 2 = 0
def degC (y : Cell → Bool) (v : Cell) : Bool :=
  (y ⟨v.a + 1, v.b, v.c⟩ ^^ y ⟨v.a - 1, v.b, v.c⟩) ^^ ((y ⟨v.a, v.b + 1, v.c⟩ ^^ y ⟨v.a, v.b - 1, v.c⟩) ^^ (y ⟨v.a, v.b, v.c + 1⟩ ^^ y ⟨v.a, v.b, v.c - 1⟩))
theorem deg_bd {z : Cell → Bool} {v : Cell} (h : evP v) : degC (bdC z) v = false := by
  obtain ⟨h1, h2, h3⟩ := h
  have n1 : ¬ (v.a + 1) % 2 = 0 := by omega
  have n2 : ¬ (v.a - 1) % 2 = 0 := by omega
  have n3 : ¬ (v.b + 1) % 2 = 0 := by omega
  have n4 : ¬ (v.b - 1) % 2 = 0 := by omega
  have n5 : ¬ (v.c + 1) % 2 = 0 := by omega
  have n6 : ¬ (v.c - 1) % 2 = 0 := by omega
  unfold degC bdC
  simp only [h1, h2, h3, n1, n2, n3, n4, n5, n6, if_true, if_false]
  generalize z ⟨v.a + 1, v.b + 1, v.c⟩ = a1
  generalize z ⟨v.a + 1, v.b - 1, v.c⟩ = a2
  generalize z ⟨v.a - 1, v.b + 1, v.c⟩ = a3
  generalize z ⟨v.a - 1, v.b - 1, v.c⟩ = a4
  generalize z ⟨v.a + 1, v.b, v.c + 1⟩ = a5
  generalize z ⟨v.a + 1, v.b, v.c - 1⟩ = a6
  generalize z ⟨v.a - 1, v.b, v.c + 1⟩ = a7
  generalize z ⟨v.a - 1, v.b, v.c - 1⟩ = a8
  generalize z ⟨v.a, v.b + 1, v.c + 1⟩ = b1
  generalize z ⟨v.a, v.b + 1, v.c - 1⟩ = b2
  generalize z ⟨v.a, v.b - 1, v.c + 1⟩ = b3
  generalize z ⟨v.a, v.b - 1, v.c - 1⟩ = b4
  revert a1 a2 a3 a4 a5 a6 a7 a8 b1 b2 b3 b4
  decide +kernel
def inC (c p : Cell) : Prop := (0 ≤ p.a - 2 * c.a ∧ p.a - 2 * c.a ≤ 2) ∧ (0 ≤ p.b - 2 * c.b ∧ p.b - 2 * c.b ≤ 2) ∧ (0 ≤ p.c - 2 * c.c ∧ p.c - 2 * c.c ≤ 2)
theorem near_inC {c p : Cell} : nearTo p c 3 = true ↔ inC c p := by
  have e : nearTo p c 3 = true ↔ (0 ≤ p.a - 2 * c.a ∧ p.a - 2 * c.a ≤ 2) ∧ (0 ≤ p.b - 2 * c.b ∧ p.b - 2 * c.b ≤ 2) ∧ (0 ≤ p.c - 2 * c.c ∧ p.c - 2 * c.c ≤ 2) := by
    simp only [nearTo, nearD, Bool.and_eq_true, decide_eq_true_eq, Bool.true_and]
    exact ⟨fun h => ⟨h.1.1, h.1.2, h.2⟩, fun h => ⟨⟨h.1, h.2.1⟩, h.2.2⟩⟩
  exact e
theorem body_iff {cs : List Cell} {p : Cell} : inBody cs p ↔ ∃ c ∈ cs, inC c p := by
  unfold inBody
  constructor
  · rintro ⟨c, h1, h2⟩; exact ⟨c, h1, near_inC.1 h2⟩
  · rintro ⟨c, h1, h2⟩; exact ⟨c, h1, near_inC.2 h2⟩
def tEd (s v : Cell) : Cell := if v.a ≠ s.a then ⟨(v.a + s.a) / 2, v.b, v.c⟩ else if v.b ≠ s.b then ⟨v.a, (v.b + s.b) / 2, v.c⟩ else ⟨v.a, v.b, (v.c + s.c) / 2⟩
def uVx (s v : Cell) : Cell := if v.a ≠ s.a then ⟨s.a, v.b, v.c⟩ else if v.b ≠ s.b then ⟨v.a, s.b, v.c⟩ else ⟨v.a, v.b, s.c⟩
def dsV (s v : Cell) : Nat := (if v.a = s.a then 0 else 1) + ((if v.b = s.b then 0 else 1) + if v.c = s.c then 0 else 1)
theorem dsV_le {s v : Cell} : dsV s v ≤ 3 := by unfold dsV; split <;> split <;> split <;> omega
def Inc (v e : Cell) : Prop := e = ⟨v.a + 1, v.b, v.c⟩ ∨ e = ⟨v.a - 1, v.b, v.c⟩ ∨ e = ⟨v.a, v.b + 1, v.c⟩ ∨ e = ⟨v.a, v.b - 1, v.c⟩ ∨ e = ⟨v.a, v.b, v.c + 1⟩ ∨ e = ⟨v.a, v.b, v.c - 1⟩
section
variable {c s v : Cell} (hs : inC c s) (hv : inC c v) (es : evP s) (ev : evP v)
include hs hv es ev
theorem tEd_inC : inC c (tEd s v) ∧ inC c (uVx s v) ∧ evP (uVx s v) := by
  obtain ⟨⟨_, _⟩, ⟨_, _⟩, ⟨_, _⟩⟩ := hs
  obtain ⟨⟨_, _⟩, ⟨_, _⟩, ⟨_, _⟩⟩ := hv
  obtain ⟨_, _, _⟩ := es
  obtain ⟨_, _, _⟩ := ev
  unfold tEd uVx
  split
  · exact ⟨⟨⟨by simp only; omega, by simp only; omega⟩, ⟨by simp only; omega, by simp only; omega⟩, ⟨by simp only; omega, by simp only; omega⟩⟩, ⟨⟨by simp only; omega, by simp only; omega⟩, ⟨by simp only; omega, by simp only; omega⟩, ⟨by simp only; omega, by simp only; omega⟩⟩, ⟨by simp only; omega, by simp only; omega, by simp only; omega⟩⟩
  · split
    · exact ⟨⟨⟨by simp only; omega, by simp only; omega⟩, ⟨by simp only; omega, by simp only; omega⟩, ⟨by simp only; omega, by simp only; omega⟩⟩, ⟨⟨by simp only; omega, by simp only; omega⟩, ⟨by simp only; omega, by simp only; omega⟩, ⟨by simp only; omega, by simp only; omega⟩⟩, ⟨by simp only; omega, by simp only; omega, by simp only; omega⟩⟩
    · exact ⟨⟨⟨by simp only; omega, by simp only; omega⟩, ⟨by simp only; omega, by simp only; omega⟩, ⟨by simp only; omega, by simp only; omega⟩⟩, ⟨⟨by simp only; omega, by simp only; omega⟩, ⟨by simp only; omega, by simp only; omega⟩, ⟨by simp only; omega, by simp only; omega⟩⟩, ⟨by simp only; omega, by simp only; omega, by simp only; omega⟩⟩
theorem tEd_of (hne : v ≠ s) : Inc v (tEd s v) ∧ dsV s (uVx s v) < dsV s v ∧ (tEd s v).a % 2 + (tEd s v).b % 2 + (tEd s v).c % 2 = 1 := by
  obtain ⟨⟨_, _⟩, ⟨_, _⟩, ⟨_, _⟩⟩ := hs
  obtain ⟨⟨_, _⟩, ⟨_, _⟩, ⟨_, _⟩⟩ := hv
  obtain ⟨_, _, _⟩ := es
  obtain ⟨_, _, _⟩ := ev
  by_cases h1 : v.a = s.a
  · by_cases h2 : v.b = s.b
    · have h3 : v.c ≠ s.c := fun h3 => hne (cell_eq.2 ⟨h1, h2, h3⟩)
      have e1 : tEd s v = ⟨v.a, v.b, (v.c + s.c) / 2⟩ := by unfold tEd; rw [if_neg (by simpa using h1), if_neg (by simpa using h2)]
      have e2 : uVx s v = ⟨v.a, v.b, s.c⟩ := by unfold uVx; rw [if_neg (by simpa using h1), if_neg (by simpa using h2)]
      rw [e1, e2]
      refine ⟨?_, by unfold dsV; simp only; rw [if_pos h1, if_pos h2, if_neg h3, if_pos trivial]; omega, by simp only; omega⟩
      unfold Inc
      simp only [cell_eq, true_and, and_true]
      omega
    · have e1 : tEd s v = ⟨v.a, (v.b + s.b) / 2, v.c⟩ := by unfold tEd; rw [if_neg (by simpa using h1), if_pos h2]
      have e2 : uVx s v = ⟨v.a, s.b, v.c⟩ := by unfold uVx; rw [if_neg (by simpa using h1), if_pos h2]
      rw [e1, e2]
      refine ⟨?_, by unfold dsV; simp only; rw [if_pos h1, if_neg h2, if_pos trivial]; omega, by simp only; omega⟩
      unfold Inc
      simp only [cell_eq, true_and, and_true]
      omega
  · have e1 : tEd s v = ⟨(v.a + s.a) / 2, v.b, v.c⟩ := by unfold tEd; rw [if_pos h1]
    have e2 : uVx s v = ⟨s.a, v.b, v.c⟩ := by unfold uVx; rw [if_pos h1]
    rw [e1, e2]
    refine ⟨?_, by unfold dsV; simp only; rw [if_neg h1, if_pos trivial]; omega, by simp only; omega⟩
    unfold Inc
    simp only [cell_eq, true_and, and_true]
    omega
theorem tEd_ends {v0 : Cell} (e0 : evP v0) (hne : v ≠ s) (hi : Inc v0 (tEd s v)) : v0 = v ∨ v0 = uVx s v := by
  obtain ⟨⟨_, _⟩, ⟨_, _⟩, ⟨_, _⟩⟩ := hs
  obtain ⟨⟨_, _⟩, ⟨_, _⟩, ⟨_, _⟩⟩ := hv
  obtain ⟨_, _, _⟩ := es
  obtain ⟨_, _, _⟩ := ev
  obtain ⟨_, _, _⟩ := e0
  by_cases h1 : v.a = s.a
  · by_cases h2 : v.b = s.b
    · have h3 : v.c ≠ s.c := fun h3 => hne (cell_eq.2 ⟨h1, h2, h3⟩)
      have e1 : tEd s v = ⟨v.a, v.b, (v.c + s.c) / 2⟩ := by unfold tEd; rw [if_neg (by simpa using h1), if_neg (by simpa using h2)]
      have e2 : uVx s v = ⟨v.a, v.b, s.c⟩ := by unfold uVx; rw [if_neg (by simpa using h1), if_neg (by simpa using h2)]
      rw [e1] at hi
      rw [e2]
      unfold Inc at hi
      simp only [cell_eq] at hi ⊢
      omega
    · have e1 : tEd s v = ⟨v.a, (v.b + s.b) / 2, v.c⟩ := by unfold tEd; rw [if_neg (by simpa using h1), if_pos h2]
      have e2 : uVx s v = ⟨v.a, s.b, v.c⟩ := by unfold uVx; rw [if_neg (by simpa using h1), if_pos h2]
      rw [e1] at hi
      rw [e2]
      unfold Inc at hi
      simp only [cell_eq] at hi ⊢
      omega
  · have e1 : tEd s v = ⟨(v.a + s.a) / 2, v.b, v.c⟩ := by unfold tEd; rw [if_pos h1]
    have e2 : uVx s v = ⟨s.a, v.b, v.c⟩ := by unfold uVx; rw [if_pos h1]
    rw [e1] at hi
    rw [e2]
    unfold Inc at hi
    simp only [cell_eq] at hi ⊢
    omega
end
theorem deg_one {v e : Cell} (h : Inc v e) : degC (fun p => decide (p = e)) v = true := by
  unfold degC
  have k : ∀ (p : Cell), decide (p = e) = (decide (p.a = e.a) && (decide (p.b = e.b) && decide (p.c = e.c))) := fun p => by
    rw [Bool.eq_iff_iff]; simp only [decide_eq_true_eq, Bool.and_eq_true, cell_eq]
  simp only [k]
  have f : ∀ (i j : Int), i ≠ j → decide (i = j) = false := fun i j h => decide_eq_false h
  rcases h with rfl | rfl | rfl | rfl | rfl | rfl <;> simp only [decide_true, Bool.true_and, Bool.and_true] <;>
    simp (disch := omega) only [f, Bool.false_and, Bool.and_false, Bool.xor_false, Bool.false_xor, decide_true, Bool.true_and, Bool.and_true, Bool.true_xor, Bool.xor_true, Bool.not_false]
structure TreeC (cs ls : List Cell) (key : Cell → Nat) (sO : Cell → Cell) : Prop where
  cor : ∀ c ∈ cs, inC c (sO c) ∧ evP (sO c)
  less : ∀ c ∈ cs, c ∉ ls → ∃ d ∈ cs, key d < key c ∧ inC d (sO c)
  inj : ∀ c ∈ cs, ∀ d ∈ cs, key c = key d → c = d
theorem min_key {key : Cell → Nat} {P : Cell → Prop} : ∀ (n : Nat) {c : Cell}, key c = n → P c → ∃ d, P d ∧ ∀ e, P e → key d ≤ key e := by
  intro n
  induction n using Nat.strongRecOn with
  | ind n ih =>
    intro c hc hP
    by_cases h : ∃ e, P e ∧ key e < key c
    · obtain ⟨e, h1, h2⟩ := h
      exact ih (key e) (by omega) rfl h1
    · exact ⟨c, hP, fun e he => by
        rcases Nat.lt_or_ge (key e) (key c) with h1 | h1
        · exact absurd ⟨e, he, h1⟩ h
        · exact h1⟩
theorem bound_key {key : Cell → Nat} : ∀ (cs : List Cell), ∃ B, ∀ c ∈ cs, key c ≤ B
  | [] => ⟨0, by simp⟩
  | c :: cs => by
    obtain ⟨B, hB⟩ := bound_key (key := key) cs
    refine ⟨B + key c, fun d hd => ?_⟩
    rcases List.mem_cons.1 hd with rfl | hd
    · omega
    · have := hB d hd; omega
section
variable {cs ls : List Cell} {key : Cell → Nat} {sO : Cell → Cell} (hT : TreeC cs ls key sO)
include hT
theorem forest : ∃ t : Cell → Cell, (∀ v, evP v → inBody cs v → v ∉ ls.map sO → inBody cs (t v) ∧ (t v).a % 2 + (t v).b % 2 + (t v).c % 2 = 1) ∧
    (∀ v w, evP v → inBody cs v → v ∉ ls.map sO → evP w → inBody cs w → w ∉ ls.map sO → t v = t w → v = w) ∧
    ∀ y : Cell → Bool, (∀ e, y e = true → ∃ v, evP v ∧ inBody cs v ∧ v ∉ ls.map sO ∧ e = t v) → (∀ v, evP v → degC y v = false) → ∀ e, y e = false := by
  have hex : ∀ v : Cell, ∃ c, (inBody cs v → c ∈ cs ∧ inC c v ∧ ∀ d ∈ cs, inC d v → key c ≤ key d) := fun v => by
    by_cases h : inBody cs v
    · obtain ⟨c, h1, h2⟩ := body_iff.1 h
      obtain ⟨d, h3, h4⟩ := min_key (key := key) (P := fun c => c ∈ cs ∧ inC c v) _ rfl ⟨h1, h2⟩
      exact ⟨d, fun _ => ⟨h3.1, h3.2, fun e he hi => h4 e ⟨he, hi⟩⟩⟩
    · exact ⟨default, fun h' => absurd h' h⟩
  obtain ⟨hom, hh⟩ := Classical.axiomOfChoice hex
  obtain ⟨B, hB⟩ := bound_key (key := key) cs
  let NR := fun v : Cell => evP v ∧ inBody cs v ∧ v ∉ ls.map sO
  let mu := fun v : Cell => 4 * key (hom v) + dsV (sO (hom v)) v
  have hne : ∀ v, NR v → v ≠ sO (hom v) := fun v ⟨h1, h2, h3⟩ e => by
    obtain ⟨k1, k2, k3⟩ := hh v h2
    by_cases hl : hom v ∈ ls
    · exact h3 (List.mem_map.2 ⟨_, hl, e.symm⟩)
    · obtain ⟨d, d1, d2, d3⟩ := hT.less _ k1 hl
      rw [← e] at d3
      have := k3 d d1 d3
      omega
  have hin : ∀ v, NR v → inC (hom v) (sO (hom v)) ∧ inC (hom v) v ∧ evP (sO (hom v)) ∧ evP v := fun v ⟨h1, h2, h3⟩ => by
    obtain ⟨k1, k2, k3⟩ := hh v h2
    obtain ⟨c1, c2⟩ := hT.cor _ k1
    exact ⟨c1, k2, c2, h1⟩
  have hmu : ∀ v, NR v → mu (uVx (sO (hom v)) v) < mu v := fun v hv => by
    obtain ⟨q1, q2, q3, q4⟩ := hin v hv
    obtain ⟨k1, k2, k3⟩ := hh v hv.2.1
    obtain ⟨r1, r2, r3⟩ := tEd_inC q1 q2 q3 q4
    obtain ⟨s1, s2, s3⟩ := tEd_of q1 q2 q3 q4 (hne v hv)
    have hub : inBody cs (uVx (sO (hom v)) v) := body_iff.2 ⟨_, k1, r2⟩
    obtain ⟨u1, u2, u3⟩ := hh _ hub
    have hle := u3 _ k1 r2
    show 4 * key (hom (uVx (sO (hom v)) v)) + dsV (sO (hom (uVx (sO (hom v)) v))) (uVx (sO (hom v)) v) < 4 * key (hom v) + dsV (sO (hom v)) v
    by_cases he : key (hom (uVx (sO (hom v)) v)) = key (hom v)
    · rw [hT.inj _ u1 _ k1 he]; omega
    · have := dsV_le (s := sO (hom (uVx (sO (hom v)) v))) (v := uVx (sO (hom v)) v)
      omega
  have hends : ∀ v v0, NR v → evP v0 → Inc v0 (tEd (sO (hom v)) v) → v0 = v ∨ v0 = uVx (sO (hom v)) v := fun v v0 hv h0 hi => by
    obtain ⟨q1, q2, q3, q4⟩ := hin v hv
    exact tEd_ends q1 q2 q3 q4 h0 (hne v hv) hi
  have hinc : ∀ v, NR v → Inc v (tEd (sO (hom v)) v) := fun v hv => by
    obtain ⟨q1, q2, q3, q4⟩ := hin v hv
    exact (tEd_of q1 q2 q3 q4 (hne v hv)).1
  refine ⟨fun v => tEd (sO (hom v)) v, fun v h1 h2 h3 => ?_, fun v w h1 h2 h3 k1 k2 k3 he => ?_, fun y hy hd e => ?_⟩
  · obtain ⟨q1, q2, q3, q4⟩ := hin v ⟨h1, h2, h3⟩
    exact ⟨body_iff.2 ⟨_, (hh v h2).1, (tEd_inC q1 q2 q3 q4).1⟩, (tEd_of q1 q2 q3 q4 (hne v ⟨h1, h2, h3⟩)).2.2⟩
  · have hv : NR v := ⟨h1, h2, h3⟩
    have hw : NR w := ⟨k1, k2, k3⟩
    have he : tEd (sO (hom v)) v = tEd (sO (hom w)) w := he
    have i1 := hinc v hv
    rw [he] at i1
    have i2 := hinc w hw
    rw [← he] at i2
    rcases hends w v hw h1 i1 with e | e
    · exact e
    · rcases hends v w hv k1 i2 with e' | e'
      · exact e'.symm
      · have m1 := hmu v hv
        have m2 := hmu w hw
        rw [← e] at m2
        rw [← e'] at m1
        omega
  · have key2 : ∀ n v, NR v → 4 * B + 4 - mu v = n → y (tEd (sO (hom v)) v) = false := by
      intro n
      induction n using Nat.strongRecOn with
      | ind n ih =>
        intro v hv hn
        have hmb : ∀ w, NR w → mu w ≤ 4 * B + 3 := fun w hw => by
          have h1 := hB _ (hh w hw.2.1).1
          have h2 := dsV_le (s := sO (hom w)) (v := w)
          show 4 * key (hom w) + dsV (sO (hom w)) w ≤ _
          omega
        cases hyt : y (tEd (sO (hom v)) v) with
        | false => rfl
        | true =>
          exfalso
          have hall : ∀ e, Inc v e → y e = decide (e = tEd (sO (hom v)) v) := fun e hi => by
            by_cases he : e = tEd (sO (hom v)) v
            · rw [decide_eq_true he, he]; exact hyt
            · rw [decide_eq_false he]
              cases hye : y e with
              | false => rfl
              | true =>
                exfalso
                obtain ⟨w, w1, w2, w3, w4⟩ := hy e hye
                have hw : NR w := ⟨w1, w2, w3⟩
                rw [w4] at hi
                rcases hends w v hw hv.1 hi with e' | e'
                · rw [e'] at he; exact he w4
                · have m := hmu w hw
                  rw [← e'] at m
                  have b1 := hmb w hw
                  have := ih (4 * B + 4 - mu w) (by omega) w hw rfl
                  rw [w4] at hye
                  rw [hye] at this
                  cases this
          have h1 := hd v hv.1
          have h2 := deg_one (hinc v hv)
          unfold degC at h1 h2
          rw [hall _ (.inl rfl), hall _ (.inr (.inl rfl)), hall _ (.inr (.inr (.inl rfl))), hall _ (.inr (.inr (.inr (.inl rfl)))), hall _ (.inr (.inr (.inr (.inr (.inl rfl))))), hall _ (.inr (.inr (.inr (.inr (.inr rfl)))))] at h1
          rw [h2] at h1
          cases h1
    cases hye : y e with
    | false => rfl
    | true =>
      obtain ⟨w, w1, w2, w3, w4⟩ := hy e hye
      have := key2 _ w ⟨w1, w2, w3⟩ rfl
      rw [w4] at hye
      exact hye.symm.trans this |>.symm ▸ rfl
end
end Go.Ab

namespace Go.Ab.C
open Go.Ab
def impl_Heap_enclosed : AFn :=
 ⟨1, 24, [.tmp 2],
 .seq (.ops [(none, .box 1 (.t 0)),
 (none, .mv 2 (.c (.U 0)))])
 (.seq (.ops [(none, .loadN 6 4 (.t 1)),
 (none, .call (some 7) F.impl_Heap_box [(.t 6)]),
 (none, .alloc 3 [(.I 0), (.I 0), (.I 0)]),
 (none, .store 3 (.t 3) (.t 7))])
 (.seq (.draw [⟨(none, .loadN 8 3 (.t 3)), [], []⟩,
 ⟨(none, .loadN 10 4 (.t 1)), [], []⟩,
 ⟨(none, .call (some 9) F.impl_box_full [(.t 8)]), [], [1]⟩,
 ⟨(none, .call (some 11) F.impl_Heap_cubes [(.t 10)]), [], []⟩,
 ⟨(none, .bin 12 .andNot (.t 9) (.t 11)), [], []⟩,
 ⟨(none, .mv 4 (.t 12)), [], []⟩])
 (.seq (.ops [(none, .loadN 13 3 (.t 3)),
 (none, .mkf 14 F.impl_Heap_enclosed_1 [(.t 3)]),
 (none, .call (some 15) F.impl_box_those [(.t 13), (.t 14)]),
 (none, .mv 5 (.t 15))])
 (.seq (.ops [(none, .mv 16 (.t 4)),
 (none, .loadN 17 3 (.t 3)),
 (none, .mv 18 (.t 4)),
 (none, .mv 19 (.t 5)),
 (none, .bin 20 .and (.t 18) (.t 19)),
 (none, .mv 21 (.t 4)),
 (none, .call (some 22) F.impl_box_grown [(.t 17), (.t 20), (.t 21)]),
 (none, .bin 23 .andNot (.t 16) (.t 22)),
 (none, .mv 2 (.t 23))])
 (.ret)))))⟩
def impl_Heap_enclosed_1 : AFn :=
 ⟨2, 9, [.tmp 3],
 .seq (.ops [(none, .box 2 (.t 0)),
 (none, .mv 3 (.c (.B false)))])
 (.seq (.ops [(none, .loadN 4 3 (.t 1)),
 (none, .loadN 5 3 (.t 2)),
 (none, .call (some 6) F.impl_box_near [(.t 4), (.t 5)]),
 (none, .call (some 7) F.impl_set_count [(.t 6)]),
 (none, .bin 8 .lss (.t 7) (.c (.I 6))),
 (none, .mv 3 (.t 8))])
 (.ret))⟩
def impl_FillCavities : AFn :=
 ⟨1, 16, [.cellN 2 4, .tmp 3],
 .seq (.ops [(none, .box 1 (.t 0)),
 (none, .alloc 2 [(.I 0), (.I 0), (.I 0), .nil]),
 (none, .mv 3 (.c (.B false)))])
 (.seq (.seq (.ops [(none, .loadN 4 4 (.t 1)),
 (none, .call (some 5) F.impl_IsHeap [(.t 4)]),
 (none, .un 6 .not (.t 5))])
 (.cond (.t 6) (.seq (.ops [(none, .build 7 [(.I 0), (.I 0), (.I 0), .nil] []),
 (none, .store 4 (.t 2) (.t 7)),
 (none, .mv 3 (.c (.B false)))])
 (.ret))
 (.skip)))
 (.seq (.draw [⟨(none, .loadN 8 4 (.t 1)), [], []⟩,
 ⟨(none, .loadN 10 4 (.t 1)), [], []⟩,
 ⟨(none, .loadN 12 4 (.t 1)), [], []⟩,
 ⟨(none, .call (some 9) F.impl_Heap_box [(.t 8)]), [], [1, 2]⟩,
 ⟨(none, .call (some 11) F.impl_Heap_cubes [(.t 10)]), [], [2]⟩,
 ⟨(none, .call (some 13) F.impl_Heap_enclosed [(.t 12)]), [], []⟩,
 ⟨(none, .bin 14 .or (.t 11) (.t 13)), [], []⟩,
 ⟨(none, .call (some 15) F.impl_box_heap [(.t 9), (.t 14)]), [], []⟩,
 ⟨(none, .store 4 (.t 2) (.t 15)), [], []⟩,
 ⟨(none, .mv 3 (.c (.B true))), [], []⟩])
 (.ret)))⟩
end Go.Ab.C

namespace Go.Ab.K
open Go Go.Ab
theorem impl_Heap_enclosed : prepF Go.Proofs.Try.prog F.impl_Heap_enclosed = some C.impl_Heap_enclosed := by kernel_rfl
theorem impl_Heap_enclosed_1 : prepF Go.Proofs.Try.prog F.impl_Heap_enclosed_1 = some C.impl_Heap_enclosed_1 := by kernel_rfl
theorem impl_FillCavities : prepF Go.Proofs.Try.prog F.impl_FillCavities = some C.impl_FillCavities := by kernel_rfl
end Go.Ab.K

namespace Go.Ab.C
open Go.Ab
def math_bits_OnesCount64 : AFn :=
 ⟨1, 35, [.tmp 2],
 .seq (.ops [(none, .mv 2 (.c (.I 0)))])
 (.seq (.ops [(none, .mv 3 (.t 0)),
 (none, .bin 4 .shr (.t 3) (.c (.U 1))),
 (none, .bin 5 .and (.t 4) (.c (.U 6148914691236517205))),
 (none, .mv 6 (.t 0)),
 (none, .bin 7 .and (.t 6) (.c (.U 6148914691236517205))),
 (none, .bin 8 .add (.t 5) (.t 7)),
 (none, .mv 0 (.t 8))])
 (.seq (.ops [(none, .mv 9 (.t 0)),
 (none, .bin 10 .shr (.t 9) (.c (.U 2))),
 (none, .bin 11 .and (.t 10) (.c (.U 3689348814741910323))),
 (none, .mv 12 (.t 0)),
 (none, .bin 13 .and (.t 12) (.c (.U 3689348814741910323))),
 (none, .bin 14 .add (.t 11) (.t 13)),
 (none, .mv 0 (.t 14))])
 (.seq (.ops [(none, .mv 15 (.t 0)),
 (none, .bin 16 .shr (.t 15) (.c (.U 4))),
 (none, .mv 17 (.t 0)),
 (none, .bin 18 .add (.t 16) (.t 17)),
 (none, .bin 19 .and (.t 18) (.c (.U 1085102592571150095))),
 (none, .mv 0 (.t 19))])
 (.seq (.ops [(none, .mv 20 (.t 0)),
 (none, .mv 21 (.t 0)),
 (none, .bin 22 .shr (.t 21) (.c (.U 8))),
 (none, .bin 23 .add (.t 20) (.t 22)),
 (none, .mv 0 (.t 23))])
 (.seq (.ops [(none, .mv 24 (.t 0)),
 (none, .mv 25 (.t 0)),
 (none, .bin 26 .shr (.t 25) (.c (.U 16))),
 (none, .bin 27 .add (.t 24) (.t 26)),
 (none, .mv 0 (.t 27))])
 (.seq (.ops [(none, .mv 28 (.t 0)),
 (none, .mv 29 (.t 0)),
 (none, .bin 30 .shr (.t 29) (.c (.U 32))),
 (none, .bin 31 .add (.t 28) (.t 30)),
 (none, .mv 0 (.t 31))])
 (.seq (.ops [(none, .mv 32 (.t 0)),
 (none, .conv 33 .i64 (.t 32)),
 (none, .bin 34 .and (.t 33) (.c (.I 127))),
 (none, .mv 2 (.t 34))])
 (.ret))))))))⟩
def impl_set_count : AFn :=
 ⟨1, 5, [.tmp 2],
 .seq (.ops [(none, .mv 2 (.c (.I 0)))])
 (.seq (.ops [(none, .mv 3 (.t 0)),
 (none, .call (some 4) F.math_bits_OnesCount64 [(.t 3)]),
 (none, .mv 2 (.t 4))])
 (.ret))⟩
end Go.Ab.C

namespace Go.Ab.K
open Go Go.Ab
theorem math_bits_OnesCount64 : prepF Go.Proofs.Try.prog F.math_bits_OnesCount64 = some C.math_bits_OnesCount64 := by kernel_rfl
theorem impl_set_count : prepF Go.Proofs.Try.prog F.impl_set_count = some C.impl_set_count := by kernel_rfl
end Go.Ab.K

namespace Go.Ab

def swar1 (x : BitVec 64) : BitVec 64 := (x >>> 1 &&& 6148914691236517205#64) + (x &&& 6148914691236517205#64)
def swar2 (x : BitVec 64) : BitVec 64 := (x >>> 2 &&& 3689348814741910323#64) + (x &&& 3689348814741910323#64)
def swar3 (x : BitVec 64) : BitVec 64 := (x >>> 4 + x) &&& 1085102592571150095#64
def swar4 (x : BitVec 64) : BitVec 64 := x + x >>> 8
def swar5 (x : BitVec 64) : BitVec 64 := x + x >>> 16
def swar6 (x : BitVec 64) : BitVec 64 := x + x >>> 32
def swar (x : BitVec 64) : BitVec 64 := swar6 (swar5 (swar4 (swar3 (swar2 (swar1 x))))) &&& 127#64

def onRim (x y z : Int) (c : Cell) : Bool := decide (c.a = 0 ∨ c.b = 0 ∨ c.c = 0 ∨ c.a = x - 1 ∨ c.b = y - 1 ∨ c.c = z - 1)
theorem rim_small : ∀ x : Nat, x < 4 → ∀ y : Nat, y < 4 → ∀ z : Nat, z < 4 → ∀ i : Nat, i < (x + 1) * (y + 1) * (z + 1) →
    decide ((swar (bs ((x + 1 : Nat) : Int) ((y + 1 : Nat) : Int) ((z + 1 : Nat) : Int) fun d => decide (apart (cellAt ((y + 1 : Nat) : Int) ((z + 1 : Nat) : Int) i) d = 1))).toNat < 6) = onRim ((x + 1 : Nat) : Int) ((y + 1 : Nat) : Int) ((z + 1 : Nat) : Int) (cellAt ((y + 1 : Nat) : Int) ((z + 1 : Nat) : Int) i) := by
  decide +kernel
end Go.Ab

namespace Go.Ab.C
open Go.Ab
def impl_box_near : AFn :=
 ⟨2, 36, [.tmp 4],
 .seq (.ops [(none, .box 2 (.t 0)),
 (none, .box 3 (.t 1)),
 (none, .mv 4 (.c (.U 0)))])
 (.seq (.ops [(none, .mv 5 (.c (.U 0)))])
 (.seq (.seq (.ops [(none, .mv 10 (.c (.I 0)))])
 (.block 0 (.loop (.seq (.ops [(none, .bin 11 .lss (.t 10) (.c (.I 3)))])
 (.seq (.cond (.t 11) (.skip)
 (.exit 0))
 (.seq (.block 1 (.seq (.ops [(none, .mv 12 (.t 10)),
 (none, .mv 6 (.t 12))])
 (.seq (.ops [(none, .build 13 [(.I 0), (.I 0)] [(0, 1, (.c (.I (-1)))), (1, 1, (.c (.I 1)))]),
 (none, .mv 14 (.c (.I 0)))])
 (.block 2 (.loop (.seq (.ops [(none, .bin 15 .lss (.t 14) (.c (.I 2)))])
 (.seq (.cond (.t 15) (.skip)
 (.exit 2))
 (.seq (.block 3 (.seq (.ops [(none, .index 16 2 1 false (.t 13) (.t 14)),
 (none, .mv 8 (.t 16))])
 (.seq (.ops [(none, .loadN 17 3 (.t 3)),
 (none, .alloc 9 [(.I 0), (.I 0), (.I 0)]),
 (none, .store 3 (.t 9) (.t 17))])
 (.seq (.ops [(none, .mv 18 (.t 6)),
 (none, .idxA 19 3 1 (.t 9) (.t 18)),
 (none, .load1 20 (.t 19)),
 (none, .mv 21 (.t 8)),
 (none, .bin 22 .add (.t 20) (.t 21)),
 (none, .idxA 23 3 1 (.t 9) (.t 18)),
 (none, .store 1 (.t 23) (.t 22))])
 (.seq (.ops [(none, .loadN 24 3 (.t 2)),
 (none, .loadN 25 3 (.t 9)),
 (none, .call (some 26) F.impl_box_has [(.t 24), (.t 25)])])
 (.cond (.t 26) (.ops [(none, .mv 27 (.t 5)),
 (none, .loadN 28 3 (.t 2)),
 (none, .loadN 29 3 (.t 9)),
 (none, .call (some 30) F.impl_box_index [(.t 28), (.t 29)]),
 (none, .bin 31 .shl (.c (.U 1)) (.t 30)),
 (none, .bin 32 .or (.t 27) (.t 31)),
 (none, .mv 5 (.t 32))])
 (.skip)))))))
 (.ops [(none, .bin 33 .add (.t 14) (.c (.I 1))),
 (none, .mv 14 (.t 33))])))))))))
 (.ops [(none, .bin 34 .add (.t 10) (.c (.I 1))),
 (none, .mv 10 (.t 34))])))))))
 (.seq (.ops [(none, .mv 35 (.t 5)),
 (none, .mv 4 (.t 35))])
 (.ret))))⟩
def impl_box_grown : AFn :=
 ⟨3, 33, [.tmp 6],
 .seq (.ops [(none, .box 3 (.t 0)),
 (none, .mv 6 (.c (.U 0)))])
 (.block 0 (.loop (.block 1 (.seq (.ops [(none, .mv 9 (.t 1)),
 (none, .mv 7 (.t 9))])
 (.seq (.seq (.ops [(none, .loadN 10 3 (.t 3)),
 (none, .call (some 11) F.impl_box_size [(.t 10)]),
 (none, .mv 12 (.c (.I 0)))])
 (.block 2 (.loop (.seq (.ops [(none, .bin 13 .lss (.t 12) (.t 11))])
 (.seq (.cond (.t 13) (.skip)
 (.exit 2))
 (.seq (.block 3 (.seq (.ops [(none, .mv 14 (.t 12)),
 (none, .mv 8 (.t 14))])
 (.seq (.ops [(none, .mv 15 (.t 1)),
 (none, .mv 16 (.t 8)),
 (none, .call (some 17) F.impl_set_has [(.t 15), (.t 16)])])
 (.cond (.t 17) (.draw [⟨(none, .mv 18 (.t 7)), [], []⟩,
 ⟨(none, .loadN 19 3 (.t 3)), [], []⟩,
 ⟨(none, .loadN 20 3 (.t 3)), [], []⟩,
 ⟨(none, .mv 21 (.t 8)), [], []⟩,
 ⟨(none, .mv 24 (.t 2)), [], []⟩,
 ⟨(none, .call (some 22) F.impl_box_cell [(.t 20), (.t 21)]), [], [0, 1, 4]⟩,
 ⟨(none, .call (some 23) F.impl_box_near [(.t 19), (.t 22)]), [], [0, 4]⟩,
 ⟨(none, .bin 25 .and (.t 23) (.t 24)), [], []⟩,
 ⟨(none, .bin 26 .or (.t 18) (.t 25)), [], []⟩,
 ⟨(none, .mv 7 (.t 26)), [], []⟩])
 (.skip)))))
 (.ops [(none, .bin 27 .add (.t 12) (.c (.I 1))),
 (none, .mv 12 (.t 27))])))))))
 (.seq (.seq (.ops [(none, .mv 28 (.t 7)),
 (none, .mv 29 (.t 1)),
 (none, .bin 30 .eql (.t 28) (.t 29))])
 (.cond (.t 30) (.seq (.ops [(none, .mv 31 (.t 1)),
 (none, .mv 6 (.t 31))])
 (.ret))
 (.skip)))
 (.ops [(none, .mv 32 (.t 7)),
 (none, .mv 1 (.t 32))])))))))⟩
end Go.Ab.C

namespace Go.Ab.K
open Go Go.Ab
theorem impl_box_near : prepF Go.Proofs.Try.prog F.impl_box_near = some C.impl_box_near := by kernel_rfl
theorem impl_box_grown : prepF Go.Proofs.Try.prog F.impl_box_grown = some C.impl_box_grown := by kernel_rfl
end Go.Ab.K

namespace Go.Ab
open Go

def nbrK (c : Cell) (k : Nat) (e : Cell) : Bool := decide (e ∈ (nbrs c).take k)
theorem nbrK_step {c : Cell} {k : Nat} (hk : k < 6) (e : Cell) : nbrK c (k + 1) e = (nbrK c k e || decide (e = (nbrs c).getD k default)) := (take_dec (cs := nbrs c) (by simpa [nbrs] using hk)).symm

section
variable {x y z : Int} (hS : Sides x y z)
include hS
theorem g_nearSet {c : Cell} {M : Mem} (hc : c.inBox x y z) : CallsTo PG F.impl_box_near [.agg [.I x, .I y, .I z], .agg [.I c.a, .I c.b, .I c.c]] M (.W (bs x y z fun d => decide (apart c d = 1))) M := by
  obtain ⟨h1, h2, h3⟩ := id hc
  obtain ⟨hx, hy, hz⟩ := id hS
  refine calls_run K.impl_box_near rfl ?_
  simp (disch := omega) only [C.impl_box_near, ↓SXd, SXu, slBounds, ↓sop, ↓aop, ↓reduceIte, LV.cells, AOp.dst, LV.I, LV.B, LV.U, LV.S, LV.nil, Nat.reduceEqDiff, Nat.reduceAdd, Nat.reduceMul, Nat.reduceSub, Nat.reduceLeDiff, Nat.reduceBEq, Nat.reduceDiv, Nat.reduceMod, Int.reduceToNat, Int.reduceLT, Int.reduceLE, Int.reduceAdd, Int.reduceSub, Int.reduceMul, Int.reduceEq, Int.reduceNeg, reduceCtorEq, resV, resAll, ARes.ev, LV.flat, ite_true, ite_false, exists_eq_left', exists_eq_left, keyOf, implies_true, fillC, capOf]
  refine ev_loop (fun m fr M' => ∃ d : Nat, d + m = 3 ∧ Pre M M' ∧ Live M' M.length (.row [.I x, .I y, .I z] true 0) ∧ Live M' (M.length + 1) (.row [.I c.a, .I c.b, .I c.c] true 0) ∧
    fr 2 = .ptr M.length 0 ∧ fr 3 = .ptr (M.length + 1) 0 ∧ fr 5 = .W (bs x y z (nbrK c (2 * d))) ∧ fr 10 = .I d) 3
    ⟨0, rfl, Pre.app _ _, Live.new, Live.newj rfl, rfl, rfl, by rw [show bs x y z (nbrK c (2 * 0)) = 0#64 from (bs_zero hS).2 fun e _ => decide_eq_false (by simp)]; rfl, rfl⟩ ?_
  rintro m fr M' ⟨d, hd, hpre, hbox, hcell, f2, f3, f5, f10⟩
  simp (disch := omega) only [f2, f3, f5, f10, ↓SXd, SXu, slBounds, ↓sop, ↓aop, ↓reduceIte, LV.cells, AOp.dst, LV.I, LV.B, LV.U, LV.S, LV.nil, Nat.reduceEqDiff, Nat.reduceAdd, Nat.reduceMul, Nat.reduceSub, Nat.reduceLeDiff, Nat.reduceBEq, Nat.reduceDiv, Nat.reduceMod, Int.reduceToNat, Int.reduceLT, Int.reduceLE, Int.reduceAdd, Int.reduceSub, Int.reduceMul, Int.reduceEq, Int.reduceNeg, reduceCtorEq, resV, resAll, ARes.ev, LV.flat, ite_true, ite_false, exists_eq_left', exists_eq_left, keyOf, implies_true, fillC, capOf]
  refine condC_dec (fun hlt => ?_) (fun hlt => ?_)
  rotate_left
  · simp (disch := omega) only [f2, f3, f5, f10, ↓SXd, SXu, slBounds, ↓sop, ↓aop, ↓reduceIte, LV.cells, AOp.dst, LV.I, LV.B, LV.U, LV.S, LV.nil, Nat.reduceEqDiff, Nat.reduceAdd, Nat.reduceMul, Nat.reduceSub, Nat.reduceLeDiff, Nat.reduceBEq, Nat.reduceDiv, Nat.reduceMod, Int.reduceToNat, Int.reduceLT, Int.reduceLE, Int.reduceAdd, Int.reduceSub, Int.reduceMul, Int.reduceEq, Int.reduceNeg, reduceCtorEq, resV, resAll, ARes.ev, LV.flat, ite_true, ite_false, exists_eq_left', exists_eq_left, keyOf, implies_true, fillC, capOf]
    have : d = 3 := by omega
    subst this
    rw [show bs x y z (nbrK c (2 * 3)) = bs x y z fun d => decide (apart c d = 1) from (bs_eq hS).2 fun e _ => decide_eq_decide.2 (mem_nbrs (c := c) (d := e))]
    exact cmp_pre hpre rfl
  · simp (disch := omega) only [f2, f3, f5, f10, splice, ↓SXd, SXu, slBounds, ↓sop, ↓aop, ↓reduceIte, LV.cells, AOp.dst, LV.I, LV.B, LV.U, LV.S, LV.nil, Nat.reduceEqDiff, Nat.reduceAdd, Nat.reduceMul, Nat.reduceSub, Nat.reduceLeDiff, Nat.reduceBEq, Nat.reduceDiv, Nat.reduceMod, Int.reduceToNat, Int.reduceLT, Int.reduceLE, Int.reduceAdd, Int.reduceSub, Int.reduceMul, Int.reduceEq, Int.reduceNeg, reduceCtorEq, resV, resAll, ARes.ev, LV.flat, ite_true, ite_false, exists_eq_left', exists_eq_left, keyOf, implies_true, fillC, capOf]
    refine ev_loop (fun m2 fr N => ∃ j : Nat, j + m2 = 2 ∧ Pre M N ∧ Live N M.length (.row [.I x, .I y, .I z] true 0) ∧ Live N (M.length + 1) (.row [.I c.a, .I c.b, .I c.c] true 0) ∧
      fr 2 = .ptr M.length 0 ∧ fr 3 = .ptr (M.length + 1) 0 ∧ fr 5 = .W (bs x y z (nbrK c (2 * d + j))) ∧ fr 10 = .I d ∧ fr 6 = .I d ∧ fr 13 = .agg [.I (-1), .I 1] ∧ fr 14 = .I j) 2
      ⟨0, rfl, hpre, hbox, hcell, f2, f3, f5, f10, rfl, rfl, rfl⟩ ?_
    clear f2 f3 f5 f10 hpre hbox hcell
    rintro m2 fr N ⟨j, hj, hpre, hbox, hcell, f2, f3, f5, f10, f6, f13, f14⟩
    simp (disch := omega) only [f2, f3, f5, f10, f6, f13, f14, ↓SXd, SXu, slBounds, ↓sop, ↓aop, ↓reduceIte, LV.cells, AOp.dst, LV.I, LV.B, LV.U, LV.S, LV.nil, Nat.reduceEqDiff, Nat.reduceAdd, Nat.reduceMul, Nat.reduceSub, Nat.reduceLeDiff, Nat.reduceBEq, Nat.reduceDiv, Nat.reduceMod, Int.reduceToNat, Int.reduceLT, Int.reduceLE, Int.reduceAdd, Int.reduceSub, Int.reduceMul, Int.reduceEq, Int.reduceNeg, reduceCtorEq, resV, resAll, ARes.ev, LV.flat, ite_true, ite_false, exists_eq_left', exists_eq_left, keyOf, implies_true, fillC, capOf]
    refine condC_dec (fun hlt2 => ?_) (fun hlt2 => ?_)
    rotate_left
    · simp (disch := omega) only [f2, f3, f5, f10, f6, f13, f14, ↓SXd, SXu, slBounds, ↓sop, ↓aop, ↓reduceIte, LV.cells, AOp.dst, LV.I, LV.B, LV.U, LV.S, LV.nil, Nat.reduceEqDiff, Nat.reduceAdd, Nat.reduceMul, Nat.reduceSub, Nat.reduceLeDiff, Nat.reduceBEq, Nat.reduceDiv, Nat.reduceMod, Int.reduceToNat, Int.reduceLT, Int.reduceLE, Int.reduceAdd, Int.reduceSub, Int.reduceMul, Int.reduceEq, Int.reduceNeg, reduceCtorEq, resV, resAll, ARes.ev, LV.flat, ite_true, ite_false, exists_eq_left', exists_eq_left, keyOf, implies_true, fillC, capOf]
      have : j = 2 := by omega
      subst this
      exact ⟨m - 1, by omega, d + 1, by omega, hpre, hbox, hcell, f2, f3, f5, eqI (natI _)⟩
    · have hd3 : d = 0 ∨ d = 1 ∨ d = 2 := by omega
      have hj2 : j = 0 ∨ j = 1 := by omega
      have hlM := hcell.lt
      have key : ∀ e : Cell, (nbrs c).getD (2 * d + j) default = e → (e.inBox x y z → bs x y z (nbrK c (2 * d + j)) ||| 1#64 <<< (idx y z e).toNat = bs x y z (nbrK c (2 * d + (j + 1)))) ∧ (¬ e.inBox x y z → bs x y z (nbrK c (2 * d + j)) = bs x y z (nbrK c (2 * d + (j + 1)))) := by
        intro e he
        refine ⟨fun hin => ?_, fun hin => ?_⟩
        · rw [bs_one hS hin, bs_or hS]
          exact (bs_eq hS).2 fun f _ => by rw [show 2 * d + (j + 1) = 2 * d + j + 1 by omega, nbrK_step (by omega), he]
        · refine (bs_eq hS).2 fun f hf => ?_
          rw [show 2 * d + (j + 1) = 2 * d + j + 1 by omega, nbrK_step (by omega), he, decide_eq_false (fun h => hin (by rw [← h]; exact hf)), Bool.or_false]
      rcases hd3 with rfl | rfl | rfl <;> rcases hj2 with rfl | rfl
      all_goals
        simp only [Int.natCast_zero, Int.natCast_one, show (((2 : Nat)) : Int) = 2 from rfl] at f6 f10 f14
        obtain ⟨k1, k2⟩ := key _ rfl
        simp only [nbrs, List.getD_cons_zero, List.getD_cons_succ, Nat.reduceMul, Nat.reduceAdd] at k1 k2
        simp (disch := omega) only [f2, f3, f5, f10, f6, f13, f14, hcell.cells, hbox.cells, splice, hbox.app.cells, ↓SXd, SXu, slBounds, ↓sop, ↓aop, ↓reduceIte, LV.cells, AOp.dst, LV.I, LV.B, LV.U, LV.S, LV.nil, Nat.reduceEqDiff, Nat.reduceAdd, Nat.reduceMul, Nat.reduceSub, Nat.reduceLeDiff, Nat.reduceBEq, Nat.reduceDiv, Nat.reduceMod, Int.reduceToNat, Int.reduceLT, Int.reduceLE, Int.reduceAdd, Int.reduceSub, Int.reduceMul, Int.reduceEq, Int.reduceNeg, reduceCtorEq, resV, resAll, ARes.ev, LV.flat, ite_true, ite_false, exists_eq_left', exists_eq_left, keyOf, implies_true, fillC, capOf]
        refine callK_of (g_has hS) ?_
        simp (disch := omega) only [f2, f3, f5, f10, f6, f13, f14, hbox.app.cells, ↓SXd, SXu, slBounds, ↓sop, ↓aop, ↓reduceIte, LV.cells, AOp.dst, LV.I, LV.B, LV.U, LV.S, LV.nil, Nat.reduceEqDiff, Nat.reduceAdd, Nat.reduceMul, Nat.reduceSub, Nat.reduceLeDiff, Nat.reduceBEq, Nat.reduceDiv, Nat.reduceMod, Int.reduceToNat, Int.reduceLT, Int.reduceLE, Int.reduceAdd, Int.reduceSub, Int.reduceMul, Int.reduceEq, Int.reduceNeg, reduceCtorEq, resV, resAll, ARes.ev, LV.flat, ite_true, ite_false, exists_eq_left', exists_eq_left, keyOf, implies_true, fillC, capOf]
        refine condC_dec (fun hin => ?_) (fun hin => ?_)
        · have hix := (idx_in hS hin).1
          simp (disch := omega) only [f2, f3, f5, f10, f6, f13, f14, hbox.app.cells, ↓SXd, SXu, slBounds, ↓sop, ↓aop, ↓reduceIte, LV.cells, AOp.dst, LV.I, LV.B, LV.U, LV.S, LV.nil, Nat.reduceEqDiff, Nat.reduceAdd, Nat.reduceMul, Nat.reduceSub, Nat.reduceLeDiff, Nat.reduceBEq, Nat.reduceDiv, Nat.reduceMod, Int.reduceToNat, Int.reduceLT, Int.reduceLE, Int.reduceAdd, Int.reduceSub, Int.reduceMul, Int.reduceEq, Int.reduceNeg, reduceCtorEq, resV, resAll, ARes.ev, LV.flat, ite_true, ite_false, exists_eq_left', exists_eq_left, keyOf, implies_true, fillC, capOf]
          refine callK_of (g_index hS hin) ?_
          simp (disch := omega) only [f2, f3, f5, f10, f6, f13, f14, ↓SXd, SXu, slBounds, ↓sop, ↓aop, ↓reduceIte, LV.cells, AOp.dst, LV.I, LV.B, LV.U, LV.S, LV.nil, Nat.reduceEqDiff, Nat.reduceAdd, Nat.reduceMul, Nat.reduceSub, Nat.reduceLeDiff, Nat.reduceBEq, Nat.reduceDiv, Nat.reduceMod, Int.reduceToNat, Int.reduceLT, Int.reduceLE, Int.reduceAdd, Int.reduceSub, Int.reduceMul, Int.reduceEq, Int.reduceNeg, reduceCtorEq, resV, resAll, ARes.ev, LV.flat, ite_true, ite_false, exists_eq_left', exists_eq_left, keyOf, implies_true, fillC, capOf]
          rw [k1 hin]
          first
          | exact ⟨m2 - 1, by omega, 1, by omega, hpre.app', hbox.app, hcell.app, f2, f3, rfl, f10, f6, f13, rfl⟩
          | exact ⟨m2 - 1, by omega, 2, by omega, hpre.app', hbox.app, hcell.app, f2, f3, rfl, f10, f6, f13, rfl⟩
        · simp (disch := omega) only [f2, f3, f5, f10, f6, f13, f14, ↓SXd, SXu, slBounds, ↓sop, ↓aop, ↓reduceIte, LV.cells, AOp.dst, LV.I, LV.B, LV.U, LV.S, LV.nil, Nat.reduceEqDiff, Nat.reduceAdd, Nat.reduceMul, Nat.reduceSub, Nat.reduceLeDiff, Nat.reduceBEq, Nat.reduceDiv, Nat.reduceMod, Int.reduceToNat, Int.reduceLT, Int.reduceLE, Int.reduceAdd, Int.reduceSub, Int.reduceMul, Int.reduceEq, Int.reduceNeg, reduceCtorEq, resV, resAll, ARes.ev, LV.flat, ite_true, ite_false, exists_eq_left', exists_eq_left, keyOf, implies_true, fillC, capOf]
          rw [k2 hin] at f5
          first
          | exact ⟨m2 - 1, by omega, 1, by omega, hpre.app', hbox.app, hcell.app, f2, f3, f5, f10, f6, f13, rfl⟩
          | exact ⟨m2 - 1, by omega, 2, by omega, hpre.app', hbox.app, hcell.app, f2, f3, f5, f10, f6, f13, rfl⟩

theorem g_grown {p q : Cell → Bool} {M : Mem} : CallsTo PG F.impl_box_grown [.agg [.I x, .I y, .I z], .W (bs x y z p), .W (bs x y z q)] M (.W (bs x y z (reach x y z p q))) M := by
  have hv := vol_cast hS
  refine calls_run K.impl_box_grown rfl ?_
  simp (disch := omega) only [C.impl_box_grown, ↓SXd, SXu, slBounds, ↓sop, ↓aop, ↓reduceIte, LV.cells, AOp.dst, LV.I, LV.B, LV.U, LV.S, LV.nil, Nat.reduceEqDiff, Nat.reduceAdd, Nat.reduceMul, Nat.reduceSub, Nat.reduceLeDiff, Nat.reduceBEq, Nat.reduceDiv, Nat.reduceMod, Int.reduceToNat, Int.reduceLT, Int.reduceLE, Int.reduceAdd, Int.reduceSub, Int.reduceMul, Int.reduceEq, Int.reduceNeg, reduceCtorEq, resV, resAll, ARes.ev, LV.flat, ite_true, ite_false, exists_eq_left', exists_eq_left, keyOf, implies_true, fillC, capOf]
  refine ev_loop (fun m fr M' => ∃ r : Cell → Bool, rest x y z r = m ∧ (∀ c, c.inBox x y z → p c = true → r c = true) ∧ (∀ c, c.inBox x y z → r c = true → Reach x y z p q c) ∧ Pre M M' ∧ Live M' M.length (.row [.I x, .I y, .I z] true 0) ∧
    fr 1 = .W (bs x y z r) ∧ fr 2 = .W (bs x y z q) ∧ fr 3 = .ptr M.length 0) (rest x y z p)
    ⟨p, rfl, fun _ _ h => h, fun _ h1 h2 => .base h1 h2, Pre.app _ _, Live.new, rfl, rfl, rfl⟩ ?_
  rintro m fr M' ⟨r, hm, hr0, hr1, hpre, hbox, f1, f2, f3⟩
  simp (disch := omega) only [f1, f2, f3, hbox.cells, ↓SXd, SXu, slBounds, ↓sop, ↓aop, ↓reduceIte, LV.cells, AOp.dst, LV.I, LV.B, LV.U, LV.S, LV.nil, Nat.reduceEqDiff, Nat.reduceAdd, Nat.reduceMul, Nat.reduceSub, Nat.reduceLeDiff, Nat.reduceBEq, Nat.reduceDiv, Nat.reduceMod, Int.reduceToNat, Int.reduceLT, Int.reduceLE, Int.reduceAdd, Int.reduceSub, Int.reduceMul, Int.reduceEq, Int.reduceNeg, reduceCtorEq, resV, resAll, ARes.ev, LV.flat, ite_true, ite_false, exists_eq_left', exists_eq_left, keyOf, implies_true, fillC, capOf]
  refine callK_of (g_size hS) ?_
  simp (disch := omega) only [f1, f2, f3, ↓SXd, SXu, slBounds, ↓sop, ↓aop, ↓reduceIte, LV.cells, AOp.dst, LV.I, LV.B, LV.U, LV.S, LV.nil, Nat.reduceEqDiff, Nat.reduceAdd, Nat.reduceMul, Nat.reduceSub, Nat.reduceLeDiff, Nat.reduceBEq, Nat.reduceDiv, Nat.reduceMod, Int.reduceToNat, Int.reduceLT, Int.reduceLE, Int.reduceAdd, Int.reduceSub, Int.reduceMul, Int.reduceEq, Int.reduceNeg, reduceCtorEq, resV, resAll, ARes.ev, LV.flat, ite_true, ite_false, exists_eq_left', exists_eq_left, keyOf, implies_true, fillC, capOf]
  refine ev_loop (fun m2 fr N => ∃ k : Nat, k + m2 = vol x y z ∧ N = M' ∧ fr 1 = .W (bs x y z r) ∧ fr 2 = .W (bs x y z q) ∧ fr 3 = .ptr M.length 0 ∧ fr 7 = .W (bs x y z (growK y z r q k)) ∧ fr 11 = .I ((vol x y z : Nat) : Int) ∧ fr 12 = .I k) (vol x y z)
    ⟨0, by omega, rfl, f1, f2, f3, by rw [growK_zero]; rfl, rfl, rfl⟩ ?_
  clear f1 f2 f3
  rintro m2 fr N ⟨k, hk, rfl, f1, f2, f3, f7, f11, f12⟩
  simp (disch := omega) only [f1, f2, f3, f7, f11, f12, ↓SXd, SXu, slBounds, ↓sop, ↓aop, ↓reduceIte, LV.cells, AOp.dst, LV.I, LV.B, LV.U, LV.S, LV.nil, Nat.reduceEqDiff, Nat.reduceAdd, Nat.reduceMul, Nat.reduceSub, Nat.reduceLeDiff, Nat.reduceBEq, Nat.reduceDiv, Nat.reduceMod, Int.reduceToNat, Int.reduceLT, Int.reduceLE, Int.reduceAdd, Int.reduceSub, Int.reduceMul, Int.reduceEq, Int.reduceNeg, reduceCtorEq, resV, resAll, ARes.ev, LV.flat, ite_true, ite_false, exists_eq_left', exists_eq_left, keyOf, implies_true, fillC, capOf]
  refine condC_dec (fun hlt => ?_) (fun hlt => ?_)
  · simp (disch := omega) only [f1, f2, f3, f7, f11, f12, ↓SXd, SXu, slBounds, ↓sop, ↓aop, ↓reduceIte, LV.cells, AOp.dst, LV.I, LV.B, LV.U, LV.S, LV.nil, Nat.reduceEqDiff, Nat.reduceAdd, Nat.reduceMul, Nat.reduceSub, Nat.reduceLeDiff, Nat.reduceBEq, Nat.reduceDiv, Nat.reduceMod, Int.reduceToNat, Int.reduceLT, Int.reduceLE, Int.reduceAdd, Int.reduceSub, Int.reduceMul, Int.reduceEq, Int.reduceNeg, reduceCtorEq, resV, resAll, ARes.ev, LV.flat, ite_true, ite_false, exists_eq_left', exists_eq_left, keyOf, implies_true, fillC, capOf]
    refine callK_of (g_has_set (by omega)) ?_
    simp (disch := omega) only [f1, f2, f3, f7, f11, f12, ↓SXd, SXu, slBounds, ↓sop, ↓aop, ↓reduceIte, LV.cells, AOp.dst, LV.I, LV.B, LV.U, LV.S, LV.nil, Nat.reduceEqDiff, Nat.reduceAdd, Nat.reduceMul, Nat.reduceSub, Nat.reduceLeDiff, Nat.reduceBEq, Nat.reduceDiv, Nat.reduceMod, Int.reduceToNat, Int.reduceLT, Int.reduceLE, Int.reduceAdd, Int.reduceSub, Int.reduceMul, Int.reduceEq, Int.reduceNeg, reduceCtorEq, resV, resAll, ARes.ev, LV.flat, ite_true, ite_false, exists_eq_left', exists_eq_left, keyOf, implies_true, fillC, capOf]
    have hbit := bs_bit hS r k
    rw [decide_eq_true (show k < vol x y z by omega), Bool.true_and] at hbit
    rw [hbit]
    by_cases hp : r (cellAt y z k) = true
    · simp (disch := omega) only [f1, f2, f3, f7, f11, f12, hp, hbox.cells, ↓SXd, SXu, slBounds, ↓sop, ↓aop, ↓reduceIte, LV.cells, AOp.dst, LV.I, LV.B, LV.U, LV.S, LV.nil, Nat.reduceEqDiff, Nat.reduceAdd, Nat.reduceMul, Nat.reduceSub, Nat.reduceLeDiff, Nat.reduceBEq, Nat.reduceDiv, Nat.reduceMod, Int.reduceToNat, Int.reduceLT, Int.reduceLE, Int.reduceAdd, Int.reduceSub, Int.reduceMul, Int.reduceEq, Int.reduceNeg, reduceCtorEq, resV, resAll, ARes.ev, LV.flat, ite_true, ite_false, exists_eq_left', exists_eq_left, keyOf, implies_true, fillC, capOf]
      refine callK_of (g_cell hS (by omega) (by omega)) ?_
      simp (disch := omega) only [f1, f2, f3, f7, f11, f12, ↓SXd, SXu, slBounds, ↓sop, ↓aop, ↓reduceIte, LV.cells, AOp.dst, LV.I, LV.B, LV.U, LV.S, LV.nil, Nat.reduceEqDiff, Nat.reduceAdd, Nat.reduceMul, Nat.reduceSub, Nat.reduceLeDiff, Nat.reduceBEq, Nat.reduceDiv, Nat.reduceMod, Int.reduceToNat, Int.reduceLT, Int.reduceLE, Int.reduceAdd, Int.reduceSub, Int.reduceMul, Int.reduceEq, Int.reduceNeg, reduceCtorEq, resV, resAll, ARes.ev, LV.flat, ite_true, ite_false, exists_eq_left', exists_eq_left, keyOf, implies_true, fillC, capOf]
      refine callK_of (g_nearSet hS (c := cellAt y z k) (cellAt_in hS (by omega) (by omega)).1) ?_
      simp (disch := omega) only [f1, f2, f3, f7, f11, f12, ↓SXd, SXu, slBounds, ↓sop, ↓aop, ↓reduceIte, LV.cells, AOp.dst, LV.I, LV.B, LV.U, LV.S, LV.nil, Nat.reduceEqDiff, Nat.reduceAdd, Nat.reduceMul, Nat.reduceSub, Nat.reduceLeDiff, Nat.reduceBEq, Nat.reduceDiv, Nat.reduceMod, Int.reduceToNat, Int.reduceLT, Int.reduceLE, Int.reduceAdd, Int.reduceSub, Int.reduceMul, Int.reduceEq, Int.reduceNeg, reduceCtorEq, resV, resAll, ARes.ev, LV.flat, ite_true, ite_false, exists_eq_left', exists_eq_left, keyOf, implies_true, fillC, capOf]
      rw [bs_and hS, bs_or hS]
      exact ⟨m2 - 1, by omega, k + 1, by omega, rfl, f1, f2, f3, by rw [show bs x y z (growK y z r q (k + 1)) = _ from (bs_eq hS).2 fun c _ => growK_succ c]; simp only [hp, if_true]; rfl, f11, eqI (natI _)⟩
    · have hp' : r (cellAt y z k) = false := by simpa using hp
      simp (disch := omega) only [f1, f2, f3, f7, f11, f12, hp', ↓SXd, SXu, slBounds, ↓sop, ↓aop, ↓reduceIte, LV.cells, AOp.dst, LV.I, LV.B, LV.U, LV.S, LV.nil, Nat.reduceEqDiff, Nat.reduceAdd, Nat.reduceMul, Nat.reduceSub, Nat.reduceLeDiff, Nat.reduceBEq, Nat.reduceDiv, Nat.reduceMod, Int.reduceToNat, Int.reduceLT, Int.reduceLE, Int.reduceAdd, Int.reduceSub, Int.reduceMul, Int.reduceEq, Int.reduceNeg, reduceCtorEq, resV, resAll, ARes.ev, LV.flat, ite_true, ite_false, exists_eq_left', exists_eq_left, keyOf, implies_true, fillC, capOf]
      exact ⟨m2 - 1, by omega, k + 1, by omega, rfl, f1, f2, f3, by rw [show bs x y z (growK y z r q (k + 1)) = bs x y z (growK y z r q k) from (bs_eq hS).2 fun c _ => by rw [growK_succ c, hp', if_neg (by simp)]]; exact f7, f11, eqI (natI _)⟩
  · simp (disch := omega) only [f1, f2, f3, f7, f11, f12, ↓SXd, SXu, slBounds, ↓sop, ↓aop, ↓reduceIte, LV.cells, AOp.dst, LV.I, LV.B, LV.U, LV.S, LV.nil, Nat.reduceEqDiff, Nat.reduceAdd, Nat.reduceMul, Nat.reduceSub, Nat.reduceLeDiff, Nat.reduceBEq, Nat.reduceDiv, Nat.reduceMod, Int.reduceToNat, Int.reduceLT, Int.reduceLE, Int.reduceAdd, Int.reduceSub, Int.reduceMul, Int.reduceEq, Int.reduceNeg, reduceCtorEq, resV, resAll, ARes.ev, LV.flat, ite_true, ite_false, exists_eq_left', exists_eq_left, keyOf, implies_true, fillC, capOf]
    have : k = vol x y z := by omega
    subst this
    refine condC_dec (fun he => ?_) (fun he => ?_)
    · simp (disch := omega) only [f1, f2, f3, f7, f11, f12, ↓SXd, SXu, slBounds, ↓sop, ↓aop, ↓reduceIte, LV.cells, AOp.dst, LV.I, LV.B, LV.U, LV.S, LV.nil, Nat.reduceEqDiff, Nat.reduceAdd, Nat.reduceMul, Nat.reduceSub, Nat.reduceLeDiff, Nat.reduceBEq, Nat.reduceDiv, Nat.reduceMod, Int.reduceToNat, Int.reduceLT, Int.reduceLE, Int.reduceAdd, Int.reduceSub, Int.reduceMul, Int.reduceEq, Int.reduceNeg, reduceCtorEq, resV, resAll, ARes.ev, LV.flat, ite_true, ite_false, exists_eq_left', exists_eq_left, keyOf, implies_true, fillC, capOf]
      rw [show bs x y z (reach x y z p q) = bs x y z r from (bs_eq hS).2 fun c hc => (reach_of_fix hS hr0 hr1 ((bs_eq hS).1 he) c hc).symm]
      exact cmp_pre hpre rfl
    · simp (disch := omega) only [f1, f2, f3, f7, f11, f12, ↓SXd, SXu, slBounds, ↓sop, ↓aop, ↓reduceIte, LV.cells, AOp.dst, LV.I, LV.B, LV.U, LV.S, LV.nil, Nat.reduceEqDiff, Nat.reduceAdd, Nat.reduceMul, Nat.reduceSub, Nat.reduceLeDiff, Nat.reduceBEq, Nat.reduceDiv, Nat.reduceMod, Int.reduceToNat, Int.reduceLT, Int.reduceLE, Int.reduceAdd, Int.reduceSub, Int.reduceMul, Int.reduceEq, Int.reduceNeg, reduceCtorEq, resV, resAll, ARes.ev, LV.flat, ite_true, ite_false, exists_eq_left', exists_eq_left, keyOf, implies_true, fillC, capOf]
      refine ⟨rest x y z (growK y z r q (vol x y z)), ?_, growK y z r q (vol x y z), rfl, fun c hc h => (grow_iff hS).2 (.inl (hr0 c hc h)), fun c hc h => ?_, hpre, hbox, rfl, f2, f3⟩
      · rw [← hm]
        refine rest_lt hS (fun c hc h => (grow_iff hS).2 (.inl h)) ?_
        apply Classical.byContradiction
        intro hno
        apply he
        refine (bs_eq hS).2 fun c hc => ?_
        cases h1 : r c with
        | true => exact (grow_iff hS).2 (.inl h1)
        | false =>
          cases h2 : growK y z r q (vol x y z) c with
          | false => rfl
          | true => exact absurd ⟨c, hc, h1, h2⟩ hno
      · rcases (grow_iff hS).1 h with h | ⟨h1, d, h2, h3, h4⟩
        · exact hr1 c hc h
        · exact .step (hr1 d h2 h3) h4 hc h1
end
end Go.Ab

namespace Go.Ab
open Go

theorem w_add {s u : BitVec 64} : binV .add (.val (.int .u64 ((s.toNat : Nat) : Int))) (.val (.int .u64 ((u.toNat : Nat) : Int))) = some (.val (.int .u64 (((s + u).toNat : Nat) : Int)), True) := by
  rw [bv_add, IntKind.wrap_u64, BitVec.toNat_add]
  congr 4
theorem w_andc {s : BitVec 64} {c : Nat} (hc : c < 18446744073709551616) : binV .and (.val (.int .u64 ((s.toNat : Nat) : Int))) (.val (.int .u64 (c : Int))) = some (.val (.int .u64 (((s &&& BitVec.ofNat 64 c).toNat : Nat) : Int)), True) := by
  have h := w_and (s := s) (u := BitVec.ofNat 64 c)
  rw [BitVec.toNat_ofNat, Nat.mod_eq_of_lt hc] at h; exact h
theorem w_m1 {s : BitVec 64} : binV .and (.val (.int .u64 ((s.toNat : Nat) : Int))) (.val (.int .u64 6148914691236517205)) = some (.val (.int .u64 (((s &&& 6148914691236517205#64).toNat : Nat) : Int)), True) := w_andc (c := 6148914691236517205) (by decide)
theorem w_m2 {s : BitVec 64} : binV .and (.val (.int .u64 ((s.toNat : Nat) : Int))) (.val (.int .u64 3689348814741910323)) = some (.val (.int .u64 (((s &&& 3689348814741910323#64).toNat : Nat) : Int)), True) := w_andc (c := 3689348814741910323) (by decide)
theorem w_m3 {s : BitVec 64} : binV .and (.val (.int .u64 ((s.toNat : Nat) : Int))) (.val (.int .u64 1085102592571150095)) = some (.val (.int .u64 (((s &&& 1085102592571150095#64).toNat : Nat) : Int)), True) := w_andc (c := 1085102592571150095) (by decide)

theorem conv_and {x : BitVec 64} : IntKind.i64.wrap (((BitVec.ofInt 64 (IntKind.i64.wrap ((x.toNat : Nat) : Int)) &&& BitVec.ofInt 64 127).toNat : Nat) : Int) = (((x &&& 127#64).toNat : Nat) : Int) := by
  have h1 : BitVec.ofInt 64 (IntKind.i64.wrap ((x.toNat : Nat) : Int)) = x := by
    apply BitVec.eq_of_toNat_eq
    have := x.isLt
    rw [BitVec.toNat_ofInt, IntKind.wrap_i64]
    omega
  have h2 : BitVec.ofInt 64 127 = 127#64 := rfl
  rw [h1, h2, IntKind.wrap_i64]
  have h3 : (x &&& 127#64).toNat ≤ 127 := by
    rw [BitVec.toNat_and]; exact Nat.and_le_right
  omega
theorem g_OnesCount64 {s : BitVec 64} {M : Mem} : CallsTo PG F.math_bits_OnesCount64 [.W s] M (.I (((swar s).toNat : Nat) : Int)) M := by
  refine calls_run K.math_bits_OnesCount64 rfl ?_
  simp (disch := omega) only [C.math_bits_OnesCount64, w_shr, w_m1, w_m2, w_m3, w_add, ↓SXd, SXu, slBounds, ↓sop, ↓aop, ↓reduceIte, LV.cells, AOp.dst, LV.I, LV.B, LV.U, LV.S, LV.nil, Nat.reduceEqDiff, Nat.reduceAdd, Nat.reduceMul, Nat.reduceSub, Nat.reduceLeDiff, Nat.reduceBEq, Nat.reduceDiv, Nat.reduceMod, Int.reduceToNat, Int.reduceLT, Int.reduceLE, Int.reduceAdd, Int.reduceSub, Int.reduceMul, Int.reduceEq, Int.reduceNeg, reduceCtorEq, resV, resAll, ARes.ev, LV.flat, ite_true, ite_false, exists_eq_left', exists_eq_left, keyOf, implies_true, fillC, capOf]
  rw [conv_and]
  exact cmp_pre (Pre.refl _) rfl
theorem g_count {s : BitVec 64} {M : Mem} : CallsTo PG F.impl_set_count [.W s] M (.I (((swar s).toNat : Nat) : Int)) M := by
  refine calls_run K.impl_set_count rfl ?_
  simp (disch := omega) only [C.impl_set_count, ↓SXd, SXu, slBounds, ↓sop, ↓aop, ↓reduceIte, LV.cells, AOp.dst, LV.I, LV.B, LV.U, LV.S, LV.nil, Nat.reduceEqDiff, Nat.reduceAdd, Nat.reduceMul, Nat.reduceSub, Nat.reduceLeDiff, Nat.reduceBEq, Nat.reduceDiv, Nat.reduceMod, Int.reduceToNat, Int.reduceLT, Int.reduceLE, Int.reduceAdd, Int.reduceSub, Int.reduceMul, Int.reduceEq, Int.reduceNeg, reduceCtorEq, resV, resAll, ARes.ev, LV.flat, ite_true, ite_false, exists_eq_left', exists_eq_left, keyOf, implies_true, fillC, capOf]
  refine callK_of (g_OnesCount64) ?_
  simp (disch := omega) only [↓SXd, SXu, slBounds, ↓sop, ↓aop, ↓reduceIte, LV.cells, AOp.dst, LV.I, LV.B, LV.U, LV.S, LV.nil, Nat.reduceEqDiff, Nat.reduceAdd, Nat.reduceMul, Nat.reduceSub, Nat.reduceLeDiff, Nat.reduceBEq, Nat.reduceDiv, Nat.reduceMod, Int.reduceToNat, Int.reduceLT, Int.reduceLE, Int.reduceAdd, Int.reduceSub, Int.reduceMul, Int.reduceEq, Int.reduceNeg, reduceCtorEq, resV, resAll, ARes.ev, LV.flat, ite_true, ite_false, exists_eq_left', exists_eq_left, keyOf, implies_true, fillC, capOf]
  exact cmp_pre (Pre.refl _) rfl

theorem onRim_iff {x y z : Int} {c : Cell} (hc : c.inBox x y z) : onRim x y z c = true ↔ ∃ d : Cell, apart c d = 1 ∧ ¬ d.inBox x y z := by
  obtain ⟨⟨h1, h2⟩, ⟨h3, h4⟩, ⟨h5, h6⟩⟩ := hc
  unfold onRim
  rw [decide_eq_true_iff]
  constructor
  · rintro (h | h | h | h | h | h)
    · exact ⟨⟨c.a - 1, c.b, c.c⟩, by unfold apart; simp only; omega, fun k => by have := k.1.1; simp only at this; omega⟩
    · exact ⟨⟨c.a, c.b - 1, c.c⟩, by unfold apart; simp only; omega, fun k => by have := k.2.1.1; simp only at this; omega⟩
    · exact ⟨⟨c.a, c.b, c.c - 1⟩, by unfold apart; simp only; omega, fun k => by have := k.2.2.1; simp only at this; omega⟩
    · exact ⟨⟨c.a + 1, c.b, c.c⟩, by unfold apart; simp only; omega, fun k => by have := k.1.2; simp only at this; omega⟩
    · exact ⟨⟨c.a, c.b + 1, c.c⟩, by unfold apart; simp only; omega, fun k => by have := k.2.1.2; simp only at this; omega⟩
    · exact ⟨⟨c.a, c.b, c.c + 1⟩, by unfold apart; simp only; omega, fun k => by have := k.2.2.2; simp only at this; omega⟩
  · rintro ⟨d, hd, hk⟩
    apply Classical.byContradiction
    intro hno
    refine hk ⟨⟨?_, ?_⟩, ⟨?_, ?_⟩, ⟨?_, ?_⟩⟩ <;> (unfold apart at hd; omega)

theorem rim_count {x y z : Int} (hS : Sides x y z) {c : Cell} (hc : c.inBox x y z) : decide ((((swar (bs x y z fun d => decide (apart c d = 1))).toNat : Nat) : Int) < 6) = onRim x y z c := by
  obtain ⟨⟨_, _⟩, ⟨_, _⟩, ⟨_, _⟩⟩ := id hS
  obtain ⟨k1, k2, k3⟩ := idx_in hS hc
  obtain ⟨X, hX, hX4⟩ : ∃ X : Nat, x = ((X + 1 : Nat) : Int) ∧ X < 4 := ⟨(x - 1).toNat, by omega, by omega⟩
  obtain ⟨Y, hY, hY4⟩ : ∃ Y : Nat, y = ((Y + 1 : Nat) : Int) ∧ Y < 4 := ⟨(y - 1).toNat, by omega, by omega⟩
  obtain ⟨Z, hZ, hZ4⟩ : ∃ Z : Nat, z = ((Z + 1 : Nat) : Int) ∧ Z < 4 := ⟨(z - 1).toNat, by omega, by omega⟩
  obtain ⟨i, hi⟩ : ∃ i : Nat, idx y z c = i := ⟨(idx y z c).toNat, by omega⟩
  have hv : i < (X + 1) * (Y + 1) * (Z + 1) := by
    have h : (i : Int) < ((X + 1 : Nat) : Int) * ((Y + 1 : Nat) : Int) * ((Z + 1 : Nat) : Int) := by rw [← hX, ← hY, ← hZ, ← hi]; exact k2
    rw [← Int.natCast_mul, ← Int.natCast_mul] at h
    omega
  have := rim_small X hX4 Y hY4 Z hZ4 i hv
  rw [← hX, ← hY, ← hZ, ← hi, k3] at this
  rw [← this]
  exact decide_eq_decide.2 (by omega)
end Go.Ab

namespace Go.Ab

theorem Reach.symm {x y z : Int} {q : Cell → Bool} {c d : Cell} (hc : c.inBox x y z) (hqc : q c = true) (h : Reach x y z (fun e => decide (e = c)) q d) : Reach x y z (fun e => decide (e = d)) q c ∧ q d = true := by
  induction h with
  | base h1 h2 => rw [of_decide_eq_true h2]; exact ⟨.base hc (by simp), hqc⟩
  | @step a b h1 h2 h3 h4 ih =>
    refine ⟨?_, h4⟩
    have hb : Reach x y z (fun e => decide (e = b)) q b := .base h3 (by simp)
    have hba : Reach x y z (fun e => decide (e = b)) q a := .step hb (by rw [apart_comm]; exact h2) h1.inBox ih.2
    have htr : ∀ {u}, Reach x y z (fun e => decide (e = a)) q u → Reach x y z (fun e => decide (e = b)) q u := fun hu =>
      hu.mono (fun e _ he => by rw [of_decide_eq_true he]; exact hba) fun _ _ h => h
    exact htr ih.1
theorem Reach.trans {x y z : Int} {q p : Cell → Bool} {c d : Cell} (h : Reach x y z p q c) (k : Reach x y z (fun e => decide (e = c)) q d) : Reach x y z p q d :=
  k.mono (fun e _ he => by rw [of_decide_eq_true he]; exact h) fun _ _ h => h

section
variable {x y z : Int} (hS : Sides x y z)
include hS
noncomputable def stand (x y z : Int) (q : Cell → Bool) : Cell → Bool := reach x y z (fun e => q e && decide (e.c = 0)) q
noncomputable def parted (x y z : Int) (q : Cell → Bool) (hang : Bool) : Cell → Bool := fun d => q d && (stand x y z q d != hang)
end

def floorOf (l : List Cell) : Bool := l.any fun e => decide (e.c = 0)
def selK (L : List (List Cell)) (hang : Bool) (k : Nat) : Cell → Bool := fun d => (L.take k).any fun l => (floorOf l != hang) && decide (d ∈ l)
theorem parts_len {x y z : Int} : ∀ (f : Nat) (q : Cell → Bool), (parts x y z f q).length ≤ f
  | 0, _ => by simp [parts]
  | f + 1, q => by
    cases h : pick x y z q with
    | nil => simp [parts, h]
    | cons c rs => simp only [parts, h, List.length_cons]; have := parts_len f (x := x) (y := y) (z := z) fun d => q d && !reach x y z (fun d => decide (d = c)) q d; omega
end Go.Ab

namespace Go.Ab
open Go

noncomputable def outer (x y z : Int) (p : Cell → Bool) : Cell → Bool := reach x y z (fun c => !p c && onRim x y z c) fun c => !p c
noncomputable def closed (x y z : Int) (p : Cell → Bool) (c : Cell) : Bool := !p c && !outer x y z p c
noncomputable def fillOf (x y z : Int) (cs : List Cell) : Option Hp := by
  classical
  exact if HeapOK x y z cs then some ⟨x, y, z, pick x y z fun c => decide (c ∈ cs) || closed x y z (fun c => decide (c ∈ cs)) c⟩ else none
theorem g_enclosed_1 {x y z : Int} {c : Cell} {t : Nat} {M : Mem} (hS : Sides x y z) (hb : Live M t (.row [.I x, .I y, .I z] true 0)) (hc : c.inBox x y z) :
    CallsTo PG F.impl_Heap_enclosed_1 [.agg [.I c.a, .I c.b, .I c.c], .ptr t 0] M (.B (onRim x y z c)) M := by
  refine calls_run K.impl_Heap_enclosed_1 rfl ?_
  simp (disch := omega) only [C.impl_Heap_enclosed_1, hb.app.cells, ↓SXd, SXu, slBounds, ↓sop, ↓aop, ↓reduceIte, LV.cells, AOp.dst, LV.I, LV.B, LV.U, LV.S, LV.nil, Nat.reduceEqDiff, Nat.reduceAdd, Nat.reduceMul, Nat.reduceSub, Nat.reduceLeDiff, Nat.reduceBEq, Nat.reduceDiv, Nat.reduceMod, Int.reduceToNat, Int.reduceLT, Int.reduceLE, Int.reduceAdd, Int.reduceSub, Int.reduceMul, Int.reduceEq, Int.reduceNeg, reduceCtorEq, resV, resAll, ARes.ev, LV.flat, ite_true, ite_false, exists_eq_left', exists_eq_left, keyOf, implies_true, fillC, capOf]
  refine callK_of (g_nearSet hS hc) ?_
  simp (disch := omega) only [↓SXd, SXu, slBounds, ↓sop, ↓aop, ↓reduceIte, LV.cells, AOp.dst, LV.I, LV.B, LV.U, LV.S, LV.nil, Nat.reduceEqDiff, Nat.reduceAdd, Nat.reduceMul, Nat.reduceSub, Nat.reduceLeDiff, Nat.reduceBEq, Nat.reduceDiv, Nat.reduceMod, Int.reduceToNat, Int.reduceLT, Int.reduceLE, Int.reduceAdd, Int.reduceSub, Int.reduceMul, Int.reduceEq, Int.reduceNeg, reduceCtorEq, resV, resAll, ARes.ev, LV.flat, ite_true, ite_false, exists_eq_left', exists_eq_left, keyOf, implies_true, fillC, capOf]
  refine callK_of (g_count) ?_
  simp (disch := omega) only [↓SXd, SXu, slBounds, ↓sop, ↓aop, ↓reduceIte, LV.cells, AOp.dst, LV.I, LV.B, LV.U, LV.S, LV.nil, Nat.reduceEqDiff, Nat.reduceAdd, Nat.reduceMul, Nat.reduceSub, Nat.reduceLeDiff, Nat.reduceBEq, Nat.reduceDiv, Nat.reduceMod, Int.reduceToNat, Int.reduceLT, Int.reduceLE, Int.reduceAdd, Int.reduceSub, Int.reduceMul, Int.reduceEq, Int.reduceNeg, reduceCtorEq, resV, resAll, ARes.ev, LV.flat, ite_true, ite_false, exists_eq_left', exists_eq_left, keyOf, implies_true, fillC, capOf]
  have h := rim_count hS hc
  rw [h]
  exact cmp_drop rfl

theorem g_enclosed {x y z : Int} {t o : Nat} {cs : List Cell} {M : Mem} (h : Tri M t o cs) (hn : cs.length ≤ 1000000000) (hH : HeapOK x y z cs) :
    CallsTo PG F.impl_Heap_enclosed [.agg [.I x, .I y, .I z, .ref t o cs.length]] M (.W (bs x y z (closed x y z fun c => decide (c ∈ cs)))) M := by
  have hS := hH.1
  have hv := vol_cast hS
  refine calls_run K.impl_Heap_enclosed rfl ?_
  simp (disch := omega) only [C.impl_Heap_enclosed, ↓SXd, SXu, slBounds, ↓sop, ↓aop, ↓reduceIte, LV.cells, AOp.dst, LV.I, LV.B, LV.U, LV.S, LV.nil, Nat.reduceEqDiff, Nat.reduceAdd, Nat.reduceMul, Nat.reduceSub, Nat.reduceLeDiff, Nat.reduceBEq, Nat.reduceDiv, Nat.reduceMod, Int.reduceToNat, Int.reduceLT, Int.reduceLE, Int.reduceAdd, Int.reduceSub, Int.reduceMul, Int.reduceEq, Int.reduceNeg, reduceCtorEq, resV, resAll, ARes.ev, LV.flat, ite_true, ite_false, exists_eq_left', exists_eq_left, keyOf, implies_true, fillC, capOf]
  refine callK_of (g_box) ?_
  simp (disch := omega) only [↓SXd, SXu, slBounds, ↓sop, ↓aop, ↓reduceIte, LV.cells, AOp.dst, LV.I, LV.B, LV.U, LV.S, LV.nil, Nat.reduceEqDiff, Nat.reduceAdd, Nat.reduceMul, Nat.reduceSub, Nat.reduceLeDiff, Nat.reduceBEq, Nat.reduceDiv, Nat.reduceMod, Int.reduceToNat, Int.reduceLT, Int.reduceLE, Int.reduceAdd, Int.reduceSub, Int.reduceMul, Int.reduceEq, Int.reduceNeg, reduceCtorEq, resV, resAll, ARes.ev, LV.flat, ite_true, ite_false, exists_eq_left', exists_eq_left, keyOf, implies_true, fillC, capOf]
  refine callK_of (g_full hS) ?_
  simp (disch := omega) only [↓SXd, SXu, slBounds, ↓sop, ↓aop, ↓reduceIte, LV.cells, AOp.dst, LV.I, LV.B, LV.U, LV.S, LV.nil, Nat.reduceEqDiff, Nat.reduceAdd, Nat.reduceMul, Nat.reduceSub, Nat.reduceLeDiff, Nat.reduceBEq, Nat.reduceDiv, Nat.reduceMod, Int.reduceToNat, Int.reduceLT, Int.reduceLE, Int.reduceAdd, Int.reduceSub, Int.reduceMul, Int.reduceEq, Int.reduceNeg, reduceCtorEq, resV, resAll, ARes.ev, LV.flat, ite_true, ite_false, exists_eq_left', exists_eq_left, keyOf, implies_true, fillC, capOf]
  refine callK_of (g_cubes h.app hn hS (fun c hc => hH.mem hc)) ?_
  simp (disch := omega) only [↓SXd, SXu, slBounds, ↓sop, ↓aop, ↓reduceIte, LV.cells, AOp.dst, LV.I, LV.B, LV.U, LV.S, LV.nil, Nat.reduceEqDiff, Nat.reduceAdd, Nat.reduceMul, Nat.reduceSub, Nat.reduceLeDiff, Nat.reduceBEq, Nat.reduceDiv, Nat.reduceMod, Int.reduceToNat, Int.reduceLT, Int.reduceLE, Int.reduceAdd, Int.reduceSub, Int.reduceMul, Int.reduceEq, Int.reduceNeg, reduceCtorEq, resV, resAll, ARes.ev, LV.flat, ite_true, ite_false, exists_eq_left', exists_eq_left, keyOf, implies_true, fillC, capOf]
  rw [bs_diff hS]
  refine callK_of (g_those hS (p := onRim x y z) (f := F.impl_Heap_enclosed_1) (caps := [(M.length + 1, 0)]) fun M' hp i hi => ?_) ?_
  · exact g_enclosed_1 hS ((Live.newj rfl).pre hp) (cellAt_in hS (by omega) (by omega)).1
  simp (disch := omega) only [↓SXd, SXu, slBounds, ↓sop, ↓aop, ↓reduceIte, LV.cells, AOp.dst, LV.I, LV.B, LV.U, LV.S, LV.nil, Nat.reduceEqDiff, Nat.reduceAdd, Nat.reduceMul, Nat.reduceSub, Nat.reduceLeDiff, Nat.reduceBEq, Nat.reduceDiv, Nat.reduceMod, Int.reduceToNat, Int.reduceLT, Int.reduceLE, Int.reduceAdd, Int.reduceSub, Int.reduceMul, Int.reduceEq, Int.reduceNeg, reduceCtorEq, resV, resAll, ARes.ev, LV.flat, ite_true, ite_false, exists_eq_left', exists_eq_left, keyOf, implies_true, fillC, capOf]
  rw [bs_and hS]
  refine callK_of (g_grown hS) ?_
  simp (disch := omega) only [↓SXd, SXu, slBounds, ↓sop, ↓aop, ↓reduceIte, LV.cells, AOp.dst, LV.I, LV.B, LV.U, LV.S, LV.nil, Nat.reduceEqDiff, Nat.reduceAdd, Nat.reduceMul, Nat.reduceSub, Nat.reduceLeDiff, Nat.reduceBEq, Nat.reduceDiv, Nat.reduceMod, Int.reduceToNat, Int.reduceLT, Int.reduceLE, Int.reduceAdd, Int.reduceSub, Int.reduceMul, Int.reduceEq, Int.reduceNeg, reduceCtorEq, resV, resAll, ARes.ev, LV.flat, ite_true, ite_false, exists_eq_left', exists_eq_left, keyOf, implies_true, fillC, capOf]
  rw [bs_diff hS]
  rw [show bs x y z (closed x y z fun c => decide (c ∈ cs)) = _ from (bs_eq hS).2 fun c _ => by unfold closed outer; rfl]
  simp only [Bool.true_and]
  exact cmp_pre (Pre.app _ _) rfl

theorem g_FillCavities {x y z : Int} {t : Nat} {w : Bool} {cs : List Cell} {M : Mem} (h0 : Live M t (.row (triL cs) w 3)) (hn : cs.length ≤ 1000000000) :
    CallsR PG F.impl_FillCavities [.agg [.I x, .I y, .I z, .ref t 0 cs.length]] M (HeapRes M (fillOf x y z cs) []) := by
  have h : Tri M t 0 cs := h0.has
  refine callsR_run K.impl_FillCavities rfl ?_
  simp (disch := omega) only [C.impl_FillCavities, ↓SXd, SXu, slBounds, ↓sop, ↓aop, ↓reduceIte, LV.cells, AOp.dst, LV.I, LV.B, LV.U, LV.S, LV.nil, Nat.reduceEqDiff, Nat.reduceAdd, Nat.reduceMul, Nat.reduceSub, Nat.reduceLeDiff, Nat.reduceBEq, Nat.reduceDiv, Nat.reduceMod, Int.reduceToNat, Int.reduceLT, Int.reduceLE, Int.reduceAdd, Int.reduceSub, Int.reduceMul, Int.reduceEq, Int.reduceNeg, reduceCtorEq, resV, resAll, ARes.ev, LV.flat, ite_true, ite_false, exists_eq_left', exists_eq_left, keyOf, implies_true, fillC, capOf]
  refine callK_of (g_IsHeap h.app hn) ?_
  simp (disch := omega) only [↓SXd, SXu, slBounds, ↓sop, ↓aop, ↓reduceIte, LV.cells, AOp.dst, LV.I, LV.B, LV.U, LV.S, LV.nil, Nat.reduceEqDiff, Nat.reduceAdd, Nat.reduceMul, Nat.reduceSub, Nat.reduceLeDiff, Nat.reduceBEq, Nat.reduceDiv, Nat.reduceMod, Int.reduceToNat, Int.reduceLT, Int.reduceLE, Int.reduceAdd, Int.reduceSub, Int.reduceMul, Int.reduceEq, Int.reduceNeg, reduceCtorEq, resV, resAll, ARes.ev, LV.flat, ite_true, ite_false, exists_eq_left', exists_eq_left, keyOf, implies_true, fillC, capOf]
  unfold fillOf
  by_cases hH : HeapOK x y z cs
  · have hS := hH.1
    rw [if_pos hH]
    simp (disch := omega) only [hH, ↓SXd, SXu, slBounds, ↓sop, ↓aop, ↓reduceIte, LV.cells, AOp.dst, LV.I, LV.B, LV.U, LV.S, LV.nil, Nat.reduceEqDiff, Nat.reduceAdd, Nat.reduceMul, Nat.reduceSub, Nat.reduceLeDiff, Nat.reduceBEq, Nat.reduceDiv, Nat.reduceMod, Int.reduceToNat, Int.reduceLT, Int.reduceLE, Int.reduceAdd, Int.reduceSub, Int.reduceMul, Int.reduceEq, Int.reduceNeg, reduceCtorEq, resV, resAll, ARes.ev, LV.flat, ite_true, ite_false, exists_eq_left', exists_eq_left, keyOf, implies_true, fillC, capOf]
    refine callK_of (g_box) ?_
    simp (disch := omega) only [↓SXd, SXu, slBounds, ↓sop, ↓aop, ↓reduceIte, LV.cells, AOp.dst, LV.I, LV.B, LV.U, LV.S, LV.nil, Nat.reduceEqDiff, Nat.reduceAdd, Nat.reduceMul, Nat.reduceSub, Nat.reduceLeDiff, Nat.reduceBEq, Nat.reduceDiv, Nat.reduceMod, Int.reduceToNat, Int.reduceLT, Int.reduceLE, Int.reduceAdd, Int.reduceSub, Int.reduceMul, Int.reduceEq, Int.reduceNeg, reduceCtorEq, resV, resAll, ARes.ev, LV.flat, ite_true, ite_false, exists_eq_left', exists_eq_left, keyOf, implies_true, fillC, capOf]
    refine callK_of (g_cubes h.app hn hS (fun c hc => hH.mem hc)) ?_
    simp (disch := omega) only [↓SXd, SXu, slBounds, ↓sop, ↓aop, ↓reduceIte, LV.cells, AOp.dst, LV.I, LV.B, LV.U, LV.S, LV.nil, Nat.reduceEqDiff, Nat.reduceAdd, Nat.reduceMul, Nat.reduceSub, Nat.reduceLeDiff, Nat.reduceBEq, Nat.reduceDiv, Nat.reduceMod, Int.reduceToNat, Int.reduceLT, Int.reduceLE, Int.reduceAdd, Int.reduceSub, Int.reduceMul, Int.reduceEq, Int.reduceNeg, reduceCtorEq, resV, resAll, ARes.ev, LV.flat, ite_true, ite_false, exists_eq_left', exists_eq_left, keyOf, implies_true, fillC, capOf]
    refine callK_of (g_enclosed h.app hn hH) ?_
    simp (disch := omega) only [↓SXd, SXu, slBounds, ↓sop, ↓aop, ↓reduceIte, LV.cells, AOp.dst, LV.I, LV.B, LV.U, LV.S, LV.nil, Nat.reduceEqDiff, Nat.reduceAdd, Nat.reduceMul, Nat.reduceSub, Nat.reduceLeDiff, Nat.reduceBEq, Nat.reduceDiv, Nat.reduceMod, Int.reduceToNat, Int.reduceLT, Int.reduceLE, Int.reduceAdd, Int.reduceSub, Int.reduceMul, Int.reduceEq, Int.reduceNeg, reduceCtorEq, resV, resAll, ARes.ev, LV.flat, ite_true, ite_false, exists_eq_left', exists_eq_left, keyOf, implies_true, fillC, capOf]
    rw [bs_or hS]
    refine callH_of (g_heap hS) ?_
    intro tn N2 htn hp2 hnr
    simp (disch := omega) only [↓SXd, SXu, slBounds, ↓sop, ↓aop, ↓reduceIte, LV.cells, AOp.dst, LV.I, LV.B, LV.U, LV.S, LV.nil, Nat.reduceEqDiff, Nat.reduceAdd, Nat.reduceMul, Nat.reduceSub, Nat.reduceLeDiff, Nat.reduceBEq, Nat.reduceDiv, Nat.reduceMod, Int.reduceToNat, Int.reduceLT, Int.reduceLE, Int.reduceAdd, Int.reduceSub, Int.reduceMul, Int.reduceEq, Int.reduceNeg, reduceCtorEq, resV, resAll, ARes.ev, LV.flat, ite_true, ite_false, exists_eq_left', exists_eq_left, keyOf, implies_true, fillC, capOf]
    refine memK_box ((Live.newj (j := 1) rfl).pre hp2) (by simp) fun N3 k1 k2 k3 => ?_
    have hN2 := hp2.1
    simp (disch := omega) only [k2.cells, ↓SXd, SXu, slBounds, ↓sop, ↓aop, ↓reduceIte, LV.cells, AOp.dst, LV.I, LV.B, LV.U, LV.S, LV.nil, Nat.reduceEqDiff, Nat.reduceAdd, Nat.reduceMul, Nat.reduceSub, Nat.reduceLeDiff, Nat.reduceBEq, Nat.reduceDiv, Nat.reduceMod, Int.reduceToNat, Int.reduceLT, Int.reduceLE, Int.reduceAdd, Int.reduceSub, Int.reduceMul, Int.reduceEq, Int.reduceNeg, reduceCtorEq, resV, resAll, ARes.ev, LV.flat, ite_true, ite_false, exists_eq_left', exists_eq_left, keyOf, implies_true, fillC, capOf]
    simp only [List.length_append, List.length_cons, List.length_nil] at htn
    exact ⟨_, rfl, SlC.of (live_step hnr (by omega) k3), Newer.of (by omega), pre_step ((Pre.app _ _).trans hp2) (by omega) (j := 0) k1 k3⟩
  · rw [if_neg hH]
    simp (disch := omega) only [hH, fillC, splice, ↓SXd, SXu, slBounds, ↓sop, ↓aop, ↓reduceIte, LV.cells, AOp.dst, LV.I, LV.B, LV.U, LV.S, LV.nil, Nat.reduceEqDiff, Nat.reduceAdd, Nat.reduceMul, Nat.reduceSub, Nat.reduceLeDiff, Nat.reduceBEq, Nat.reduceDiv, Nat.reduceMod, Int.reduceToNat, Int.reduceLT, Int.reduceLE, Int.reduceAdd, Int.reduceSub, Int.reduceMul, Int.reduceEq, Int.reduceNeg, reduceCtorEq, resV, resAll, ARes.ev, LV.flat, ite_true, ite_false, exists_eq_left', exists_eq_left, keyOf, implies_true, fillC, capOf]
    exact ⟨_, rfl, SlC.nil, Newer.nil, Pre.app _ _⟩
end Go.Ab
