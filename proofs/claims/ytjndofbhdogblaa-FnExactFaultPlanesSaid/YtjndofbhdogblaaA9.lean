/- Parts of the proof of FnExactFaultPlanesSaid: Zc LFaultPlanes. -/
import Derived.Test.YtjndofbhdogblaaA8
import Derived.Test.YtjndofbhdogblaaA4
import Derived.Test.YtjndofbhdogblaaA5
import Derived.Test.YtjndofbhdogblaaA6
import Derived.Test.YtjndofbhdogblaaA7
set_option linter.all false
/- Contracts: FaultPlanes, the program's side. -/
namespace Go.Ab
open Go
set_option linter.unusedSimpArgs false
set_option linter.unusedVariables false
set_option maxRecDepth 20000

theorem row3_at {x y z : Int} {d : Nat} (hd : d < 3) : [LV.I x, .I y, .I z][d]? = some (.I (sideOf x y z (d : Int))) := by
  rcases (show d = 0 ∨ d = 1 ∨ d = 2 by omega) with rfl | rfl | rfl <;> rfl
theorem cell3_at {c : Cell} {d : Nat} (hd : d < 3) : [LV.I c.a, .I c.b, .I c.c][d]? = some (.I (c.at (d : Int))) := by
  rcases (show d = 0 ∨ d = 1 ∨ d = 2 by omega) with rfl | rfl | rfl <;> rfl
theorem g_FaultPlanes {x y z : Int} {t o u q r : Nat} {cs : List Cell} {L : List (List Cell)} {xs : List Int} {M : Mem} (h : Tri M t o cs) (hn : cs.length ≤ 1000000000) (hP : Pcs M u L) (hL : L.length ≤ 1000000000) (hLs : ∀ l ∈ L, l.length ≤ 1000000000) (hX : Ints M q r xs) (hxn : xs.length ≤ 1000000000) :
    CallsR PG F.impl_FaultPlanes [.agg [.I x, .I y, .I z, .ref t o cs.length], .ref u 0 L.length, .ref q r xs.length] M (PairsRes M (planesN x y z cs L xs)) := by
  refine callsR_run K.impl_FaultPlanes rfl ?_
  simp (disch := omega) only [C.impl_FaultPlanes, ↓SXd, SXu, slBounds, ↓sop, ↓aop, ↓reduceIte, LV.cells, AOp.dst, LV.I, LV.B, LV.U, LV.S, LV.nil, Nat.reduceEqDiff, Nat.reduceAdd, Nat.reduceMul, Nat.reduceSub, Nat.reduceLeDiff, Nat.reduceBEq, Nat.reduceDiv, Nat.reduceMod, Int.reduceToNat, Int.reduceLT, Int.reduceLE, Int.reduceAdd, Int.reduceSub, Int.reduceMul, Int.reduceEq, Int.reduceNeg, reduceCtorEq, resV, resAll, ARes.ev, LV.flat, ite_true, ite_false, exists_eq_left', exists_eq_left, keyOf, implies_true, fillC, capOf]
  refine callK_of (g_arePacked hP.app hL hLs h.app hn) ?_
  simp (disch := omega) only [↓SXd, SXu, slBounds, ↓sop, ↓aop, ↓reduceIte, LV.cells, AOp.dst, LV.I, LV.B, LV.U, LV.S, LV.nil, Nat.reduceEqDiff, Nat.reduceAdd, Nat.reduceMul, Nat.reduceSub, Nat.reduceLeDiff, Nat.reduceBEq, Nat.reduceDiv, Nat.reduceMod, Int.reduceToNat, Int.reduceLT, Int.reduceLE, Int.reduceAdd, Int.reduceSub, Int.reduceMul, Int.reduceEq, Int.reduceNeg, reduceCtorEq, resV, resAll, ARes.ev, LV.flat, ite_true, ite_false, exists_eq_left', exists_eq_left, keyOf, implies_true, fillC, capOf]
  unfold planesN
  have hbad : PairsRes M none (.tup [.nil, .B false]) (M ++ [some (.row [.I x, .I y, .I z, .ref t o cs.length] true 0)]) := ⟨_, 0, rfl, ⟨rfl, .inl ⟨rfl, rfl⟩⟩, by omega, Newer.nil, Pre.app _ _⟩
  by_cases hA : AskOK x y z cs L
  · rw [decide_eq_true hA]
    have hS := hA.2.1.1
    have hv := vol_cast hS
    simp (disch := omega) only [↓SXd, SXu, slBounds, ↓sop, ↓aop, ↓reduceIte, LV.cells, AOp.dst, LV.I, LV.B, LV.U, LV.S, LV.nil, Nat.reduceEqDiff, Nat.reduceAdd, Nat.reduceMul, Nat.reduceSub, Nat.reduceLeDiff, Nat.reduceBEq, Nat.reduceDiv, Nat.reduceMod, Int.reduceToNat, Int.reduceLT, Int.reduceLE, Int.reduceAdd, Int.reduceSub, Int.reduceMul, Int.reduceEq, Int.reduceNeg, reduceCtorEq, resV, resAll, ARes.ev, LV.flat, ite_true, ite_false, exists_eq_left', exists_eq_left, keyOf, implies_true, fillC, capOf]
    refine callK_of (g_isPackingH h.app hP.app hX.app hA hxn) ?_
    simp (disch := omega) only [↓SXd, SXu, slBounds, ↓sop, ↓aop, ↓reduceIte, LV.cells, AOp.dst, LV.I, LV.B, LV.U, LV.S, LV.nil, Nat.reduceEqDiff, Nat.reduceAdd, Nat.reduceMul, Nat.reduceSub, Nat.reduceLeDiff, Nat.reduceBEq, Nat.reduceDiv, Nat.reduceMod, Int.reduceToNat, Int.reduceLT, Int.reduceLE, Int.reduceAdd, Int.reduceSub, Int.reduceMul, Int.reduceEq, Int.reduceNeg, reduceCtorEq, resV, resAll, ARes.ev, LV.flat, ite_true, ite_false, exists_eq_left', exists_eq_left, keyOf, implies_true, fillC, capOf]
    by_cases hK : SpecPk x y z cs L xs
    · rw [if_pos ⟨hA, hK⟩, decide_eq_true hK]
      have hxl := hK.1
      simp (disch := omega) only [↓SXd, SXu, slBounds, ↓sop, ↓aop, ↓reduceIte, LV.cells, AOp.dst, LV.I, LV.B, LV.U, LV.S, LV.nil, Nat.reduceEqDiff, Nat.reduceAdd, Nat.reduceMul, Nat.reduceSub, Nat.reduceLeDiff, Nat.reduceBEq, Nat.reduceDiv, Nat.reduceMod, Int.reduceToNat, Int.reduceLT, Int.reduceLE, Int.reduceAdd, Int.reduceSub, Int.reduceMul, Int.reduceEq, Int.reduceNeg, reduceCtorEq, resV, resAll, ARes.ev, LV.flat, ite_true, ite_false, exists_eq_left', exists_eq_left, keyOf, implies_true, fillC, capOf]
      refine callK_of (g_box) ?_
      simp (disch := omega) only [splice, ↓SXd, SXu, slBounds, ↓sop, ↓aop, ↓reduceIte, LV.cells, AOp.dst, LV.I, LV.B, LV.U, LV.S, LV.nil, Nat.reduceEqDiff, Nat.reduceAdd, Nat.reduceMul, Nat.reduceSub, Nat.reduceLeDiff, Nat.reduceBEq, Nat.reduceDiv, Nat.reduceMod, Int.reduceToNat, Int.reduceLT, Int.reduceLE, Int.reduceAdd, Int.reduceSub, Int.reduceMul, Int.reduceEq, Int.reduceNeg, reduceCtorEq, resV, resAll, ARes.ev, LV.flat, ite_true, ite_false, exists_eq_left', exists_eq_left, keyOf, implies_true, fillC, capOf]
      refine ev_loop (fun m fr M' => ∃ d w n : Nat, d + m = 3 ∧ Pre M M' ∧ Live M' (M.length + 2) (.row [.I x, .I y, .I z] true 0) ∧ Live M' w (.row (intL (plD x y z xs d)) true 2) ∧ (plD x y z xs d).length = n * 2 ∧ M.length < w ∧ w ≠ M.length + 2 ∧
        fr 2 = .ref q r xs.length ∧ fr 8 = .ref w 0 n ∧ fr 9 = .ptr (M.length + 2) 0 ∧ fr 32 = .I d) 3
        ⟨0, M.length + 1, 0, rfl, Pre.app _ _, Live.newj rfl, Live.newj rfl, rfl, by omega, by omega, rfl, rfl, rfl, rfl⟩ ?_
      rintro m fr M' ⟨d, w, n, hd, hpre, b9, bw, hwn, hw, hw2, f2, f8, f9, f32⟩
      simp (disch := omega) only [f2, f8, f9, f32, ↓SXd, SXu, slBounds, ↓sop, ↓aop, ↓reduceIte, LV.cells, AOp.dst, LV.I, LV.B, LV.U, LV.S, LV.nil, Nat.reduceEqDiff, Nat.reduceAdd, Nat.reduceMul, Nat.reduceSub, Nat.reduceLeDiff, Nat.reduceBEq, Nat.reduceDiv, Nat.reduceMod, Int.reduceToNat, Int.reduceLT, Int.reduceLE, Int.reduceAdd, Int.reduceSub, Int.reduceMul, Int.reduceEq, Int.reduceNeg, reduceCtorEq, resV, resAll, ARes.ev, LV.flat, ite_true, ite_false, exists_eq_left', exists_eq_left, keyOf, implies_true, fillC, capOf]
      refine condC_dec (fun hlt => ?_) (fun hlt => ?_)
      · have hd3 : d < 3 := by omega
        have hsd := sideOf_in hS (d : Int)
        obtain ⟨nd, hnd1, hnd2⟩ := plD_len hS (xs := xs) (d := d)
        simp (disch := omega) only [f2, f8, f9, f32, ↓SXd, SXu, slBounds, ↓sop, ↓aop, ↓reduceIte, LV.cells, AOp.dst, LV.I, LV.B, LV.U, LV.S, LV.nil, Nat.reduceEqDiff, Nat.reduceAdd, Nat.reduceMul, Nat.reduceSub, Nat.reduceLeDiff, Nat.reduceBEq, Nat.reduceDiv, Nat.reduceMod, Int.reduceToNat, Int.reduceLT, Int.reduceLE, Int.reduceAdd, Int.reduceSub, Int.reduceMul, Int.reduceEq, Int.reduceNeg, reduceCtorEq, resV, resAll, ARes.ev, LV.flat, ite_true, ite_false, exists_eq_left', exists_eq_left, keyOf, implies_true, fillC, capOf]
        refine ev_loop (fun m2 fr2 M2 => ∃ k w n : Nat, k + m2 = (sideOf x y z (d : Int)).toNat ∧ 1 ≤ k ∧ Pre M M2 ∧ Live M2 (M.length + 2) (.row [.I x, .I y, .I z] true 0) ∧ Live M2 w (.row (intL (plD x y z xs d ++ plK x y z xs d k)) true 2) ∧ (plD x y z xs d ++ plK x y z xs d k).length = n * 2 ∧ M.length < w ∧ w ≠ M.length + 2 ∧
          fr2 2 = .ref q r xs.length ∧ fr2 8 = .ref w 0 n ∧ fr2 9 = .ptr (M.length + 2) 0 ∧ fr2 10 = .I d ∧ fr2 11 = .I k ∧ fr2 32 = .I d) ((sideOf x y z (d : Int)).toNat - 1)
          ⟨1, w, n, by omega, by omega, hpre, b9, by rw [plK_one, List.append_nil]; exact bw, by rw [plK_one, List.append_nil]; exact hwn, hw, hw2, f2, f8, f9, rfl, rfl, f32⟩ ?_
        rintro m2 fr2 M2 ⟨k, w, n, hk, hk1, p2, c9, cw, hwn, hw, hw2, g2, g8, g9, g10, g11, g32⟩
        have hside := c9.cell (o := d)
        rw [row3_at hd3] at hside
        simp (disch := omega) only [g2, g8, g9, g10, g11, g32, hside, Nat.zero_add, Nat.mul_one, ↓SXd, SXu, slBounds, ↓sop, ↓aop, ↓reduceIte, LV.cells, AOp.dst, LV.I, LV.B, LV.U, LV.S, LV.nil, Nat.reduceEqDiff, Nat.reduceAdd, Nat.reduceMul, Nat.reduceSub, Nat.reduceLeDiff, Nat.reduceBEq, Nat.reduceDiv, Nat.reduceMod, Int.reduceToNat, Int.reduceLT, Int.reduceLE, Int.reduceAdd, Int.reduceSub, Int.reduceMul, Int.reduceEq, Int.reduceNeg, reduceCtorEq, resV, resAll, ARes.ev, LV.flat, ite_true, ite_false, exists_eq_left', exists_eq_left, keyOf, implies_true, fillC, capOf]
        refine condC_dec (fun hlt2 => ?_) (fun hlt2 => ?_)
        · have hks : k < (sideOf x y z (d : Int)).toNat := by omega
          obtain ⟨nk, hnk1, hnk2⟩ := plK_len (x := x) (y := y) (z := z) (xs := xs) (d := d) (k := k)
          have hnb : n ≤ 100 := by rw [List.length_append, hnd1, hnk1] at hwn; omega
          simp (disch := omega) only [g2, g8, g9, g10, g11, g32, ↓SXd, SXu, slBounds, ↓sop, ↓aop, ↓reduceIte, LV.cells, AOp.dst, LV.I, LV.B, LV.U, LV.S, LV.nil, Nat.reduceEqDiff, Nat.reduceAdd, Nat.reduceMul, Nat.reduceSub, Nat.reduceLeDiff, Nat.reduceBEq, Nat.reduceDiv, Nat.reduceMod, Int.reduceToNat, Int.reduceLT, Int.reduceLE, Int.reduceAdd, Int.reduceSub, Int.reduceMul, Int.reduceEq, Int.reduceNeg, reduceCtorEq, resV, resAll, ARes.ev, LV.flat, ite_true, ite_false, exists_eq_left', exists_eq_left, keyOf, implies_true, fillC, capOf]
          refine ev_loop (fun m3 fr3 M3 => ∃ (i : Nat) (cr : Bool), i + m3 = xs.length ∧ Pre M M3 ∧ Live M3 (M.length + 2) (.row [.I x, .I y, .I z] true 0) ∧ Live M3 w (.row (intL (plD x y z xs d ++ plK x y z xs d k)) true 2) ∧ (cr = true ↔ ∃ i', i' < i ∧ ∃ j, j < vol x y z ∧ CrossAt y z xs d k i' j) ∧
            fr3 2 = .ref q r xs.length ∧ fr3 8 = .ref w 0 n ∧ fr3 9 = .ptr (M.length + 2) 0 ∧ fr3 10 = .I d ∧ fr3 11 = .I k ∧ fr3 12 = .B cr ∧ fr3 32 = .I d ∧ fr3 42 = .ref q r xs.length ∧ fr3 43 = .I xs.length ∧ fr3 44 = .I i) xs.length
            ⟨0, false, by omega, p2, c9, cw, by simp, g2, g8, g9, g10, g11, rfl, g32, rfl, rfl, rfl⟩ ?_
          rintro m3 fr3 M3 ⟨i, cr, hi, p3, d9, dw, hcr, q2, q8, q9, q10, q11, q12, q32, q42, q43, q44⟩
          simp (disch := omega) only [q2, q8, q9, q10, q11, q12, q32, q42, q43, q44, ↓SXd, SXu, slBounds, ↓sop, ↓aop, ↓reduceIte, LV.cells, AOp.dst, LV.I, LV.B, LV.U, LV.S, LV.nil, Nat.reduceEqDiff, Nat.reduceAdd, Nat.reduceMul, Nat.reduceSub, Nat.reduceLeDiff, Nat.reduceBEq, Nat.reduceDiv, Nat.reduceMod, Int.reduceToNat, Int.reduceLT, Int.reduceLE, Int.reduceAdd, Int.reduceSub, Int.reduceMul, Int.reduceEq, Int.reduceNeg, reduceCtorEq, resV, resAll, ARes.ev, LV.flat, ite_true, ite_false, exists_eq_left', exists_eq_left, keyOf, implies_true, fillC, capOf]
          refine condC_dec (fun hlt3 => ?_) (fun hlt3 => ?_)
          · have hil : i < xs.length := by omega
            have hxi := Ints.get (hX.pre p3) hil
            have hb9 := d9.lt
            have hskip : (∀ j', j' < vol x y z → ¬ CrossAt y z xs d k i j') → (cr = true ↔ ∃ i', i' < i + 1 ∧ ∃ j, j < vol x y z ∧ CrossAt y z xs d k i' j) := fun hnone => by
              rw [hcr]
              constructor
              · rintro ⟨i', h1, h2⟩; exact ⟨i', by omega, h2⟩
              · rintro ⟨i', h1, j', h2, h3⟩
                rcases Nat.lt_or_ge i' i with h4 | h4
                · exact ⟨i', h4, j', h2, h3⟩
                · exact absurd (by rw [← show i' = i by omega]; exact h3) (hnone j' h2)
            simp (disch := omega) only [q2, q8, q9, q10, q11, q12, q32, q42, q43, q44, hxi, Nat.mul_one, d9.cells, ↓SXd, SXu, slBounds, ↓sop, ↓aop, ↓reduceIte, LV.cells, AOp.dst, LV.I, LV.B, LV.U, LV.S, LV.nil, Nat.reduceEqDiff, Nat.reduceAdd, Nat.reduceMul, Nat.reduceSub, Nat.reduceLeDiff, Nat.reduceBEq, Nat.reduceDiv, Nat.reduceMod, Int.reduceToNat, Int.reduceLT, Int.reduceLE, Int.reduceAdd, Int.reduceSub, Int.reduceMul, Int.reduceEq, Int.reduceNeg, reduceCtorEq, resV, resAll, ARes.ev, LV.flat, ite_true, ite_false, exists_eq_left', exists_eq_left, keyOf, implies_true, fillC, capOf]
            refine callK_of (g_cell hS (by omega) (by omega)) ?_
            simp (disch := omega) only [q2, q8, q9, q10, q11, q12, q32, q42, q43, q44, splice, ↓SXd, SXu, slBounds, ↓sop, ↓aop, ↓reduceIte, LV.cells, AOp.dst, LV.I, LV.B, LV.U, LV.S, LV.nil, Nat.reduceEqDiff, Nat.reduceAdd, Nat.reduceMul, Nat.reduceSub, Nat.reduceLeDiff, Nat.reduceBEq, Nat.reduceDiv, Nat.reduceMod, Int.reduceToNat, Int.reduceLT, Int.reduceLE, Int.reduceAdd, Int.reduceSub, Int.reduceMul, Int.reduceEq, Int.reduceNeg, reduceCtorEq, resV, resAll, ARes.ev, LV.flat, ite_true, ite_false, exists_eq_left', exists_eq_left, keyOf, implies_true, fillC, capOf]
            by_cases hneg : xs.getD i 0 < 0
            · simp (disch := omega) only [q2, q8, q9, q10, q11, q12, q32, q42, q43, q44, hneg, ↓SXd, SXu, slBounds, ↓sop, ↓aop, ↓reduceIte, LV.cells, AOp.dst, LV.I, LV.B, LV.U, LV.S, LV.nil, Nat.reduceEqDiff, Nat.reduceAdd, Nat.reduceMul, Nat.reduceSub, Nat.reduceLeDiff, Nat.reduceBEq, Nat.reduceDiv, Nat.reduceMod, Int.reduceToNat, Int.reduceLT, Int.reduceLE, Int.reduceAdd, Int.reduceSub, Int.reduceMul, Int.reduceEq, Int.reduceNeg, reduceCtorEq, resV, resAll, ARes.ev, LV.flat, ite_true, ite_false, exists_eq_left', exists_eq_left, keyOf, implies_true, fillC, capOf]
              exact ⟨m3 - 1, by omega, i + 1, cr, by omega, p3.app', d9.app, dw.app, hskip fun j' _ hh => by have := hh.1; omega, q2, q8, q9, q10, q11, q12, q32, q42, q43, eqI (natI _)⟩
            · have hnew : ∀ {L2 : Mem}, getCell (M3 ++ some (.row [.I (cellAt y z i).a, .I (cellAt y z i).b, .I (cellAt y z i).c] true 0) :: L2) M3.length d = some (.I ((cellAt y z i).at (d : Int))) := fun {L2} => by
                have := (Live.new (M := M3) (L := L2) (b := .row [.I (cellAt y z i).a, .I (cellAt y z i).b, .I (cellAt y z i).c] true 0)).cell (o := d)
                rw [this]; exact cell3_at hd3
              simp (disch := omega) only [q2, q8, q9, q10, q11, q12, q32, q42, q43, q44, hneg, hnew, Nat.zero_add, Nat.mul_one, ge_iff_le, ↓SXd, SXu, slBounds, ↓sop, ↓aop, ↓reduceIte, LV.cells, AOp.dst, LV.I, LV.B, LV.U, LV.S, LV.nil, Nat.reduceEqDiff, Nat.reduceAdd, Nat.reduceMul, Nat.reduceSub, Nat.reduceLeDiff, Nat.reduceBEq, Nat.reduceDiv, Nat.reduceMod, Int.reduceToNat, Int.reduceLT, Int.reduceLE, Int.reduceAdd, Int.reduceSub, Int.reduceMul, Int.reduceEq, Int.reduceNeg, reduceCtorEq, resV, resAll, ARes.ev, LV.flat, ite_true, ite_false, exists_eq_left', exists_eq_left, keyOf, implies_true, fillC, capOf]
              by_cases hge : (k : Int) ≤ (cellAt y z i).at (d : Int)
              · simp (disch := omega) only [q2, q8, q9, q10, q11, q12, q32, q42, q43, q44, hge, ↓SXd, SXu, slBounds, ↓sop, ↓aop, ↓reduceIte, LV.cells, AOp.dst, LV.I, LV.B, LV.U, LV.S, LV.nil, Nat.reduceEqDiff, Nat.reduceAdd, Nat.reduceMul, Nat.reduceSub, Nat.reduceLeDiff, Nat.reduceBEq, Nat.reduceDiv, Nat.reduceMod, Int.reduceToNat, Int.reduceLT, Int.reduceLE, Int.reduceAdd, Int.reduceSub, Int.reduceMul, Int.reduceEq, Int.reduceNeg, reduceCtorEq, resV, resAll, ARes.ev, LV.flat, ite_true, ite_false, exists_eq_left', exists_eq_left, keyOf, implies_true, fillC, capOf]
                exact ⟨m3 - 1, by omega, i + 1, cr, by omega, p3.app', d9.app, dw.app, hskip fun j' _ hh => by have := hh.2.2.1; omega, q2, q8, q9, q10, q11, q12, q32, q42, q43, eqI (natI _)⟩
              · simp (disch := omega) only [q2, q8, q9, q10, q11, q12, q32, q42, q43, q44, hge, ↓SXd, SXu, slBounds, ↓sop, ↓aop, ↓reduceIte, LV.cells, AOp.dst, LV.I, LV.B, LV.U, LV.S, LV.nil, Nat.reduceEqDiff, Nat.reduceAdd, Nat.reduceMul, Nat.reduceSub, Nat.reduceLeDiff, Nat.reduceBEq, Nat.reduceDiv, Nat.reduceMod, Int.reduceToNat, Int.reduceLT, Int.reduceLE, Int.reduceAdd, Int.reduceSub, Int.reduceMul, Int.reduceEq, Int.reduceNeg, reduceCtorEq, resV, resAll, ARes.ev, LV.flat, ite_true, ite_false, exists_eq_left', exists_eq_left, keyOf, implies_true, fillC, capOf]
                have hcr2 : ∀ j, CrossAt y z xs d k i j ↔ xs.getD j 0 = xs.getD i 0 ∧ (k : Int) ≤ (cellAt y z j).at (d : Int) := fun j => ⟨fun hh => ⟨hh.2.1, hh.2.2.2⟩, fun hh => ⟨by omega, hh.1, by omega, hh.2⟩⟩
                refine ev_loop (fun m4 fr4 M4 => ∃ (j : Nat) (c2 : Bool), j + m4 = xs.length ∧ M4 = M3 ++ [some (.row [.I (cellAt y z i).a, .I (cellAt y z i).b, .I (cellAt y z i).c] true 0)] ∧ (c2 = true ↔ (∃ i', i' < i ∧ ∃ j, j < vol x y z ∧ CrossAt y z xs d k i' j) ∨ ∃ j', j' < j ∧ CrossAt y z xs d k i j') ∧
                  fr4 2 = .ref q r xs.length ∧ fr4 8 = .ref w 0 n ∧ fr4 9 = .ptr (M.length + 2) 0 ∧ fr4 10 = .I d ∧ fr4 11 = .I k ∧ fr4 12 = .B c2 ∧ fr4 14 = .I (xs.getD i 0) ∧ fr4 32 = .I d ∧ fr4 42 = .ref q r xs.length ∧ fr4 43 = .I xs.length ∧ fr4 44 = .I i ∧ fr4 61 = .ref q r xs.length ∧ fr4 62 = .I xs.length ∧ fr4 63 = .I j) xs.length
                  ⟨0, cr, by omega, rfl, by rw [hcr]; simp, q2, q8, q9, q10, q11, q12, rfl, q32, q42, q43, q44, rfl, rfl, rfl⟩ ?_
                rintro m4 fr4 M4 ⟨j, c2, hj, rfl, hc2, r2, r8, r9, r10, r11, r12, r14, r32, r42, r43, r44, r61, r62, r63⟩
                simp (disch := omega) only [r2, r8, r9, r10, r11, r12, r14, r32, r42, r43, r44, r61, r62, r63, ↓SXd, SXu, slBounds, ↓sop, ↓aop, ↓reduceIte, LV.cells, AOp.dst, LV.I, LV.B, LV.U, LV.S, LV.nil, Nat.reduceEqDiff, Nat.reduceAdd, Nat.reduceMul, Nat.reduceSub, Nat.reduceLeDiff, Nat.reduceBEq, Nat.reduceDiv, Nat.reduceMod, Int.reduceToNat, Int.reduceLT, Int.reduceLE, Int.reduceAdd, Int.reduceSub, Int.reduceMul, Int.reduceEq, Int.reduceNeg, reduceCtorEq, resV, resAll, ARes.ev, LV.flat, ite_true, ite_false, exists_eq_left', exists_eq_left, keyOf, implies_true, fillC, capOf]
                refine condC_dec (fun hlt4 => ?_) (fun hlt4 => ?_)
                · have hjl : j < xs.length := by omega
                  have hxj := Ints.get (hX.pre (p3.app' (L := [some (.row [.I (cellAt y z i).a, .I (cellAt y z i).b, .I (cellAt y z i).c] true 0)]))) hjl
                  have hnx : ∀ c3 : Bool, (c3 = true ↔ c2 = true ∨ CrossAt y z xs d k i j) → (c3 = true ↔ (∃ i', i' < i ∧ ∃ j, j < vol x y z ∧ CrossAt y z xs d k i' j) ∨ ∃ j', j' < j + 1 ∧ CrossAt y z xs d k i j') := fun c3 hc3 => by
                    rw [hc3, hc2]
                    constructor
                    · rintro ((h1 | ⟨j', h1, h2⟩) | h1)
                      · exact .inl h1
                      · exact .inr ⟨j', by omega, h2⟩
                      · exact .inr ⟨j, by omega, h1⟩
                    · rintro (h1 | ⟨j', h1, h2⟩)
                      · exact .inl (.inl h1)
                      · rcases Nat.lt_or_ge j' j with h3 | h3
                        · exact .inl (.inr ⟨j', h3, h2⟩)
                        · exact .inr (by rw [← show j' = j by omega]; exact h2)
                  simp (disch := omega) only [r2, r8, r9, r10, r11, r12, r14, r32, r42, r43, r44, r61, r62, r63, hxj, Nat.mul_one, ↓SXd, SXu, slBounds, ↓sop, ↓aop, ↓reduceIte, LV.cells, AOp.dst, LV.I, LV.B, LV.U, LV.S, LV.nil, Nat.reduceEqDiff, Nat.reduceAdd, Nat.reduceMul, Nat.reduceSub, Nat.reduceLeDiff, Nat.reduceBEq, Nat.reduceDiv, Nat.reduceMod, Int.reduceToNat, Int.reduceLT, Int.reduceLE, Int.reduceAdd, Int.reduceSub, Int.reduceMul, Int.reduceEq, Int.reduceNeg, reduceCtorEq, resV, resAll, ARes.ev, LV.flat, ite_true, ite_false, exists_eq_left', exists_eq_left, keyOf, implies_true, fillC, capOf]
                  cases c2 with
                  | true =>
                    simp (disch := omega) only [r2, r8, r9, r10, r11, r12, r14, r32, r42, r43, r44, r61, r62, r63, ↓SXd, SXu, slBounds, ↓sop, ↓aop, ↓reduceIte, LV.cells, AOp.dst, LV.I, LV.B, LV.U, LV.S, LV.nil, Nat.reduceEqDiff, Nat.reduceAdd, Nat.reduceMul, Nat.reduceSub, Nat.reduceLeDiff, Nat.reduceBEq, Nat.reduceDiv, Nat.reduceMod, Int.reduceToNat, Int.reduceLT, Int.reduceLE, Int.reduceAdd, Int.reduceSub, Int.reduceMul, Int.reduceEq, Int.reduceNeg, reduceCtorEq, resV, resAll, ARes.ev, LV.flat, ite_true, ite_false, exists_eq_left', exists_eq_left, keyOf, implies_true, fillC, capOf]
                    exact ⟨m4 - 1, by omega, j + 1, true, by omega, rfl, hnx true (by simp), r2, r8, r9, r10, r11, rfl, r14, r32, r42, r43, r44, r61, r62, eqI (natI _)⟩
                  | false =>
                    by_cases e1 : xs.getD j 0 = xs.getD i 0
                    · have hcj := cellAt_in hS (i := (j : Int)) (by omega) (by omega)
                      simp (disch := omega) only [r2, r8, r9, r10, r11, r12, r14, r32, r42, r43, r44, r61, r62, r63, e1, d9.app.cells, ↓SXd, SXu, slBounds, ↓sop, ↓aop, ↓reduceIte, LV.cells, AOp.dst, LV.I, LV.B, LV.U, LV.S, LV.nil, Nat.reduceEqDiff, Nat.reduceAdd, Nat.reduceMul, Nat.reduceSub, Nat.reduceLeDiff, Nat.reduceBEq, Nat.reduceDiv, Nat.reduceMod, Int.reduceToNat, Int.reduceLT, Int.reduceLE, Int.reduceAdd, Int.reduceSub, Int.reduceMul, Int.reduceEq, Int.reduceNeg, reduceCtorEq, resV, resAll, ARes.ev, LV.flat, ite_true, ite_false, exists_eq_left', exists_eq_left, keyOf, implies_true, fillC, capOf]
                      refine callK_of (g_cell hS (by omega) (by omega)) ?_
                      simp (disch := omega) only [r2, r8, r9, r10, r11, r12, r14, r32, r42, r43, r44, r61, r62, r63, ↓SXd, SXu, slBounds, ↓sop, ↓aop, ↓reduceIte, LV.cells, AOp.dst, LV.I, LV.B, LV.U, LV.S, LV.nil, Nat.reduceEqDiff, Nat.reduceAdd, Nat.reduceMul, Nat.reduceSub, Nat.reduceLeDiff, Nat.reduceBEq, Nat.reduceDiv, Nat.reduceMod, Int.reduceToNat, Int.reduceLT, Int.reduceLE, Int.reduceAdd, Int.reduceSub, Int.reduceMul, Int.reduceEq, Int.reduceNeg, reduceCtorEq, resV, resAll, ARes.ev, LV.flat, ite_true, ite_false, exists_eq_left', exists_eq_left, keyOf, implies_true, fillC, capOf]
                      have hidx : [LV.I (cellAt y z j).a, .I (cellAt y z j).b, .I (cellAt y z j).c][d]? = some (.I ((cellAt y z j).at (d : Int))) := cell3_at hd3
                      simp (disch := omega) only [r2, r8, r9, r10, r11, r12, r14, r32, r42, r43, r44, r61, r62, r63, hidx, Nat.zero_add, Nat.mul_one, ge_iff_le, ↓SXd, SXu, slBounds, ↓sop, ↓aop, ↓reduceIte, LV.cells, AOp.dst, LV.I, LV.B, LV.U, LV.S, LV.nil, Nat.reduceEqDiff, Nat.reduceAdd, Nat.reduceMul, Nat.reduceSub, Nat.reduceLeDiff, Nat.reduceBEq, Nat.reduceDiv, Nat.reduceMod, Int.reduceToNat, Int.reduceLT, Int.reduceLE, Int.reduceAdd, Int.reduceSub, Int.reduceMul, Int.reduceEq, Int.reduceNeg, reduceCtorEq, resV, resAll, ARes.ev, LV.flat, ite_true, ite_false, exists_eq_left', exists_eq_left, keyOf, implies_true, fillC, capOf]
                      exact ⟨m4 - 1, by omega, j + 1, decide ((k : Int) ≤ (cellAt y z j).at (d : Int)), by omega, rfl, hnx _ (by rw [decide_eq_true_iff, hcr2]; exact ⟨fun h => .inr ⟨e1, h⟩, fun h => h.elim (fun e => (by cases e)) fun h => h.2⟩), r2, r8, r9, r10, r11, rfl, r14, r32, r42, r43, r44, r61, r62, eqI (natI _)⟩
                    · simp (disch := omega) only [r2, r8, r9, r10, r11, r12, r14, r32, r42, r43, r44, r61, r62, r63, e1, ↓SXd, SXu, slBounds, ↓sop, ↓aop, ↓reduceIte, LV.cells, AOp.dst, LV.I, LV.B, LV.U, LV.S, LV.nil, Nat.reduceEqDiff, Nat.reduceAdd, Nat.reduceMul, Nat.reduceSub, Nat.reduceLeDiff, Nat.reduceBEq, Nat.reduceDiv, Nat.reduceMod, Int.reduceToNat, Int.reduceLT, Int.reduceLE, Int.reduceAdd, Int.reduceSub, Int.reduceMul, Int.reduceEq, Int.reduceNeg, reduceCtorEq, resV, resAll, ARes.ev, LV.flat, ite_true, ite_false, exists_eq_left', exists_eq_left, keyOf, implies_true, fillC, capOf]
                      exact ⟨m4 - 1, by omega, j + 1, false, by omega, rfl, hnx false (by rw [hcr2]; exact ⟨fun h => (by cases h), fun h => h.elim (fun e => (by cases e)) fun h => absurd h.1 e1⟩), r2, r8, r9, r10, r11, rfl, r14, r32, r42, r43, r44, r61, r62, eqI (natI _)⟩
                · have : j = xs.length := by omega
                  subst this
                  simp (disch := omega) only [r2, r8, r9, r10, r11, r12, r14, r32, r42, r43, r44, r61, r62, r63, ↓SXd, SXu, slBounds, ↓sop, ↓aop, ↓reduceIte, LV.cells, AOp.dst, LV.I, LV.B, LV.U, LV.S, LV.nil, Nat.reduceEqDiff, Nat.reduceAdd, Nat.reduceMul, Nat.reduceSub, Nat.reduceLeDiff, Nat.reduceBEq, Nat.reduceDiv, Nat.reduceMod, Int.reduceToNat, Int.reduceLT, Int.reduceLE, Int.reduceAdd, Int.reduceSub, Int.reduceMul, Int.reduceEq, Int.reduceNeg, reduceCtorEq, resV, resAll, ARes.ev, LV.flat, ite_true, ite_false, exists_eq_left', exists_eq_left, keyOf, implies_true, fillC, capOf]
                  exact ⟨m3 - 1, by omega, i + 1, c2, by omega, p3.app', d9.app, dw.app, by
                    rw [hc2]
                    constructor
                    · rintro (⟨i', h1, h2⟩ | ⟨j', h1, h2⟩)
                      · exact ⟨i', by omega, h2⟩
                      · exact ⟨i, by omega, j', by omega, h2⟩
                    · rintro ⟨i', h1, j', h2, h3⟩
                      rcases Nat.lt_or_ge i' i with h4 | h4
                      · exact .inl ⟨i', h4, j', h2, h3⟩
                      · exact .inr ⟨j', by omega, by rw [← show i' = i by omega]; exact h3⟩, r2, r8, r9, r10, r11, r12, r32, r42, r43, eqI (natI _)⟩
          · have hix : i = vol x y z := by omega
            have hcr2 : cr = true ↔ Crossed x y z xs d k := by rw [hcr, hix]; rfl
            have hpk : plK x y z xs d (k + 1) = plK x y z xs d k ++ (if 1 ≤ k ∧ ¬ Crossed x y z xs d k then [(d : Int), (k : Int)] else []) := rfl
            cases cr with
            | true =>
              rw [if_neg (fun hh => hh.2 (hcr2.1 rfl)), List.append_nil] at hpk
              simp (disch := omega) only [q2, q8, q9, q10, q11, q12, q32, q42, q43, q44, ↓SXd, SXu, slBounds, ↓sop, ↓aop, ↓reduceIte, LV.cells, AOp.dst, LV.I, LV.B, LV.U, LV.S, LV.nil, Nat.reduceEqDiff, Nat.reduceAdd, Nat.reduceMul, Nat.reduceSub, Nat.reduceLeDiff, Nat.reduceBEq, Nat.reduceDiv, Nat.reduceMod, Int.reduceToNat, Int.reduceLT, Int.reduceLE, Int.reduceAdd, Int.reduceSub, Int.reduceMul, Int.reduceEq, Int.reduceNeg, reduceCtorEq, resV, resAll, ARes.ev, LV.flat, ite_true, ite_false, exists_eq_left', exists_eq_left, keyOf, implies_true, fillC, capOf]
              rw [← hpk] at dw hwn
              exact ⟨m2 - 1, by omega, k + 1, w, n, by omega, by omega, p3, d9, dw, hwn, hw, hw2, q2, q8, q9, q10, eqI (natI _), q32⟩
            | false =>
              rw [if_pos ⟨hk1, fun hh => by have := hcr2.2 hh; cases this⟩] at hpk
              simp (disch := omega) only [q2, q8, q9, q10, q11, q12, q32, q42, q43, q44, splice, ↓SXd, SXu, slBounds, ↓sop, ↓aop, ↓reduceIte, LV.cells, AOp.dst, LV.I, LV.B, LV.U, LV.S, LV.nil, Nat.reduceEqDiff, Nat.reduceAdd, Nat.reduceMul, Nat.reduceSub, Nat.reduceLeDiff, Nat.reduceBEq, Nat.reduceDiv, Nat.reduceMod, Int.reduceToNat, Int.reduceLT, Int.reduceLE, Int.reduceAdd, Int.reduceSub, Int.reduceMul, Int.reduceEq, Int.reduceNeg, reduceCtorEq, resV, resAll, ARes.ev, LV.flat, ite_true, ite_false, exists_eq_left', exists_eq_left, keyOf, implies_true, fillC, capOf]
              refine appendK_1 (acc := intL (plD x y z xs d ++ plK x y z xs d k)) (new := [.I d, .I k]) dw (by rw [intL_len, hwn]) rfl (by omega) (by omega) (by omega) fun N e1 e2 e3 => ?_
              simp (disch := omega) only [q2, q8, q9, q10, q11, q12, q32, q42, q43, q44, ↓SXd, SXu, slBounds, ↓sop, ↓aop, ↓reduceIte, LV.cells, AOp.dst, LV.I, LV.B, LV.U, LV.S, LV.nil, Nat.reduceEqDiff, Nat.reduceAdd, Nat.reduceMul, Nat.reduceSub, Nat.reduceLeDiff, Nat.reduceBEq, Nat.reduceDiv, Nat.reduceMod, Int.reduceToNat, Int.reduceLT, Int.reduceLE, Int.reduceAdd, Int.reduceSub, Int.reduceMul, Int.reduceEq, Int.reduceNeg, reduceCtorEq, resV, resAll, ARes.ev, LV.flat, ite_true, ite_false, exists_eq_left', exists_eq_left, keyOf, implies_true, fillC, capOf]
              rw [show intL (plD x y z xs d ++ plK x y z xs d k) ++ [LV.I d, LV.I k] = intL (plD x y z xs d ++ plK x y z xs d (k + 1)) by rw [hpk, ← List.append_assoc, intL_append (plD x y z xs d ++ plK x y z xs d k)]; rfl] at e2
              have hlw := dw.lt
              have hlc := d9.lt
              exact ⟨m2 - 1, by omega, k + 1, M3.length + 1, n + 1, by omega, by omega, pre_step p3 (by omega) e1 e3, live_step d9 (by omega) e3, e2, by rw [hpk, ← List.append_assoc, List.length_append, hwn]; simp only [List.length_cons, List.length_nil]; omega, by omega, by omega, q2, rfl, q9, q10, eqI (natI _), q32⟩
        · have : k = (sideOf x y z (d : Int)).toNat := by omega
          subst this
          simp (disch := omega) only [g2, g8, g9, g10, g11, g32, ↓SXd, SXu, slBounds, ↓sop, ↓aop, ↓reduceIte, LV.cells, AOp.dst, LV.I, LV.B, LV.U, LV.S, LV.nil, Nat.reduceEqDiff, Nat.reduceAdd, Nat.reduceMul, Nat.reduceSub, Nat.reduceLeDiff, Nat.reduceBEq, Nat.reduceDiv, Nat.reduceMod, Int.reduceToNat, Int.reduceLT, Int.reduceLE, Int.reduceAdd, Int.reduceSub, Int.reduceMul, Int.reduceEq, Int.reduceNeg, reduceCtorEq, resV, resAll, ARes.ev, LV.flat, ite_true, ite_false, exists_eq_left', exists_eq_left, keyOf, implies_true, fillC, capOf]
          exact ⟨m - 1, by omega, d + 1, w, n, by omega, p2, c9, cw, hwn, hw, hw2, g2, g8, g9, eqI (natI _)⟩
      · simp (disch := omega) only [f2, f8, f9, f32, ↓SXd, SXu, slBounds, ↓sop, ↓aop, ↓reduceIte, LV.cells, AOp.dst, LV.I, LV.B, LV.U, LV.S, LV.nil, Nat.reduceEqDiff, Nat.reduceAdd, Nat.reduceMul, Nat.reduceSub, Nat.reduceLeDiff, Nat.reduceBEq, Nat.reduceDiv, Nat.reduceMod, Int.reduceToNat, Int.reduceLT, Int.reduceLE, Int.reduceAdd, Int.reduceSub, Int.reduceMul, Int.reduceEq, Int.reduceNeg, reduceCtorEq, resV, resAll, ARes.ev, LV.flat, ite_true, ite_false, exists_eq_left', exists_eq_left, keyOf, implies_true, fillC, capOf]
        have : d = 3 := by omega
        subst this
        obtain ⟨nd, hnd1, hnd2⟩ := plD_len hS (xs := xs) (d := 3)
        exact ⟨_, n, rfl, ⟨hwn, .inr ⟨w, rfl, bw⟩⟩, by omega, Newer.of (by omega), hpre⟩
    · rw [if_neg (fun hh => hK hh.2), decide_eq_false hK]
      simp (disch := omega) only [↓SXd, SXu, slBounds, ↓sop, ↓aop, ↓reduceIte, LV.cells, AOp.dst, LV.I, LV.B, LV.U, LV.S, LV.nil, Nat.reduceEqDiff, Nat.reduceAdd, Nat.reduceMul, Nat.reduceSub, Nat.reduceLeDiff, Nat.reduceBEq, Nat.reduceDiv, Nat.reduceMod, Int.reduceToNat, Int.reduceLT, Int.reduceLE, Int.reduceAdd, Int.reduceSub, Int.reduceMul, Int.reduceEq, Int.reduceNeg, reduceCtorEq, resV, resAll, ARes.ev, LV.flat, ite_true, ite_false, exists_eq_left', exists_eq_left, keyOf, implies_true, fillC, capOf]
      exact hbad
  · rw [if_neg (fun hh => hA hh.1), decide_eq_false hA]
    simp (disch := omega) only [↓SXd, SXu, slBounds, ↓sop, ↓aop, ↓reduceIte, LV.cells, AOp.dst, LV.I, LV.B, LV.U, LV.S, LV.nil, Nat.reduceEqDiff, Nat.reduceAdd, Nat.reduceMul, Nat.reduceSub, Nat.reduceLeDiff, Nat.reduceBEq, Nat.reduceDiv, Nat.reduceMod, Int.reduceToNat, Int.reduceLT, Int.reduceLE, Int.reduceAdd, Int.reduceSub, Int.reduceMul, Int.reduceEq, Int.reduceNeg, reduceCtorEq, resV, resAll, ARes.ev, LV.flat, ite_true, ite_false, exists_eq_left', exists_eq_left, keyOf, implies_true, fillC, capOf]
    exact hbad
end Go.Ab

/- The law of FaultPlanes. -/
namespace Go.Ab
open Go
set_option linter.unusedSimpArgs false
set_option linter.unusedVariables false
set_option maxRecDepth 20000

theorem l_FaultPlanes {x y z : Int} {t o u q : Nat} {cs : List Cell} {L : List (List Cell)} {xs : List Int} {M : Mem} (h : Tri M t o cs) (hn0 : cs.length ≤ 9223372036854775807) (hP : Pcs M u L) (hP0 : L.length ≤ 9223372036854775807 ∧ ∀ l ∈ L, l.length ≤ 9223372036854775807) (hX : Ints M q 0 xs) (hx0 : xs.length ≤ 9223372036854775807) :
    CallsR PG F.laws_FnExactFaultPlanes [.agg [.I x, .I y, .I z, .ref t o cs.length], .ref u 0 L.length, .ref q 0 xs.length] M fun v _ => v = .B true := by
  have ht := h.lt
  have hu := hP.lt
  have hql := hX.lt
  have hP00 := hP0.1
  refine callsR_run K.laws_FnExactFaultPlanes rfl ?_
  simp (disch := omega) only [C.laws_FnExactFaultPlanes, ↓SXd, SXu, slBounds, ↓sop, ↓aop, ↓reduceIte, LV.cells, AOp.dst, LV.I, LV.B, LV.U, LV.S, LV.nil, Nat.reduceEqDiff, Nat.reduceAdd, Nat.reduceMul, Nat.reduceSub, Nat.reduceLeDiff, Nat.reduceBEq, Nat.reduceDiv, Nat.reduceMod, Int.reduceToNat, Int.reduceLT, Int.reduceLE, Int.reduceAdd, Int.reduceSub, Int.reduceMul, Int.reduceEq, Int.reduceNeg, reduceCtorEq, resV, resAll, ARes.ev, LV.flat, ite_true, ite_false, exists_eq_left', exists_eq_left, keyOf, implies_true, fillC, capOf]
  by_cases hxl : (xs.length : Int) > 1048576
  · simp (disch := omega) only [hxl, ↓SXd, SXu, slBounds, ↓sop, ↓aop, ↓reduceIte, LV.cells, AOp.dst, LV.I, LV.B, LV.U, LV.S, LV.nil, Nat.reduceEqDiff, Nat.reduceAdd, Nat.reduceMul, Nat.reduceSub, Nat.reduceLeDiff, Nat.reduceBEq, Nat.reduceDiv, Nat.reduceMod, Int.reduceToNat, Int.reduceLT, Int.reduceLE, Int.reduceAdd, Int.reduceSub, Int.reduceMul, Int.reduceEq, Int.reduceNeg, reduceCtorEq, resV, resAll, ARes.ev, LV.flat, ite_true, ite_false, exists_eq_left', exists_eq_left, keyOf, implies_true, fillC, capOf]
    rfl
  simp (disch := omega) only [hxl, ↓SXd, SXu, slBounds, ↓sop, ↓aop, ↓reduceIte, LV.cells, AOp.dst, LV.I, LV.B, LV.U, LV.S, LV.nil, Nat.reduceEqDiff, Nat.reduceAdd, Nat.reduceMul, Nat.reduceSub, Nat.reduceLeDiff, Nat.reduceBEq, Nat.reduceDiv, Nat.reduceMod, Int.reduceToNat, Int.reduceLT, Int.reduceLE, Int.reduceAdd, Int.reduceSub, Int.reduceMul, Int.reduceEq, Int.reduceNeg, reduceCtorEq, resV, resAll, ARes.ev, LV.flat, ite_true, ite_false, exists_eq_left', exists_eq_left, keyOf, implies_true, fillC, capOf]
  refine callK_of (h_szHeap (by omega) (by omega) (by omega)) ?_
  simp (disch := omega) only [↓SXd, SXu, slBounds, ↓sop, ↓aop, ↓reduceIte, LV.cells, AOp.dst, LV.I, LV.B, LV.U, LV.S, LV.nil, Nat.reduceEqDiff, Nat.reduceAdd, Nat.reduceMul, Nat.reduceSub, Nat.reduceLeDiff, Nat.reduceBEq, Nat.reduceDiv, Nat.reduceMod, Int.reduceToNat, Int.reduceLT, Int.reduceLE, Int.reduceAdd, Int.reduceSub, Int.reduceMul, Int.reduceEq, Int.reduceNeg, reduceCtorEq, resV, resAll, ARes.ev, LV.flat, ite_true, ite_false, exists_eq_left', exists_eq_left, keyOf, implies_true, fillC, capOf]
  by_cases hl : (1048576 : Int) < (cs.length : Nat)
  · rw [if_pos hl]
    simp (disch := omega) only [Int.reduceLT, ↓SXd, SXu, slBounds, ↓sop, ↓aop, ↓reduceIte, LV.cells, AOp.dst, LV.I, LV.B, LV.U, LV.S, LV.nil, Nat.reduceEqDiff, Nat.reduceAdd, Nat.reduceMul, Nat.reduceSub, Nat.reduceLeDiff, Nat.reduceBEq, Nat.reduceDiv, Nat.reduceMod, Int.reduceToNat, Int.reduceLT, Int.reduceLE, Int.reduceAdd, Int.reduceSub, Int.reduceMul, Int.reduceEq, Int.reduceNeg, reduceCtorEq, resV, resAll, ARes.ev, LV.flat, ite_true, ite_false, exists_eq_left', exists_eq_left, keyOf, implies_true, fillC, capOf]
    rfl
  rw [if_neg hl]
  simp (disch := omega) only [↓SXd, SXu, slBounds, ↓sop, ↓aop, ↓reduceIte, LV.cells, AOp.dst, LV.I, LV.B, LV.U, LV.S, LV.nil, Nat.reduceEqDiff, Nat.reduceAdd, Nat.reduceMul, Nat.reduceSub, Nat.reduceLeDiff, Nat.reduceBEq, Nat.reduceDiv, Nat.reduceMod, Int.reduceToNat, Int.reduceLT, Int.reduceLE, Int.reduceAdd, Int.reduceSub, Int.reduceMul, Int.reduceEq, Int.reduceNeg, reduceCtorEq, resV, resAll, ARes.ev, LV.flat, ite_true, ite_false, exists_eq_left', exists_eq_left, keyOf, implies_true, fillC, capOf]
  refine callK_of (h_szIntA3SS hP.app (by omega) (by omega) hP0) ?_
  simp (disch := omega) only [↓SXd, SXu, slBounds, ↓sop, ↓aop, ↓reduceIte, LV.cells, AOp.dst, LV.I, LV.B, LV.U, LV.S, LV.nil, Nat.reduceEqDiff, Nat.reduceAdd, Nat.reduceMul, Nat.reduceSub, Nat.reduceLeDiff, Nat.reduceBEq, Nat.reduceDiv, Nat.reduceMod, Int.reduceToNat, Int.reduceLT, Int.reduceLE, Int.reduceAdd, Int.reduceSub, Int.reduceMul, Int.reduceEq, Int.reduceNeg, reduceCtorEq, resV, resAll, ARes.ev, LV.flat, ite_true, ite_false, exists_eq_left', exists_eq_left, keyOf, implies_true, fillC, capOf]
  by_cases hl2 : (1048576 : Int) - (cs.length : Nat) < (L.length : Nat) + (tot L : Nat)
  · rw [if_pos hl2]
    simp (disch := omega) only [Int.reduceLT, ↓SXd, SXu, slBounds, ↓sop, ↓aop, ↓reduceIte, LV.cells, AOp.dst, LV.I, LV.B, LV.U, LV.S, LV.nil, Nat.reduceEqDiff, Nat.reduceAdd, Nat.reduceMul, Nat.reduceSub, Nat.reduceLeDiff, Nat.reduceBEq, Nat.reduceDiv, Nat.reduceMod, Int.reduceToNat, Int.reduceLT, Int.reduceLE, Int.reduceAdd, Int.reduceSub, Int.reduceMul, Int.reduceEq, Int.reduceNeg, reduceCtorEq, resV, resAll, ARes.ev, LV.flat, ite_true, ite_false, exists_eq_left', exists_eq_left, keyOf, implies_true, fillC, capOf]
    rfl
  rw [if_neg hl2]
  have hl3 : ¬ ((1048576 : Int) - (cs.length : Nat) - (L.length : Nat) - (tot L : Nat) < 0) := by omega
  have hn : cs.length ≤ 1000000000 := by omega
  have hxn : xs.length ≤ 1000000000 := by omega
  have hL : L.length ≤ 1000000000 := by omega
  have hLs : ∀ l ∈ L, l.length ≤ 1000000000 := fun l hl => by have := tot_le_mem hl; omega
  simp (disch := omega) only [hl3, ↓SXd, SXu, slBounds, ↓sop, ↓aop, ↓reduceIte, LV.cells, AOp.dst, LV.I, LV.B, LV.U, LV.S, LV.nil, Nat.reduceEqDiff, Nat.reduceAdd, Nat.reduceMul, Nat.reduceSub, Nat.reduceLeDiff, Nat.reduceBEq, Nat.reduceDiv, Nat.reduceMod, Int.reduceToNat, Int.reduceLT, Int.reduceLE, Int.reduceAdd, Int.reduceSub, Int.reduceMul, Int.reduceEq, Int.reduceNeg, reduceCtorEq, resV, resAll, ARes.ev, LV.flat, ite_true, ite_false, exists_eq_left', exists_eq_left, keyOf, implies_true, fillC, capOf]
  refine callK_of (h_toHeap h.app hn) ?_
  simp (disch := omega) only [↓SXd, SXu, slBounds, ↓sop, ↓aop, ↓reduceIte, LV.cells, AOp.dst, LV.I, LV.B, LV.U, LV.S, LV.nil, Nat.reduceEqDiff, Nat.reduceAdd, Nat.reduceMul, Nat.reduceSub, Nat.reduceLeDiff, Nat.reduceBEq, Nat.reduceDiv, Nat.reduceMod, Int.reduceToNat, Int.reduceLT, Int.reduceLE, Int.reduceAdd, Int.reduceSub, Int.reduceMul, Int.reduceEq, Int.reduceNeg, reduceCtorEq, resV, resAll, ARes.ev, LV.flat, ite_true, ite_false, exists_eq_left', exists_eq_left, keyOf, implies_true, fillC, capOf]
  refine callR_of (h_toIntA3SS hP.app (by omega)) ?_
  rintro _ N1 ⟨u1, rfl, hp1, hpr1⟩
  have hc1 : Live N1 (M.length + 1) (.row (triL cs) true 3) := (Live.newj rfl).pre hpr1
  have b1 : Live N1 M.length (.row [.I x, .I y, .I z, .ref t o cs.length] true 0) := Live.new.pre hpr1
  have hM1 : Pre M N1 := (Pre.app _ _).trans hpr1
  simp (disch := omega) only [↓SXd, SXu, slBounds, ↓sop, ↓aop, ↓reduceIte, LV.cells, AOp.dst, LV.I, LV.B, LV.U, LV.S, LV.nil, Nat.reduceEqDiff, Nat.reduceAdd, Nat.reduceMul, Nat.reduceSub, Nat.reduceLeDiff, Nat.reduceBEq, Nat.reduceDiv, Nat.reduceMod, Int.reduceToNat, Int.reduceLT, Int.reduceLE, Int.reduceAdd, Int.reduceSub, Int.reduceMul, Int.reduceEq, Int.reduceNeg, reduceCtorEq, resV, resAll, ARes.ev, LV.flat, ite_true, ite_false, exists_eq_left', exists_eq_left, keyOf, implies_true, fillC, capOf]
  refine callK_of (h_toIntS (hX.pre hM1) hxn) ?_
  simp (disch := omega) only [↓SXd, SXu, slBounds, ↓sop, ↓aop, ↓reduceIte, LV.cells, AOp.dst, LV.I, LV.B, LV.U, LV.S, LV.nil, Nat.reduceEqDiff, Nat.reduceAdd, Nat.reduceMul, Nat.reduceSub, Nat.reduceLeDiff, Nat.reduceBEq, Nat.reduceDiv, Nat.reduceMod, Int.reduceToNat, Int.reduceLT, Int.reduceLE, Int.reduceAdd, Int.reduceSub, Int.reduceMul, Int.reduceEq, Int.reduceNeg, reduceCtorEq, resV, resAll, ARes.ev, LV.flat, ite_true, ite_false, exists_eq_left', exists_eq_left, keyOf, implies_true, fillC, capOf]
  refine callR_of (h_sFaultPlanes hc1.app.has hn hp1.pcs.app hL hLs (Live.new (b := .row (intL xs) true 1)).has hxn) ?_
  rintro _ N2 ⟨w, nw, rfl, hw, hnw, hwn, hpr2⟩
  have b2 := b1.app.pre hpr2
  have hM2 := (hM1.app').trans hpr2
  have hbl2 := b2.lt
  simp (disch := omega) only [b2.cells, ↓SXd, SXu, slBounds, ↓sop, ↓aop, ↓reduceIte, LV.cells, AOp.dst, LV.I, LV.B, LV.U, LV.S, LV.nil, Nat.reduceEqDiff, Nat.reduceAdd, Nat.reduceMul, Nat.reduceSub, Nat.reduceLeDiff, Nat.reduceBEq, Nat.reduceDiv, Nat.reduceMod, Int.reduceToNat, Int.reduceLT, Int.reduceLE, Int.reduceAdd, Int.reduceSub, Int.reduceMul, Int.reduceEq, Int.reduceNeg, reduceCtorEq, resV, resAll, ARes.ev, LV.flat, ite_true, ite_false, exists_eq_left', exists_eq_left, keyOf, implies_true, fillC, capOf]
  refine callK_of (h_toHeap (h.pre hM2) hn) ?_
  simp (disch := omega) only [↓SXd, SXu, slBounds, ↓sop, ↓aop, ↓reduceIte, LV.cells, AOp.dst, LV.I, LV.B, LV.U, LV.S, LV.nil, Nat.reduceEqDiff, Nat.reduceAdd, Nat.reduceMul, Nat.reduceSub, Nat.reduceLeDiff, Nat.reduceBEq, Nat.reduceDiv, Nat.reduceMod, Int.reduceToNat, Int.reduceLT, Int.reduceLE, Int.reduceAdd, Int.reduceSub, Int.reduceMul, Int.reduceEq, Int.reduceNeg, reduceCtorEq, resV, resAll, ARes.ev, LV.flat, ite_true, ite_false, exists_eq_left', exists_eq_left, keyOf, implies_true, fillC, capOf]
  refine callR_of (h_toIntA3SS (hP.pre (hM2.trans (Pre.app _ _))) (by omega)) ?_
  rintro _ N3 ⟨u3, rfl, hp3, hpr3⟩
  have hc3 : Live N3 N2.length (.row (triL cs) true 3) := Live.new.pre hpr3
  have x3 : Live N3 (N2.length + 1) (.row [.I x, .I y, .I z, .ref N2.length 0 cs.length] true 0) := (Live.newj rfl).pre hpr3
  have b3 := b2.pre ((Pre.app _ _).trans hpr3)
  have hM3 := hM2.trans ((Pre.app _ _).trans hpr3)
  have hw3 := hw.pre ((Pre.app _ _).trans hpr3)
  obtain ⟨hu3, refs, hi3, hrow3, hrl3, hcss3, hhi3⟩ := id hp3
  simp only [List.length_append, List.length_cons, List.length_nil] at hu3
  have hxl3 := x3.lt
  simp (disch := omega) only [↓SXd, SXu, slBounds, ↓sop, ↓aop, ↓reduceIte, LV.cells, AOp.dst, LV.I, LV.B, LV.U, LV.S, LV.nil, Nat.reduceEqDiff, Nat.reduceAdd, Nat.reduceMul, Nat.reduceSub, Nat.reduceLeDiff, Nat.reduceBEq, Nat.reduceDiv, Nat.reduceMod, Int.reduceToNat, Int.reduceLT, Int.reduceLE, Int.reduceAdd, Int.reduceSub, Int.reduceMul, Int.reduceEq, Int.reduceNeg, reduceCtorEq, resV, resAll, ARes.ev, LV.flat, ite_true, ite_false, exists_eq_left', exists_eq_left, keyOf, implies_true, fillC, capOf]
  refine callK_of (h_toIntS (hX.pre hM3) hxn) ?_
  simp (disch := omega) only [x3.app.cells, ↓SXd, SXu, slBounds, ↓sop, ↓aop, ↓reduceIte, LV.cells, AOp.dst, LV.I, LV.B, LV.U, LV.S, LV.nil, Nat.reduceEqDiff, Nat.reduceAdd, Nat.reduceMul, Nat.reduceSub, Nat.reduceLeDiff, Nat.reduceBEq, Nat.reduceDiv, Nat.reduceMod, Int.reduceToNat, Int.reduceLT, Int.reduceLE, Int.reduceAdd, Int.reduceSub, Int.reduceMul, Int.reduceEq, Int.reduceNeg, reduceCtorEq, resV, resAll, ARes.ev, LV.flat, ite_true, ite_false, exists_eq_left', exists_eq_left, keyOf, implies_true, fillC, capOf]
  refine callR_of (g_FaultPlanes hc3.app.has hn hp3.pcs.app hL hLs (Live.new (b := .row (intL xs) true 1)).has hxn) ?_
  rintro _ N4 ⟨g, ng, rfl, hg, hng, hgn, hpr4⟩
  have b4 := b3.app.pre hpr4
  have x4 := x3.app.pre hpr4
  have hc4 := hc3.app.pre hpr4
  have hp4 := (hp3.pre (Pre.app _ _)).pre hpr4
  have hi4 : Live N4 N3.length (.row (intL xs) true 1) := Live.new.pre hpr4
  have hM4 := (hM3.app').trans hpr4
  have hw4 := (hw3.pre (Pre.app _ _)).pre hpr4
  have hil4 := hi4.lt
  have hwo := hw.older
  have hNn : ng = nw := by have h1 := hg.1; have h2 := hw.1; omega
  subst hNn
  simp (disch := omega) only [↓SXd, SXu, slBounds, ↓sop, ↓aop, ↓reduceIte, LV.cells, AOp.dst, LV.I, LV.B, LV.U, LV.S, LV.nil, Nat.reduceEqDiff, Nat.reduceAdd, Nat.reduceMul, Nat.reduceSub, Nat.reduceLeDiff, Nat.reduceBEq, Nat.reduceDiv, Nat.reduceMod, Int.reduceToNat, Int.reduceLT, Int.reduceLE, Int.reduceAdd, Int.reduceSub, Int.reduceMul, Int.reduceEq, Int.reduceNeg, reduceCtorEq, resV, resAll, ARes.ev, LV.flat, ite_true, ite_false, exists_eq_left', exists_eq_left, keyOf, implies_true, fillC, capOf]
  refine callK_of (h_eqPairs hg hw4 (by omega)) ?_
  simp (disch := omega) only [b4.cells, x4.cells, ↓SXd, SXu, slBounds, ↓sop, ↓aop, ↓reduceIte, LV.cells, AOp.dst, LV.I, LV.B, LV.U, LV.S, LV.nil, Nat.reduceEqDiff, Nat.reduceAdd, Nat.reduceMul, Nat.reduceSub, Nat.reduceLeDiff, Nat.reduceBEq, Nat.reduceDiv, Nat.reduceMod, Int.reduceToNat, Int.reduceLT, Int.reduceLE, Int.reduceAdd, Int.reduceSub, Int.reduceMul, Int.reduceEq, Int.reduceNeg, reduceCtorEq, resV, resAll, ARes.ev, LV.flat, ite_true, ite_false, exists_eq_left', exists_eq_left, keyOf, implies_true, fillC, capOf]
  refine callK_of (h_toHeap (h.pre hM4) hn) ?_
  simp (disch := omega) only [x4.cells, b4.cells, ↓SXd, SXu, slBounds, ↓sop, ↓aop, ↓reduceIte, LV.cells, AOp.dst, LV.I, LV.B, LV.U, LV.S, LV.nil, Nat.reduceEqDiff, Nat.reduceAdd, Nat.reduceMul, Nat.reduceSub, Nat.reduceLeDiff, Nat.reduceBEq, Nat.reduceDiv, Nat.reduceMod, Int.reduceToNat, Int.reduceLT, Int.reduceLE, Int.reduceAdd, Int.reduceSub, Int.reduceMul, Int.reduceEq, Int.reduceNeg, reduceCtorEq, resV, resAll, ARes.ev, LV.flat, ite_true, ite_false, exists_eq_left', exists_eq_left, keyOf, implies_true, fillC, capOf]
  have he := h_eqHeap (x := x) (y := y) (z := z) (x' := x) (y' := y) (z' := z) (M := N4 ++ [some (.row (triL cs) true 3)]) hc4.app.has (Live.newj (M := N4) (L := [some (.row (triL cs) true 3)]) (j := 0) rfl).has hn hn
  rw [decide_eq_true (by simp)] at he
  refine callK_of he ?_
  simp (disch := omega) only [↓SXd, SXu, slBounds, ↓sop, ↓aop, ↓reduceIte, LV.cells, AOp.dst, LV.I, LV.B, LV.U, LV.S, LV.nil, Nat.reduceEqDiff, Nat.reduceAdd, Nat.reduceMul, Nat.reduceSub, Nat.reduceLeDiff, Nat.reduceBEq, Nat.reduceDiv, Nat.reduceMod, Int.reduceToNat, Int.reduceLT, Int.reduceLE, Int.reduceAdd, Int.reduceSub, Int.reduceMul, Int.reduceEq, Int.reduceNeg, reduceCtorEq, resV, resAll, ARes.ev, LV.flat, ite_true, ite_false, exists_eq_left', exists_eq_left, keyOf, implies_true, fillC, capOf]
  refine callR_of (h_toIntA3SS (hP.pre (hM4.trans (Pre.app _ _))) (by omega)) ?_
  rintro _ N5 ⟨u5, rfl, hp5, hpr5⟩
  have hpr45 : Pre N4 N5 := (Pre.app _ _).trans hpr5
  simp (disch := omega) only [↓SXd, SXu, slBounds, ↓sop, ↓aop, ↓reduceIte, LV.cells, AOp.dst, LV.I, LV.B, LV.U, LV.S, LV.nil, Nat.reduceEqDiff, Nat.reduceAdd, Nat.reduceMul, Nat.reduceSub, Nat.reduceLeDiff, Nat.reduceBEq, Nat.reduceDiv, Nat.reduceMod, Int.reduceToNat, Int.reduceLT, Int.reduceLE, Int.reduceAdd, Int.reduceSub, Int.reduceMul, Int.reduceEq, Int.reduceNeg, reduceCtorEq, resV, resAll, ARes.ev, LV.flat, ite_true, ite_false, exists_eq_left', exists_eq_left, keyOf, implies_true, fillC, capOf]
  refine callK_of (h_eqCss (hp4.pre hpr45).slcc.v hp5.slcc.v (by omega) (by omega)) ?_
  simp (disch := omega) only [↓SXd, SXu, slBounds, ↓sop, ↓aop, ↓reduceIte, LV.cells, AOp.dst, LV.I, LV.B, LV.U, LV.S, LV.nil, Nat.reduceEqDiff, Nat.reduceAdd, Nat.reduceMul, Nat.reduceSub, Nat.reduceLeDiff, Nat.reduceBEq, Nat.reduceDiv, Nat.reduceMod, Int.reduceToNat, Int.reduceLT, Int.reduceLE, Int.reduceAdd, Int.reduceSub, Int.reduceMul, Int.reduceEq, Int.reduceNeg, reduceCtorEq, resV, resAll, ARes.ev, LV.flat, ite_true, ite_false, exists_eq_left', exists_eq_left, keyOf, implies_true, fillC, capOf]
  refine callK_of (h_toIntS (hX.pre (hM4.trans hpr45)) hxn) ?_
  simp (disch := omega) only [↓SXd, SXu, slBounds, ↓sop, ↓aop, ↓reduceIte, LV.cells, AOp.dst, LV.I, LV.B, LV.U, LV.S, LV.nil, Nat.reduceEqDiff, Nat.reduceAdd, Nat.reduceMul, Nat.reduceSub, Nat.reduceLeDiff, Nat.reduceBEq, Nat.reduceDiv, Nat.reduceMod, Int.reduceToNat, Int.reduceLT, Int.reduceLE, Int.reduceAdd, Int.reduceSub, Int.reduceMul, Int.reduceEq, Int.reduceNeg, reduceCtorEq, resV, resAll, ARes.ev, LV.flat, ite_true, ite_false, exists_eq_left', exists_eq_left, keyOf, implies_true, fillC, capOf]
  have hj := h_eqIntS (l := xs) (l' := xs) (M := N5 ++ [some (.row (intL xs) true 1)]) (.inr ⟨_, _, rfl, ((hi4.pre hpr45).app).has⟩) (.inr ⟨_, _, rfl, (Live.new (b := .row (intL xs) true 1)).has⟩) hxn hxn
  rw [decide_eq_true rfl] at hj
  refine callK_of hj ?_
  have hpr46 : Pre N4 (N5 ++ [some (.row (intL xs) true 1)]) := hpr45.trans (Pre.app _ _)
  have b6 := b4.pre hpr46
  have x6 := x4.pre hpr46
  have hc6 := hc4.pre hpr46
  have hi6 := hi4.pre hpr46
  have hw6 := hw4.pre hpr46
  have hg6 := hg.pre hpr46
  have hM6 := hM4.trans hpr46
  have hrow6 : Live (N5 ++ [some (.row (intL xs) true 1)]) u3 (.row refs true 1) := ((hrow3.app).pre hpr4).pre hpr46
  have hcss6 : Css (N5 ++ [some (.row (intL xs) true 1)]) (u3 + 1) hi3 refs L := ((hcss3.pre (Pre.app _ _)).pre hpr4).pre hpr46
  have hrl := hrow3.lt
  have hgo := hg.older
  have hgN : Newer (N3 ++ [some (.row (intL xs) true 1)]) g := hgn
  generalize hW6 : N5 ++ [some (.row (intL xs) true 1)] = W6 at b6 x6 hc6 hi6 hw6 hg6 hM6 hrow6 hcss6 hpr46 ⊢
  simp (disch := omega) only [x6.cells, ↓SXd, SXu, slBounds, ↓sop, ↓aop, ↓reduceIte, LV.cells, AOp.dst, LV.I, LV.B, LV.U, LV.S, LV.nil, Nat.reduceEqDiff, Nat.reduceAdd, Nat.reduceMul, Nat.reduceSub, Nat.reduceLeDiff, Nat.reduceBEq, Nat.reduceDiv, Nat.reduceMod, Int.reduceToNat, Int.reduceLT, Int.reduceLE, Int.reduceAdd, Int.reduceSub, Int.reduceMul, Int.reduceEq, Int.reduceNeg, reduceCtorEq, resV, resAll, ARes.ev, LV.flat, ite_true, ite_false, exists_eq_left', exists_eq_left, keyOf, implies_true, fillC, capOf]
  refine callR_of (h_markHeap (SlC.of hc6) hn (by omega)) ?_
  rintro _ N7 ⟨rfl, _, hN7a, hN7b⟩
  have o7 : ∀ v, v < W6.length → v ≠ N2.length → N7[v]? = W6[v]? := fun v hv hne => hN7b v hv hne
  have hW6l := hpr46.1
  have hx6l := x6.lt
  have hcss7 : Css N7 (u3 + 1) hi3 refs L := hcss6.mono (Nat.le_refl _) (Nat.le_refl _) fun v l h1 h2 hL => Live.at hL (o7 v hL.lt (by omega))
  have hrow7 : Live N7 u3 (.row refs true 1) := Live.at hrow6 (o7 _ hrow6.lt (by omega))
  simp (disch := omega) only [↓SXd, SXu, slBounds, ↓sop, ↓aop, ↓reduceIte, LV.cells, AOp.dst, LV.I, LV.B, LV.U, LV.S, LV.nil, Nat.reduceEqDiff, Nat.reduceAdd, Nat.reduceMul, Nat.reduceSub, Nat.reduceLeDiff, Nat.reduceBEq, Nat.reduceDiv, Nat.reduceMod, Int.reduceToNat, Int.reduceLT, Int.reduceLE, Int.reduceAdd, Int.reduceSub, Int.reduceMul, Int.reduceEq, Int.reduceNeg, reduceCtorEq, resV, resAll, ARes.ev, LV.flat, ite_true, ite_false, exists_eq_left', exists_eq_left, keyOf, implies_true, fillC, capOf]
  refine callR_of (h_markPcs hrow7 hrl3 hcss7 (Nat.lt_succ_self _) (by omega) (by omega)) ?_
  rintro _ N8 ⟨rfl, hN8l, hN8o⟩
  have hi8 : Live N8 N3.length (.row (intL xs) true 1) := Live.at (Live.at hi6 (o7 _ hi6.lt (by omega))) (hN8o _ (by omega))
  simp (disch := omega) only [↓SXd, SXu, slBounds, ↓sop, ↓aop, ↓reduceIte, LV.cells, AOp.dst, LV.I, LV.B, LV.U, LV.S, LV.nil, Nat.reduceEqDiff, Nat.reduceAdd, Nat.reduceMul, Nat.reduceSub, Nat.reduceLeDiff, Nat.reduceBEq, Nat.reduceDiv, Nat.reduceMod, Int.reduceToNat, Int.reduceLT, Int.reduceLE, Int.reduceAdd, Int.reduceSub, Int.reduceMul, Int.reduceEq, Int.reduceNeg, reduceCtorEq, resV, resAll, ARes.ev, LV.flat, ite_true, ite_false, exists_eq_left', exists_eq_left, keyOf, implies_true, fillC, capOf]
  refine callR_of (h_markIntS (SlI.of hi8) hxn (by omega)) ?_
  rintro _ N9 ⟨rfl, _, hN9l, hN9o⟩
  have o9 : ∀ v, v < W6.length → v ≠ N2.length → (v < u3 + 1 ∨ hi3 ≤ v) → v ≠ N3.length → N9[v]? = W6[v]? := fun v hv h1 h2 h3 => by
    rw [hN9o v (by show v ≠ N3.length; exact h3), hN8o v h2, o7 v hv h1]
  have hg9 : SlF N9 g ng ((planesN x y z cs L xs).getD []) := hg6.at fun v o' m' e => by
    have h1 : v < W6.length := Nat.lt_of_lt_of_le (hgo v o' m' e) hpr46.1
    have h2 : ∀ q, q < (N3 ++ [some (Blk.row (intL xs) true 1)]).length → v ≠ q := fun q hq hv => by
      have := hgN q hq
      rw [e] at this
      exact this hv.symm
    have h3 : ∀ q, q ≤ N3.length → v ≠ q := fun q hq => h2 q (by simp; omega)
    have h4 : N3.length < v := by
      rcases Nat.lt_or_ge N3.length v with h5 | h5
      · exact h5
      · exact absurd rfl (h3 v h5)
    exact o9 v h1 (by omega) (.inr (by omega)) (by omega)
  have hw9 : SlF N9 w ng ((planesN x y z cs L xs).getD []) := hw6.at fun v o' m' e => by
    have h1 := hwo v o' m' e
    exact o9 v (by omega) (by omega) (.inl (by omega)) (by omega)
  have b9 := Live.at b6 (o9 _ b6.lt (by omega) (.inl (by omega)) (by omega))
  have hM9 : Pre M N9 := ⟨by have := hM6.1; omega, fun v hv => by
    have := hM2.1
    rw [o9 v (by omega) (by omega) (.inl (by omega)) (by omega)]; exact hM6.2 v hv⟩
  have hk : ¬ (1 + 3 * (cs.length : Int) + 3 * (tot L : Nat) + (xs.length : Nat) < 0) := by omega
  simp (disch := omega) only [hk, ↓SXd, SXu, slBounds, ↓sop, ↓aop, ↓reduceIte, LV.cells, AOp.dst, LV.I, LV.B, LV.U, LV.S, LV.nil, Nat.reduceEqDiff, Nat.reduceAdd, Nat.reduceMul, Nat.reduceSub, Nat.reduceLeDiff, Nat.reduceBEq, Nat.reduceDiv, Nat.reduceMod, Int.reduceToNat, Int.reduceLT, Int.reduceLE, Int.reduceAdd, Int.reduceSub, Int.reduceMul, Int.reduceEq, Int.reduceNeg, reduceCtorEq, resV, resAll, ARes.ev, LV.flat, ite_true, ite_false, exists_eq_left', exists_eq_left, keyOf, implies_true, fillC, capOf]
  refine callK_of (h_eqPairs hg9 hw9 (by omega)) ?_
  simp (disch := omega) only [↓SXd, SXu, slBounds, ↓sop, ↓aop, ↓reduceIte, LV.cells, AOp.dst, LV.I, LV.B, LV.U, LV.S, LV.nil, Nat.reduceEqDiff, Nat.reduceAdd, Nat.reduceMul, Nat.reduceSub, Nat.reduceLeDiff, Nat.reduceBEq, Nat.reduceDiv, Nat.reduceMod, Int.reduceToNat, Int.reduceLT, Int.reduceLE, Int.reduceAdd, Int.reduceSub, Int.reduceMul, Int.reduceEq, Int.reduceNeg, reduceCtorEq, resV, resAll, ARes.ev, LV.flat, ite_true, ite_false, exists_eq_left', exists_eq_left, keyOf, implies_true, fillC, capOf]
  refine callR_of (h_markPairs hg9 (by omega) (by omega)) ?_
  rintro _ N10 ⟨rfl, hg10, hN10l, hN10o⟩
  have hgw : Apart g w := Newer.apart hgN fun v o' m' e => by have := hwo v o' m' e; simp; omega
  have hw10 : SlF N10 w ng ((planesN x y z cs L xs).getD []) := hw9.at fun v o' m' e => hN10o v (hgw v o' m' e)
  have hb3l := b3.lt
  have b10 := Live.at b9 (hN10o _ (hgN _ (by simp; omega)))
  have hM10 : Pre M N10 := ⟨by have := hM9.1; omega, fun v hv => by
    have := hM3.1
    rw [hN10o v (hgN v (by simp; omega))]; exact hM9.2 v hv⟩
  have hk2 : ¬ (1 + 2 * (ng : Int) < 0) := by omega
  simp (disch := omega) only [↓SXd, SXu, slBounds, ↓sop, ↓aop, ↓reduceIte, LV.cells, AOp.dst, LV.I, LV.B, LV.U, LV.S, LV.nil, Nat.reduceEqDiff, Nat.reduceAdd, Nat.reduceMul, Nat.reduceSub, Nat.reduceLeDiff, Nat.reduceBEq, Nat.reduceDiv, Nat.reduceMod, Int.reduceToNat, Int.reduceLT, Int.reduceLE, Int.reduceAdd, Int.reduceSub, Int.reduceMul, Int.reduceEq, Int.reduceNeg, reduceCtorEq, resV, resAll, ARes.ev, LV.flat, ite_true, ite_false, exists_eq_left', exists_eq_left, keyOf, implies_true, fillC, capOf]
  refine callK_of (h_heldPairs hg10 (by omega) (by omega)) ?_
  simp (disch := omega) only [b10.cells, hk2, ↓SXd, SXu, slBounds, ↓sop, ↓aop, ↓reduceIte, LV.cells, AOp.dst, LV.I, LV.B, LV.U, LV.S, LV.nil, Nat.reduceEqDiff, Nat.reduceAdd, Nat.reduceMul, Nat.reduceSub, Nat.reduceLeDiff, Nat.reduceBEq, Nat.reduceDiv, Nat.reduceMod, Int.reduceToNat, Int.reduceLT, Int.reduceLE, Int.reduceAdd, Int.reduceSub, Int.reduceMul, Int.reduceEq, Int.reduceNeg, reduceCtorEq, resV, resAll, ARes.ev, LV.flat, ite_true, ite_false, exists_eq_left', exists_eq_left, keyOf, implies_true, fillC, capOf]
  refine callK_of (h_toHeap (h.pre hM10) hn) ?_
  simp (disch := omega) only [↓SXd, SXu, slBounds, ↓sop, ↓aop, ↓reduceIte, LV.cells, AOp.dst, LV.I, LV.B, LV.U, LV.S, LV.nil, Nat.reduceEqDiff, Nat.reduceAdd, Nat.reduceMul, Nat.reduceSub, Nat.reduceLeDiff, Nat.reduceBEq, Nat.reduceDiv, Nat.reduceMod, Int.reduceToNat, Int.reduceLT, Int.reduceLE, Int.reduceAdd, Int.reduceSub, Int.reduceMul, Int.reduceEq, Int.reduceNeg, reduceCtorEq, resV, resAll, ARes.ev, LV.flat, ite_true, ite_false, exists_eq_left', exists_eq_left, keyOf, implies_true, fillC, capOf]
  refine callR_of (h_toIntA3SS (hP.pre (hM10.trans (Pre.app _ _))) (by omega)) ?_
  rintro _ N11 ⟨u11, rfl, hp11, hpr11⟩
  have hc11 : Live N11 N10.length (.row (triL cs) true 3) := Live.new.pre hpr11
  have hpr1011 : Pre N10 N11 := (Pre.app _ _).trans hpr11
  simp (disch := omega) only [↓SXd, SXu, slBounds, ↓sop, ↓aop, ↓reduceIte, LV.cells, AOp.dst, LV.I, LV.B, LV.U, LV.S, LV.nil, Nat.reduceEqDiff, Nat.reduceAdd, Nat.reduceMul, Nat.reduceSub, Nat.reduceLeDiff, Nat.reduceBEq, Nat.reduceDiv, Nat.reduceMod, Int.reduceToNat, Int.reduceLT, Int.reduceLE, Int.reduceAdd, Int.reduceSub, Int.reduceMul, Int.reduceEq, Int.reduceNeg, reduceCtorEq, resV, resAll, ARes.ev, LV.flat, ite_true, ite_false, exists_eq_left', exists_eq_left, keyOf, implies_true, fillC, capOf]
  refine callK_of (h_toIntS (hX.pre (hM10.trans hpr1011)) hxn) ?_
  simp (disch := omega) only [↓SXd, SXu, slBounds, ↓sop, ↓aop, ↓reduceIte, LV.cells, AOp.dst, LV.I, LV.B, LV.U, LV.S, LV.nil, Nat.reduceEqDiff, Nat.reduceAdd, Nat.reduceMul, Nat.reduceSub, Nat.reduceLeDiff, Nat.reduceBEq, Nat.reduceDiv, Nat.reduceMod, Int.reduceToNat, Int.reduceLT, Int.reduceLE, Int.reduceAdd, Int.reduceSub, Int.reduceMul, Int.reduceEq, Int.reduceNeg, reduceCtorEq, resV, resAll, ARes.ev, LV.flat, ite_true, ite_false, exists_eq_left', exists_eq_left, keyOf, implies_true, fillC, capOf]
  refine callR_of (g_FaultPlanes hc11.app.has hn hp11.pcs.app hL hLs (Live.new (b := .row (intL xs) true 1)).has hxn) ?_
  rintro _ N12 ⟨g12, n12, rfl, hg12, _, _, hpr12⟩
  have hpr1012 : Pre N10 N12 := (hpr1011.trans (Pre.app _ _)).trans hpr12
  have hn12 : n12 = ng := by have h1 := hg12.1; have h2 := hw.1; omega
  subst hn12
  simp (disch := omega) only [↓SXd, SXu, slBounds, ↓sop, ↓aop, ↓reduceIte, LV.cells, AOp.dst, LV.I, LV.B, LV.U, LV.S, LV.nil, Nat.reduceEqDiff, Nat.reduceAdd, Nat.reduceMul, Nat.reduceSub, Nat.reduceLeDiff, Nat.reduceBEq, Nat.reduceDiv, Nat.reduceMod, Int.reduceToNat, Int.reduceLT, Int.reduceLE, Int.reduceAdd, Int.reduceSub, Int.reduceMul, Int.reduceEq, Int.reduceNeg, reduceCtorEq, resV, resAll, ARes.ev, LV.flat, ite_true, ite_false, exists_eq_left', exists_eq_left, keyOf, implies_true, fillC, capOf]
  refine callK_of (h_eqPairs hg12 (hw10.pre hpr1012) (by omega)) ?_
  simp (disch := omega) only [↓SXd, SXu, slBounds, ↓sop, ↓aop, ↓reduceIte, LV.cells, AOp.dst, LV.I, LV.B, LV.U, LV.S, LV.nil, Nat.reduceEqDiff, Nat.reduceAdd, Nat.reduceMul, Nat.reduceSub, Nat.reduceLeDiff, Nat.reduceBEq, Nat.reduceDiv, Nat.reduceMod, Int.reduceToNat, Int.reduceLT, Int.reduceLE, Int.reduceAdd, Int.reduceSub, Int.reduceMul, Int.reduceEq, Int.reduceNeg, reduceCtorEq, resV, resAll, ARes.ev, LV.flat, ite_true, ite_false, exists_eq_left', exists_eq_left, keyOf, implies_true, fillC, capOf]
  refine callK_of (h_heldPairs (hg10.pre hpr1012) (by omega) (by omega)) ?_
  simp (disch := omega) only [hk2, ↓SXd, SXu, slBounds, ↓sop, ↓aop, ↓reduceIte, LV.cells, AOp.dst, LV.I, LV.B, LV.U, LV.S, LV.nil, Nat.reduceEqDiff, Nat.reduceAdd, Nat.reduceMul, Nat.reduceSub, Nat.reduceLeDiff, Nat.reduceBEq, Nat.reduceDiv, Nat.reduceMod, Int.reduceToNat, Int.reduceLT, Int.reduceLE, Int.reduceAdd, Int.reduceSub, Int.reduceMul, Int.reduceEq, Int.reduceNeg, reduceCtorEq, resV, resAll, ARes.ev, LV.flat, ite_true, ite_false, exists_eq_left', exists_eq_left, keyOf, implies_true, fillC, capOf]
  rfl
end Go.Ab
