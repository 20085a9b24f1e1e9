/- Parts of the proof of FnTakingSaid: Oj Bt C_Je K_Je C_Jb K_Jb C_Ja K_Ja C_Zd K_Zd C_Zc K_Zc C_Zb K_Zb C_Za K_Za Za C_Yh K_Yh C_Yf K_Yf C_Yd K_Yd C_Yc K_Yc C_Yb K_Yb Ra Rb Rc Rd C_Tc K_Tc C_Tb K_Tb Ge Ta Tb Tc C_Td K_Td Td Yb Yc Bi Yd C_Tl K_Tl C_Tk K_Tk C_Tj K_Tj Tj Tk C_Tf K_Tf C_Te K_Te Te Tf Tl Yf C_Gf K_Gf C_Gc K_Gc Gc Gf Yg Yh Zb C_Yi K_Yi Yi Zc C_Wb K_Wb C_Ug K_Ug Ug Va Wa C_Uk K_Uk C_Uj K_Uj C_Ui K_Ui C_Uh K_Uh Uh Ui Uj Uk Wb Zd C_Hb K_Hb Hb C_Hh0 K_Hh0 Hh0 Ja Jb Jc. -/
import Derived.Test.YtebgcnpkhojejaaA7
import Derived.Test.YtebgcnpkhojejaaA4
import Derived.Test.YtebgcnpkhojejaaA3
import Derived.Test.YtebgcnpkhojejaaProg
import Derived.KernelRfl
import Derived.Test.YtebgcnpkhojejaaA6
import Derived.Below
import Derived.Lib.SmallJoins
import Derived.Deep.Slices
import Derived.Laws.IdiomArrays
import Derived.ChangeSlices
import Derived.Test.YtebgcnpkhojejaaA5
set_option linter.all false
/- Contracts: laying orders, both sides. -/
namespace Go.Ab
open Go
set_option linter.unusedSimpArgs false
set_option linter.unusedVariables false

/-- What LayingOrder answers. -/
noncomputable def layOf (x y z : Int) (cs : List Cell) : Option (List Cell) := by
  classical
  exact if HeapOK x y z cs ∧ Firm x y z (fun c => decide (c ∈ cs)) then some (layL x y z (fun c => decide (c ∈ cs)) cs.length) else none
theorem g_LayingOrder_1 {x y z : Int} {t o b1 b2 b3 : Nat} {cs : List Cell} {l : List Cell} {c : Cell} {M : Mem} (h : Tri M t o cs) (hn : cs.length ≤ 1000000000) (hS : Sides x y z) (hin : ∀ c ∈ cs, c.inBox x y z) (hc : c.inBox x y z)
    (h1 : getCells M b1 0 4 = some [.I x, .I y, .I z, .ref t o cs.length]) (h2 : getCell M b2 0 = some (.W (bs x y z fun c => decide (c ∈ l)))) (h3 : getCells M b3 0 3 = some [.I x, .I y, .I z]) (hl1 : b1 < M.length) (hl2 : b2 < M.length) (hl3 : b3 < M.length) (hlin : ∀ d ∈ l, d.inBox x y z) :
    CallsTo PG F.impl_LayingOrder_1 [.agg [.I c.a, .I c.b, .I c.c], .ptr b1 0, .ptr b2 0, .ptr b3 0] M (.B (layC (fun c => decide (c ∈ cs)) l c)) M := by
  have hix := (idx_in hS hc).1
  refine calls_run K.impl_LayingOrder_1 rfl ?_
  unfold layC
  simp (disch := omega) only [C.impl_LayingOrder_1, getCells_app, h1, getCell_app, h2, h3, ↓SXd, SXu, slBounds, ↓sop, ↓aop, ↓reduceIte, LV.cells, AOp.dst, LV.I, LV.B, LV.U, LV.S, LV.nil, Nat.reduceEqDiff, Nat.reduceAdd, Nat.reduceMul, Nat.reduceSub, Nat.reduceLeDiff, Nat.reduceBEq, Nat.reduceDiv, Nat.reduceMod, Int.reduceToNat, Int.reduceLT, Int.reduceLE, Int.reduceAdd, Int.reduceSub, Int.reduceMul, Int.reduceEq, Int.reduceNeg, reduceCtorEq, resV, resAll, ARes.ev, LV.flat, ite_true, ite_false, exists_eq_left', exists_eq_left, keyOf, implies_true, fillC, capOf]
  refine callK_of (g_hasCube h.app hn hS hin hc) ?_
  simp (disch := omega) only [getCells_app, h1, getCell_app, h2, h3, ↓SXd, SXu, slBounds, ↓sop, ↓aop, ↓reduceIte, LV.cells, AOp.dst, LV.I, LV.B, LV.U, LV.S, LV.nil, Nat.reduceEqDiff, Nat.reduceAdd, Nat.reduceMul, Nat.reduceSub, Nat.reduceLeDiff, Nat.reduceBEq, Nat.reduceDiv, Nat.reduceMod, Int.reduceToNat, Int.reduceLT, Int.reduceLE, Int.reduceAdd, Int.reduceSub, Int.reduceMul, Int.reduceEq, Int.reduceNeg, reduceCtorEq, resV, resAll, ARes.ev, LV.flat, ite_true, ite_false, exists_eq_left', exists_eq_left, keyOf, implies_true, fillC, capOf]
  by_cases hcm : c ∈ cs
  · simp (disch := omega) only [hcm, getCells_app, h1, getCell_app, h2, h3, ↓SXd, SXu, slBounds, ↓sop, ↓aop, ↓reduceIte, LV.cells, AOp.dst, LV.I, LV.B, LV.U, LV.S, LV.nil, Nat.reduceEqDiff, Nat.reduceAdd, Nat.reduceMul, Nat.reduceSub, Nat.reduceLeDiff, Nat.reduceBEq, Nat.reduceDiv, Nat.reduceMod, Int.reduceToNat, Int.reduceLT, Int.reduceLE, Int.reduceAdd, Int.reduceSub, Int.reduceMul, Int.reduceEq, Int.reduceNeg, reduceCtorEq, resV, resAll, ARes.ev, LV.flat, ite_true, ite_false, exists_eq_left', exists_eq_left, keyOf, implies_true, fillC, capOf]
    refine callK_of (g_index hS hc) ?_
    simp (disch := omega) only [getCells_app, h1, getCell_app, h2, h3, ↓SXd, SXu, slBounds, ↓sop, ↓aop, ↓reduceIte, LV.cells, AOp.dst, LV.I, LV.B, LV.U, LV.S, LV.nil, Nat.reduceEqDiff, Nat.reduceAdd, Nat.reduceMul, Nat.reduceSub, Nat.reduceLeDiff, Nat.reduceBEq, Nat.reduceDiv, Nat.reduceMod, Int.reduceToNat, Int.reduceLT, Int.reduceLE, Int.reduceAdd, Int.reduceSub, Int.reduceMul, Int.reduceEq, Int.reduceNeg, reduceCtorEq, resV, resAll, ARes.ev, LV.flat, ite_true, ite_false, exists_eq_left', exists_eq_left, keyOf, implies_true, fillC, capOf]
    refine callK_of (g_has_set hix) ?_
    simp (disch := omega) only [getCells_app, h1, getCell_app, h2, h3, ↓SXd, SXu, slBounds, ↓sop, ↓aop, ↓reduceIte, LV.cells, AOp.dst, LV.I, LV.B, LV.U, LV.S, LV.nil, Nat.reduceEqDiff, Nat.reduceAdd, Nat.reduceMul, Nat.reduceSub, Nat.reduceLeDiff, Nat.reduceBEq, Nat.reduceDiv, Nat.reduceMod, Int.reduceToNat, Int.reduceLT, Int.reduceLE, Int.reduceAdd, Int.reduceSub, Int.reduceMul, Int.reduceEq, Int.reduceNeg, reduceCtorEq, resV, resAll, ARes.ev, LV.flat, ite_true, ite_false, exists_eq_left', exists_eq_left, keyOf, implies_true, fillC, capOf]
    rw [bs_has hS hc]
    by_cases hcl : c ∈ l
    · simp (disch := omega) only [hcl, Bool.false_and, ↓SXd, SXu, slBounds, ↓sop, ↓aop, ↓reduceIte, LV.cells, AOp.dst, LV.I, LV.B, LV.U, LV.S, LV.nil, Nat.reduceEqDiff, Nat.reduceAdd, Nat.reduceMul, Nat.reduceSub, Nat.reduceLeDiff, Nat.reduceBEq, Nat.reduceDiv, Nat.reduceMod, Int.reduceToNat, Int.reduceLT, Int.reduceLE, Int.reduceAdd, Int.reduceSub, Int.reduceMul, Int.reduceEq, Int.reduceNeg, reduceCtorEq, resV, resAll, ARes.ev, LV.flat, ite_true, ite_false, exists_eq_left', exists_eq_left, keyOf, implies_true, fillC, capOf]
      exact cmp_drop rfl
    · by_cases h0 : c.c = 0
      · simp (disch := omega) only [hcl, h0, Bool.true_and, Bool.true_or, ↓SXd, SXu, slBounds, ↓sop, ↓aop, ↓reduceIte, LV.cells, AOp.dst, LV.I, LV.B, LV.U, LV.S, LV.nil, Nat.reduceEqDiff, Nat.reduceAdd, Nat.reduceMul, Nat.reduceSub, Nat.reduceLeDiff, Nat.reduceBEq, Nat.reduceDiv, Nat.reduceMod, Int.reduceToNat, Int.reduceLT, Int.reduceLE, Int.reduceAdd, Int.reduceSub, Int.reduceMul, Int.reduceEq, Int.reduceNeg, reduceCtorEq, resV, resAll, ARes.ev, LV.flat, ite_true, ite_false, exists_eq_left', exists_eq_left, keyOf, implies_true, fillC, capOf]
        exact cmp_drop rfl
      · simp (disch := omega) only [hcl, h0, getCells_app, h1, getCell_app, h2, h3, Bool.true_and, Bool.false_or, ↓SXd, SXu, slBounds, ↓sop, ↓aop, ↓reduceIte, LV.cells, AOp.dst, LV.I, LV.B, LV.U, LV.S, LV.nil, Nat.reduceEqDiff, Nat.reduceAdd, Nat.reduceMul, Nat.reduceSub, Nat.reduceLeDiff, Nat.reduceBEq, Nat.reduceDiv, Nat.reduceMod, Int.reduceToNat, Int.reduceLT, Int.reduceLE, Int.reduceAdd, Int.reduceSub, Int.reduceMul, Int.reduceEq, Int.reduceNeg, reduceCtorEq, resV, resAll, ARes.ev, LV.flat, ite_true, ite_false, exists_eq_left', exists_eq_left, keyOf, implies_true, fillC, capOf]
        refine callK_of (g_nearSet hS hc) ?_
        simp (disch := omega) only [getCells_app, h1, getCell_app, h2, h3, ↓SXd, SXu, slBounds, ↓sop, ↓aop, ↓reduceIte, LV.cells, AOp.dst, LV.I, LV.B, LV.U, LV.S, LV.nil, Nat.reduceEqDiff, Nat.reduceAdd, Nat.reduceMul, Nat.reduceSub, Nat.reduceLeDiff, Nat.reduceBEq, Nat.reduceDiv, Nat.reduceMod, Int.reduceToNat, Int.reduceLT, Int.reduceLE, Int.reduceAdd, Int.reduceSub, Int.reduceMul, Int.reduceEq, Int.reduceNeg, reduceCtorEq, resV, resAll, ARes.ev, LV.flat, ite_true, ite_false, exists_eq_left', exists_eq_left, keyOf, implies_true, fillC, capOf]
        rw [bs_and hS]
        have hz : (bs x y z (fun d => decide (apart c d = 1) && decide (d ∈ l)) = 0#64) ↔ (l.any fun d => decide (apart d c = 1)) = false := by
          rw [bs_zero hS, List.any_eq_false]
          constructor
          · intro hh d hd ha
            have := hh d (hlin d hd)
            rw [apart_comm] at ha
            simp only [Bool.and_eq_false_iff, decide_eq_false_iff_not] at this
            rcases this with h | h
            · exact h (of_decide_eq_true ha)
            · exact h hd
          · intro hh d _
            by_cases hd : d ∈ l
            · have := hh d hd
              rw [apart_comm] at this
              simpa [hd] using this
            · simp [hd]
        cases hany : l.any fun d => decide (apart d c = 1) with
        | false =>
          simp (disch := omega) only [hz.2, hany, ↓SXd, SXu, slBounds, ↓sop, ↓aop, ↓reduceIte, LV.cells, AOp.dst, LV.I, LV.B, LV.U, LV.S, LV.nil, Nat.reduceEqDiff, Nat.reduceAdd, Nat.reduceMul, Nat.reduceSub, Nat.reduceLeDiff, Nat.reduceBEq, Nat.reduceDiv, Nat.reduceMod, Int.reduceToNat, Int.reduceLT, Int.reduceLE, Int.reduceAdd, Int.reduceSub, Int.reduceMul, Int.reduceEq, Int.reduceNeg, reduceCtorEq, resV, resAll, ARes.ev, LV.flat, ite_true, ite_false, exists_eq_left', exists_eq_left, keyOf, implies_true, fillC, capOf]
          exact cmp_drop rfl
        | true =>
          have hz' : ¬ (bs x y z (fun d => decide (apart c d = 1) && decide (d ∈ l)) = 0#64) := fun e => by rw [hz.1 e] at hany; cases hany
          simp (disch := omega) only [hz', ↓SXd, SXu, slBounds, ↓sop, ↓aop, ↓reduceIte, LV.cells, AOp.dst, LV.I, LV.B, LV.U, LV.S, LV.nil, Nat.reduceEqDiff, Nat.reduceAdd, Nat.reduceMul, Nat.reduceSub, Nat.reduceLeDiff, Nat.reduceBEq, Nat.reduceDiv, Nat.reduceMod, Int.reduceToNat, Int.reduceLT, Int.reduceLE, Int.reduceAdd, Int.reduceSub, Int.reduceMul, Int.reduceEq, Int.reduceNeg, reduceCtorEq, resV, resAll, ARes.ev, LV.flat, ite_true, ite_false, exists_eq_left', exists_eq_left, keyOf, implies_true, fillC, capOf]
          exact cmp_drop rfl
  · simp (disch := omega) only [hcm, Bool.false_and, ↓SXd, SXu, slBounds, ↓sop, ↓aop, ↓reduceIte, LV.cells, AOp.dst, LV.I, LV.B, LV.U, LV.S, LV.nil, Nat.reduceEqDiff, Nat.reduceAdd, Nat.reduceMul, Nat.reduceSub, Nat.reduceLeDiff, Nat.reduceBEq, Nat.reduceDiv, Nat.reduceMod, Int.reduceToNat, Int.reduceLT, Int.reduceLE, Int.reduceAdd, Int.reduceSub, Int.reduceMul, Int.reduceEq, Int.reduceNeg, reduceCtorEq, resV, resAll, ARes.ev, LV.flat, ite_true, ite_false, exists_eq_left', exists_eq_left, keyOf, implies_true, fillC, capOf]
    exact cmp_drop rfl

theorem g_LayingOrder0 {x y z : Int} {t o : Nat} {cs : List Cell} {M : Mem} (h : Tri M t o cs) (hn : cs.length ≤ 1000000000) :
    CallsR PG F.impl_LayingOrder [.agg [.I x, .I y, .I z, .ref t o cs.length]] M (CellsRes M (layOf x y z cs)) := by
  refine callsR_run K.impl_LayingOrder rfl ?_
  simp (disch := omega) only [C.impl_LayingOrder, ↓SXd, SXu, slBounds, ↓sop, ↓aop, ↓reduceIte, LV.cells, AOp.dst, LV.I, LV.B, LV.U, LV.S, LV.nil, Nat.reduceEqDiff, Nat.reduceAdd, Nat.reduceMul, Nat.reduceSub, Nat.reduceLeDiff, Nat.reduceBEq, Nat.reduceDiv, Nat.reduceMod, Int.reduceToNat, Int.reduceLT, Int.reduceLE, Int.reduceAdd, Int.reduceSub, Int.reduceMul, Int.reduceEq, Int.reduceNeg, reduceCtorEq, resV, resAll, ARes.ev, LV.flat, ite_true, ite_false, exists_eq_left', exists_eq_left, keyOf, implies_true, fillC, capOf]
  refine callK_of (g_isStanding h.app hn) ?_
  simp (disch := omega) only [↓SXd, SXu, slBounds, ↓sop, ↓aop, ↓reduceIte, LV.cells, AOp.dst, LV.I, LV.B, LV.U, LV.S, LV.nil, Nat.reduceEqDiff, Nat.reduceAdd, Nat.reduceMul, Nat.reduceSub, Nat.reduceLeDiff, Nat.reduceBEq, Nat.reduceDiv, Nat.reduceMod, Int.reduceToNat, Int.reduceLT, Int.reduceLE, Int.reduceAdd, Int.reduceSub, Int.reduceMul, Int.reduceEq, Int.reduceNeg, reduceCtorEq, resV, resAll, ARes.ev, LV.flat, ite_true, ite_false, exists_eq_left', exists_eq_left, keyOf, implies_true, fillC, capOf]
  unfold layOf
  by_cases hV : HeapOK x y z cs ∧ Firm x y z (fun c => decide (c ∈ cs))
  · obtain ⟨hH, hF⟩ := id hV
    have hS := hH.1
    have hin := fun c hc => hH.mem (c := c) hc
    have hpk := hH.pick
    have hlen := hH.len
    have hlo := fun k hk => lay_ok hS hF k hk
    rw [← hpk] at hlo
    rw [if_pos hV]
    simp (disch := omega) only [hV, ↓SXd, SXu, slBounds, ↓sop, ↓aop, ↓reduceIte, LV.cells, AOp.dst, LV.I, LV.B, LV.U, LV.S, LV.nil, Nat.reduceEqDiff, Nat.reduceAdd, Nat.reduceMul, Nat.reduceSub, Nat.reduceLeDiff, Nat.reduceBEq, Nat.reduceDiv, Nat.reduceMod, Int.reduceToNat, Int.reduceLT, Int.reduceLE, Int.reduceAdd, Int.reduceSub, Int.reduceMul, Int.reduceEq, Int.reduceNeg, reduceCtorEq, resV, resAll, ARes.ev, LV.flat, ite_true, ite_false, exists_eq_left', exists_eq_left, keyOf, implies_true, fillC, capOf]
    refine callK_of (g_box) ?_
    simp (disch := omega) only [splice, ↓SXd, SXu, slBounds, ↓sop, ↓aop, ↓reduceIte, LV.cells, AOp.dst, LV.I, LV.B, LV.U, LV.S, LV.nil, Nat.reduceEqDiff, Nat.reduceAdd, Nat.reduceMul, Nat.reduceSub, Nat.reduceLeDiff, Nat.reduceBEq, Nat.reduceDiv, Nat.reduceMod, Int.reduceToNat, Int.reduceLT, Int.reduceLE, Int.reduceAdd, Int.reduceSub, Int.reduceMul, Int.reduceEq, Int.reduceNeg, reduceCtorEq, resV, resAll, ARes.ev, LV.flat, ite_true, ite_false, exists_eq_left', exists_eq_left, keyOf, implies_true, fillC, capOf]
    refine ev_loop (fun m fr M' => ∃ (k u : Nat), k + m = cs.length ∧ Pre M M' ∧ Live M' M.length (.row [.I x, .I y, .I z, .ref t o cs.length] true 0) ∧ Live M' (M.length + 2) (.row [.I x, .I y, .I z] true 0) ∧ Live M' (M.length + 3) (.row [.W (bs x y z fun c => decide (c ∈ layL x y z (fun c => decide (c ∈ cs)) k))] true 0) ∧
      M.length ≤ u ∧ Live M' u (.row (triL (layL x y z (fun c => decide (c ∈ cs)) k)) true 3) ∧ fr 1 = .ptr M.length 0 ∧ fr 4 = .ref u 0 (layL x y z (fun c => decide (c ∈ cs)) k).length ∧ fr 5 = .ptr (M.length + 2) 0 ∧ fr 6 = .ptr (M.length + 3) 0) cs.length
      ⟨0, M.length + 1, by omega, Pre.app _ _, Live.new, Live.newj rfl, ?_, by omega, Live.newj rfl, rfl, rfl, rfl, rfl⟩ ?_
    · rw [show (bs x y z fun c => decide (c ∈ layL x y z (fun c => decide (c ∈ cs)) 0)) = 0#64 from (bs_zero hS).2 fun c _ => by simp [layL]]
      exact Live.newj rfl
    rintro m fr M' ⟨k, u, hk, hpre, b1, b5, b6, hu, hout, f1, f4, f5, f6⟩
    obtain ⟨l1, l2, l3, l4⟩ := hlo k (by omega)
    simp (disch := omega) only [f1, f4, f5, f6, b6.cell, b1.cells, ↓SXd, SXu, slBounds, ↓sop, ↓aop, ↓reduceIte, LV.cells, AOp.dst, LV.I, LV.B, LV.U, LV.S, LV.nil, Nat.reduceEqDiff, Nat.reduceAdd, Nat.reduceMul, Nat.reduceSub, Nat.reduceLeDiff, Nat.reduceBEq, Nat.reduceDiv, Nat.reduceMod, Int.reduceToNat, Int.reduceLT, Int.reduceLE, Int.reduceAdd, Int.reduceSub, Int.reduceMul, Int.reduceEq, Int.reduceNeg, reduceCtorEq, resV, resAll, ARes.ev, LV.flat, ite_true, ite_false, exists_eq_left', exists_eq_left, keyOf, implies_true, fillC, capOf]
    refine callK_of (g_cubes (h.pre hpre) hn hS hin) ?_
    simp (disch := omega) only [f1, f4, f5, f6, ↓SXd, SXu, slBounds, ↓sop, ↓aop, ↓reduceIte, LV.cells, AOp.dst, LV.I, LV.B, LV.U, LV.S, LV.nil, Nat.reduceEqDiff, Nat.reduceAdd, Nat.reduceMul, Nat.reduceSub, Nat.reduceLeDiff, Nat.reduceBEq, Nat.reduceDiv, Nat.reduceMod, Int.reduceToNat, Int.reduceLT, Int.reduceLE, Int.reduceAdd, Int.reduceSub, Int.reduceMul, Int.reduceEq, Int.reduceNeg, reduceCtorEq, resV, resAll, ARes.ev, LV.flat, ite_true, ite_false, exists_eq_left', exists_eq_left, keyOf, implies_true, fillC, capOf]
    by_cases hkn : k < cs.length
    · have hne : ¬ ((bs x y z fun c => decide (c ∈ layL x y z (fun c => decide (c ∈ cs)) k)) = bs x y z fun c => decide (c ∈ cs)) := fun e => by
        have := nodup_sub (l := cs) (m := layL x y z (fun c => decide (c ∈ cs)) k) hH.nodup fun c hc => by
          have := (bs_eq hS).1 e c (hin c hc)
          simpa [hc] using this
        omega
      simp (disch := omega) only [f1, f4, f5, f6, hne, b5.cells, ↓SXd, SXu, slBounds, ↓sop, ↓aop, ↓reduceIte, LV.cells, AOp.dst, LV.I, LV.B, LV.U, LV.S, LV.nil, Nat.reduceEqDiff, Nat.reduceAdd, Nat.reduceMul, Nat.reduceSub, Nat.reduceLeDiff, Nat.reduceBEq, Nat.reduceDiv, Nat.reduceMod, Int.reduceToNat, Int.reduceLT, Int.reduceLE, Int.reduceAdd, Int.reduceSub, Int.reduceMul, Int.reduceEq, Int.reduceNeg, reduceCtorEq, resV, resAll, ARes.ev, LV.flat, ite_true, ite_false, exists_eq_left', exists_eq_left, keyOf, implies_true, fillC, capOf]
      refine callK_of (g_those hS (p := layC (fun c => decide (c ∈ cs)) (layL x y z (fun c => decide (c ∈ cs)) k)) (f := F.impl_LayingOrder_1) (caps := [(M.length, 0), (M.length + 3, 0), (M.length + 2, 0)]) fun N hp i hi => ?_) ?_
      · have hv := vol_cast hS
        have d1 := b1.pre hp
        have d5 := b5.pre hp
        have d6 := b6.pre hp
        exact g_LayingOrder_1 ((h.pre hpre).pre hp) hn hS hin (cellAt_in hS (by omega) (by omega)).1 (by rw [d1.cells]; rfl) (by rw [d6.cell]; rfl) (by rw [d5.cells]; rfl) d1.lt d6.lt d5.lt fun d hd => (l3 d hd).1
      obtain ⟨s1, s2, s3, rs, s4⟩ := first_spec hS (l4 hkn)
      have hlow := first_low hS (l4 hkn)
      have hlay : layL x y z (fun c => decide (c ∈ cs)) (k + 1) = layL x y z (fun c => decide (c ∈ cs)) k ++ [first x y z (layC (fun c => decide (c ∈ cs)) (layL x y z (fun c => decide (c ∈ cs)) k))] := rfl
      generalize hfc : first x y z (layC (fun c => decide (c ∈ cs)) (layL x y z (fun c => decide (c ∈ cs)) k)) = fc at s1 s2 s3 s4 hlow hlay
      simp (disch := omega) only [f1, f4, f5, f6, b6.cell, ↓SXd, SXu, slBounds, ↓sop, ↓aop, ↓reduceIte, LV.cells, AOp.dst, LV.I, LV.B, LV.U, LV.S, LV.nil, Nat.reduceEqDiff, Nat.reduceAdd, Nat.reduceMul, Nat.reduceSub, Nat.reduceLeDiff, Nat.reduceBEq, Nat.reduceDiv, Nat.reduceMod, Int.reduceToNat, Int.reduceLT, Int.reduceLE, Int.reduceAdd, Int.reduceSub, Int.reduceMul, Int.reduceEq, Int.reduceNeg, reduceCtorEq, resV, resAll, ARes.ev, LV.flat, ite_true, ite_false, exists_eq_left', exists_eq_left, keyOf, implies_true, fillC, capOf]
      rw [hlow, bs_or hS, show (bs x y z fun c => decide (c ∈ layL x y z (fun c => decide (c ∈ cs)) k) || decide (c = fc)) = bs x y z fun c => decide (c ∈ layL x y z (fun c => decide (c ∈ cs)) (k + 1)) from (bs_eq hS).2 fun c _ => by rw [hlay]; simp only [List.mem_append, List.mem_singleton, Bool.decide_or]]
      refine memK_box b6 (by simp) fun N1 k1 k2 k3 => ?_
      have e1 := live_step b1 (by omega) k3
      have e5 := live_step b5 (by omega) k3
      have eo := live_step hout (hout.ne_esz b6 (by decide)) k3
      have hlM := b6.lt
      simp (disch := omega) only [f1, f4, f5, f6, e5.cells, ↓SXd, SXu, slBounds, ↓sop, ↓aop, ↓reduceIte, LV.cells, AOp.dst, LV.I, LV.B, LV.U, LV.S, LV.nil, Nat.reduceEqDiff, Nat.reduceAdd, Nat.reduceMul, Nat.reduceSub, Nat.reduceLeDiff, Nat.reduceBEq, Nat.reduceDiv, Nat.reduceMod, Int.reduceToNat, Int.reduceLT, Int.reduceLE, Int.reduceAdd, Int.reduceSub, Int.reduceMul, Int.reduceEq, Int.reduceNeg, reduceCtorEq, resV, resAll, ARes.ev, LV.flat, ite_true, ite_false, exists_eq_left', exists_eq_left, keyOf, implies_true, fillC, capOf]
      refine callN_of (g_list hS) ?_
      intro tn N2 htn hp2 hnr
      simp (disch := omega) only [f1, f4, f5, f6, ↓SXd, SXu, slBounds, ↓sop, ↓aop, ↓reduceIte, LV.cells, AOp.dst, LV.I, LV.B, LV.U, LV.S, LV.nil, Nat.reduceEqDiff, Nat.reduceAdd, Nat.reduceMul, Nat.reduceSub, Nat.reduceLeDiff, Nat.reduceBEq, Nat.reduceDiv, Nat.reduceMod, Int.reduceToNat, Int.reduceLT, Int.reduceLE, Int.reduceAdd, Int.reduceSub, Int.reduceMul, Int.reduceEq, Int.reduceNeg, reduceCtorEq, resV, resAll, ARes.ev, LV.flat, ite_true, ite_false, exists_eq_left', exists_eq_left, keyOf, implies_true, fillC, capOf]
      have hpl : 0 < (pick x y z (layC (fun c => decide (c ∈ cs)) (layL x y z (fun c => decide (c ∈ cs)) k))).length := by rw [s4]; simp
      have hg := hnr.tri0 hpl
      rw [s4, List.getD_cons_zero, Nat.zero_mul] at hg
      simp (disch := omega) only [f1, f4, f5, f6, hg, Cell.row, splice, ↓SXd, SXu, slBounds, ↓sop, ↓aop, ↓reduceIte, LV.cells, AOp.dst, LV.I, LV.B, LV.U, LV.S, LV.nil, Nat.reduceEqDiff, Nat.reduceAdd, Nat.reduceMul, Nat.reduceSub, Nat.reduceLeDiff, Nat.reduceBEq, Nat.reduceDiv, Nat.reduceMod, Int.reduceToNat, Int.reduceLT, Int.reduceLE, Int.reduceAdd, Int.reduceSub, Int.reduceMul, Int.reduceEq, Int.reduceNeg, reduceCtorEq, resV, resAll, ARes.ev, LV.flat, ite_true, ite_false, exists_eq_left', exists_eq_left, keyOf, implies_true, fillC, capOf]
      have hlay1 : (layL x y z (fun c => decide (c ∈ cs)) k).length = k := l1
      have eo2 := eo.pre hp2
      refine appendK_cell eo2 (by omega) fun N3 j1 j2 j3 => ?_
      have hN2 := hp2.1
      rw [cell_eta, ← hlay] at j2
      simp (disch := omega) only [f1, f4, f5, f6, ↓SXd, SXu, slBounds, ↓sop, ↓aop, ↓reduceIte, LV.cells, AOp.dst, LV.I, LV.B, LV.U, LV.S, LV.nil, Nat.reduceEqDiff, Nat.reduceAdd, Nat.reduceMul, Nat.reduceSub, Nat.reduceLeDiff, Nat.reduceBEq, Nat.reduceDiv, Nat.reduceMod, Int.reduceToNat, Int.reduceLT, Int.reduceLE, Int.reduceAdd, Int.reduceSub, Int.reduceMul, Int.reduceEq, Int.reduceNeg, reduceCtorEq, resV, resAll, ARes.ev, LV.flat, ite_true, ite_false, exists_eq_left', exists_eq_left, keyOf, implies_true, fillC, capOf]
      refine ⟨m - 1, by omega, k + 1, N2.length + 1, by omega, pre_step ((pre_step hpre (by omega) (j := 0) k1 k3).trans hp2) (by omega) j1 j3, live_step (e1.pre hp2) (e1.ne_esz eo (by decide)) j3, live_step (e5.pre hp2) (e5.ne_esz eo (by decide)) j3, live_step (k2.pre hp2) (k2.ne_esz eo (by decide)) j3, ?_, j2, f1, ?_, f5, f6⟩
      · have := hpre.1; omega
      · rw [hlay]; rfl
    · have hkn' : k = cs.length := by omega
      subst hkn'
      have heq : (bs x y z fun c => decide (c ∈ layL x y z (fun c => decide (c ∈ cs)) cs.length)) = bs x y z fun c => decide (c ∈ cs) := (bs_eq hS).2 fun c hc => by
        refine decide_eq_decide.2 ⟨fun hm => of_decide_eq_true (l3 c hm).2, fun hm => ?_⟩
        apply Classical.byContradiction
        intro hno
        have := nodup_sub (l := c :: layL x y z (fun c => decide (c ∈ cs)) cs.length) (m := cs) (by rw [List.nodup_cons]; exact ⟨hno, l2⟩) fun d hd => by
          rcases List.mem_cons.1 hd with rfl | hd
          · exact hm
          · exact of_decide_eq_true (l3 d hd).2
        simp only [List.length_cons] at this
        omega
      simp (disch := omega) only [f1, f4, f5, f6, heq, ↓SXd, SXu, slBounds, ↓sop, ↓aop, ↓reduceIte, LV.cells, AOp.dst, LV.I, LV.B, LV.U, LV.S, LV.nil, Nat.reduceEqDiff, Nat.reduceAdd, Nat.reduceMul, Nat.reduceSub, Nat.reduceLeDiff, Nat.reduceBEq, Nat.reduceDiv, Nat.reduceMod, Int.reduceToNat, Int.reduceLT, Int.reduceLE, Int.reduceAdd, Int.reduceSub, Int.reduceMul, Int.reduceEq, Int.reduceNeg, reduceCtorEq, resV, resAll, ARes.ev, LV.flat, ite_true, ite_false, exists_eq_left', exists_eq_left, keyOf, implies_true, fillC, capOf]
      exact ⟨_, rfl, SlC.of hout, Newer.of hu, hpre⟩
  · rw [if_neg hV]
    simp (disch := omega) only [hV, ↓SXd, SXu, slBounds, ↓sop, ↓aop, ↓reduceIte, LV.cells, AOp.dst, LV.I, LV.B, LV.U, LV.S, LV.nil, Nat.reduceEqDiff, Nat.reduceAdd, Nat.reduceMul, Nat.reduceSub, Nat.reduceLeDiff, Nat.reduceBEq, Nat.reduceDiv, Nat.reduceMod, Int.reduceToNat, Int.reduceLT, Int.reduceLE, Int.reduceAdd, Int.reduceSub, Int.reduceMul, Int.reduceEq, Int.reduceNeg, reduceCtorEq, resV, resAll, ARes.ev, LV.flat, ite_true, ite_false, exists_eq_left', exists_eq_left, keyOf, implies_true, fillC, capOf]
    exact ⟨_, rfl, SlC.nil, Newer.nil, Pre.app _ _⟩
theorem g_LayingOrder {x y z : Int} {t : Nat} {w : Bool} {cs : List Cell} {M : Mem} (h : Live M t (.row (triL cs) w 3)) (hn : cs.length ≤ 1000000000) :
    CallsR PG F.impl_LayingOrder [.agg [.I x, .I y, .I z, .ref t 0 cs.length]] M (CellsRes M (layOf x y z cs)) := g_LayingOrder0 h.has hn
end Go.Ab

/- Plain words: taking orders and their number. -/
namespace Go.Ab
open Go
set_option linter.unusedSimpArgs false
set_option linter.unusedVariables false

noncomputable def stdB (x y z : Int) (cs : List Cell) : Bool := @decide (HeapOK x y z cs ∧ Firm x y z fun c => decide (c ∈ cs)) (Classical.propDecidable _)
theorem stdB_iff {x y z : Int} {cs : List Cell} : stdB x y z cs = true ↔ HeapOK x y z cs ∧ Firm x y z fun c => decide (c ∈ cs) := @decide_eq_true_iff _ (Classical.propDecidable _)

/-- In how many orders the n cells of a set can be taken. -/
noncomputable def tkN (x y z : Int) : Nat → (Cell → Bool) → Nat
  | 0, _ => 1
  | n + 1, p => ((pick x y z (canTake x y z p)).map fun c => tkN x y z n fun d => p d && !decide (d = c)).sum
def facN : Nat → Nat
  | 0 => 1
  | n + 1 => (n + 1) * facN n
theorem sum_le {l : List Cell} {f : Cell → Nat} {b : Nat} (h : ∀ c ∈ l, f c ≤ b) : (l.map f).sum ≤ l.length * b := by
  induction l with
  | nil => simp
  | cons c l ih =>
    have h1 := h c (by simp)
    have h2 := ih fun d hd => h d (by simp [hd])
    simp only [List.map_cons, List.sum_cons, List.length_cons, Nat.add_mul, Nat.one_mul]
    omega
theorem sum_ge {l : List Cell} {f : Cell → Nat} {c : Cell} (hc : c ∈ l) : f c ≤ (l.map f).sum := by
  induction l with
  | nil => simp at hc
  | cons d l ih =>
    simp only [List.map_cons, List.sum_cons]
    rcases List.mem_cons.1 hc with rfl | hc
    · omega
    · have := ih hc; omega

section
variable {x y z : Int} (hS : Sides x y z)
include hS
theorem canTake_congr {p q : Cell → Bool} (h : ∀ c, c.inBox x y z → p c = q c) {c : Cell} (hc : c.inBox x y z) : canTake x y z p c = canTake x y z q c := by
  unfold canTake
  rw [h c hc, Bool.eq_iff_iff, Bool.and_eq_true, Bool.and_eq_true, decide_eq_true_iff, decide_eq_true_iff, firm_congr fun d hd => by rw [h d hd]]
theorem tkN_congr : ∀ {n : Nat} {p q : Cell → Bool}, (∀ c, c.inBox x y z → p c = q c) → tkN x y z n p = tkN x y z n q
  | 0, _, _, _ => rfl
  | n + 1, p, q, h => by
    unfold tkN
    rw [pick_congr hS fun c hc => canTake_congr hS h hc]
    congr 1
    refine List.map_congr_left fun c _ => tkN_congr fun d hd => by rw [h d hd]
theorem pick_less {p : Cell → Bool} {c : Cell} (hc : c.inBox x y z) (hp : p c = true) : (pick x y z fun d => p d && !decide (d = c)).length + 1 = (pick x y z p).length := by
  have e : (pick x y z p).filter (fun d => !decide (d = c)) = pick x y z fun d => p d && !decide (d = c) := filter_pick ..
  rw [← e]
  have hm := (mem_pick hS).2 ⟨hc, hp⟩
  have hn := (pick_ok hS p).nodup
  generalize pick x y z p = l at hm hn
  induction l with
  | nil => simp at hm
  | cons d l ih =>
    obtain ⟨h1, h2⟩ := List.nodup_cons.1 hn
    by_cases hd : d = c
    · subst hd
      rw [List.filter_cons_of_neg (by simp), List.filter_eq_self.2 fun a ha => by
        simp only [Bool.not_eq_true', decide_eq_false_iff_not]
        exact fun e => h1 (e ▸ ha)]
      simp
    · rw [List.filter_cons_of_pos (by simp [hd]), List.length_cons, List.length_cons, ih ((List.mem_cons.1 hm).resolve_left fun e => hd e.symm) h2]
theorem tkN_le : ∀ {n : Nat} {p : Cell → Bool}, (pick x y z p).length = n → tkN x y z n p ≤ facN n
  | 0, _, _ => Nat.le_refl _
  | n + 1, p, h => by
    unfold tkN facN
    refine Nat.le_trans (sum_le (b := facN n) fun c hc => ?_) (Nat.mul_le_mul_right _ ?_)
    · obtain ⟨h1, h2⟩ := (mem_pick hS).1 hc
      have := pick_less hS h1 (canTake_sub h2)
      exact tkN_le (by omega)
    · rw [← h]
      exact nodup_sub (pick_ok hS _).nodup fun c hc => by
        obtain ⟨h1, h2⟩ := (mem_pick hS).1 hc
        exact (mem_pick hS).2 ⟨h1, canTake_sub h2⟩
theorem tkN_pos : ∀ {n : Nat} {p : Cell → Bool}, Firm x y z p → (pick x y z p).length = n → 1 ≤ tkN x y z n p
  | 0, _, _, _ => Nat.le_refl _
  | n + 1, p, hf, h => by
    obtain ⟨d, hd⟩ : ∃ d, d ∈ pick x y z p := by
      cases hh : pick x y z p with
      | nil => rw [hh] at h; simp at h
      | cons d l => exact ⟨d, by simp⟩
    obtain ⟨c, h1, h2⟩ := take_more hS hf ⟨d, (mem_pick hS).1 hd⟩
    have h3 := pick_less hS h1 (canTake_sub h2)
    have hfc : Firm x y z fun d => p d && !decide (d = c) := by
      unfold canTake at h2
      rw [Bool.and_eq_true, decide_eq_true_iff] at h2
      exact h2.2
    have h4 := tkN_pos (n := n) hfc (by omega)
    unfold tkN
    exact Nat.le_trans h4 (sum_ge (f := fun c => tkN x y z n fun d => p d && !decide (d = c)) ((mem_pick hS).2 ⟨h1, h2⟩))

/-- Whether a list takes all cells, each one when it can be taken. -/
noncomputable def tkOrd (x y z : Int) : List Cell → List Cell → Bool
  | cs, [] => decide (cs = [])
  | cs, c :: l => canTake x y z (fun d => decide (d ∈ cs)) c && tkOrd x y z (cs.filter fun d => !decide (d = c)) l
theorem ord_of : ∀ {l cs : List Cell}, (∀ c ∈ cs, c.inBox x y z) → (∀ k, k < l.length → canTake x y z (fun d => decide (d ∈ cs) && !decide (d ∈ l.take k)) (l.getD k default) = true) → (∀ d ∈ cs, d ∈ l) → tkOrd x y z cs l = true
  | [], cs, _, _, h => by
    unfold tkOrd
    rw [decide_eq_true_iff]
    cases cs with
    | nil => rfl
    | cons d cs => have := h d (by simp); simp at this
  | c :: l, cs, hin, hk, h => by
    unfold tkOrd
    have h0 := hk 0 (by simp)
    simp only [List.take_zero, List.getD_cons_zero, List.not_mem_nil, decide_false, Bool.not_false, Bool.and_true] at h0
    rw [h0, Bool.true_and]
    refine ord_of (fun d hd => hin d (List.mem_filter.1 hd).1) (fun k hkl => ?_) fun d hd => ?_
    · have := hk (k + 1) (by simp; omega)
      rw [List.getD_cons_succ] at this
      rw [← this]
      congr 1
      funext d
      simp only [List.mem_filter, List.take_succ_cons, List.mem_cons, Bool.not_eq_true', decide_eq_false_iff_not]
      rw [Bool.eq_iff_iff]
      simp only [Bool.and_eq_true, decide_eq_true_eq, Bool.not_eq_true', decide_eq_false_iff_not, not_or]
      exact ⟨fun h => ⟨h.1.1, h.1.2, h.2⟩, fun h => ⟨⟨h.1, h.2.1⟩, h.2.2⟩⟩
    · have hd' := List.mem_filter.1 hd
      have h1 := h d hd'.1
      have h2 := hd'.2
      simp only [Bool.not_eq_true', decide_eq_false_iff_not] at h2
      exact (List.mem_cons.1 h1).resolve_left h2
theorem takeL_len {q : Cell → Bool} : ∀ n, (takeL x y z q n).length = n
  | 0 => rfl
  | n + 1 => by unfold takeL; rw [List.length_append, takeL_len n]; rfl
theorem takeL_take {q : Cell → Bool} {k : Nat} : ∀ {n}, k ≤ n → (takeL x y z q n).take k = takeL x y z q k
  | 0, h => by rw [show k = 0 by omega]; rfl
  | n + 1, h => by
    rcases Nat.lt_or_ge k (n + 1) with h1 | h1
    · rw [show takeL x y z q (n + 1) = takeL x y z q n ++ _ from rfl, List.take_append_of_le_length (by rw [takeL_len hS]; omega), takeL_take (by omega)]
    · rw [show k = n + 1 by omega, List.take_of_length_le (by rw [takeL_len hS]; omega)]
theorem takeL_get {q : Cell → Bool} {k n : Nat} (h : k < n) : (takeL x y z q n).getD k default = first x y z (canTake x y z fun d => q d && !decide (d ∈ takeL x y z q k)) := by
  have h1 : ((takeL x y z q n).take (k + 1)).getD k default = (takeL x y z q n).getD k default := by
    simp only [List.getD_eq_getElem?_getD]; rw [List.getElem?_take, if_pos (by omega)]
  rw [← h1, takeL_take hS (by omega), show takeL x y z q (k + 1) = takeL x y z q k ++ [first x y z (canTake x y z fun d => q d && !decide (d ∈ takeL x y z q k))] from rfl]
  simp only [List.getD_eq_getElem?_getD]
  rw [List.getElem?_append_right (by rw [takeL_len hS]; omega), takeL_len hS]
  simp
theorem layL_len {q : Cell → Bool} : ∀ n, (layL x y z q n).length = n
  | 0 => rfl
  | n + 1 => by unfold layL; rw [List.length_append, layL_len n]; rfl
theorem layL_take {q : Cell → Bool} {k : Nat} : ∀ {n}, k ≤ n → (layL x y z q n).take k = layL x y z q k
  | 0, h => by rw [show k = 0 by omega]; rfl
  | n + 1, h => by
    rcases Nat.lt_or_ge k (n + 1) with h1 | h1
    · rw [show layL x y z q (n + 1) = layL x y z q n ++ _ from rfl, List.take_append_of_le_length (by rw [layL_len hS]; omega), layL_take (by omega)]
    · rw [show k = n + 1 by omega, List.take_of_length_le (by rw [layL_len hS]; omega)]
/-- A list of cells of cs, each once, as many as cs has, has them all. -/
theorem cover {cs l : List Cell} (hl : l.Nodup) (hm : ∀ c ∈ l, c ∈ cs) (hn : cs.length ≤ l.length) {d : Cell} (hd : d ∈ cs) : d ∈ l := by
  apply Classical.byContradiction
  intro hno
  have := nodup_sub (l := d :: l) (m := cs) (List.nodup_cons.2 ⟨hno, hl⟩) fun c hc => (List.mem_cons.1 hc).elim (fun e => e ▸ hd) (hm c)
  simp at this
  omega
theorem ord_take {cs : List Cell} (hH : HeapOK x y z cs) (hf : Firm x y z fun c => decide (c ∈ cs)) : tkOrd x y z cs (takeL x y z (fun c => decide (c ∈ cs)) cs.length) = true := by
  have hpk := hH.pick
  have hok := fun k hk => take_ok hS hf k hk
  rw [← hpk] at hok
  refine ord_of hS (fun c hc => hH.mem hc) (fun k hk => ?_) fun d hd => ?_
  · rw [takeL_len hS] at hk
    rw [takeL_take hS (by omega), takeL_get hS hk]
    obtain ⟨_, _, _, _, h5⟩ := hok k (by omega)
    exact (first_spec hS (h5 hk)).2.1
  · obtain ⟨h1, h2, h3, _⟩ := hok cs.length (Nat.le_refl _)
    exact cover hS h2 (fun c hc => of_decide_eq_true (h3 c hc).2) (by omega) hd
theorem ord_lay {cs : List Cell} (hH : HeapOK x y z cs) (hf : Firm x y z fun c => decide (c ∈ cs)) : tkOrd x y z cs (layL x y z (fun c => decide (c ∈ cs)) cs.length).reverse = true := by
  have hpk := hH.pick
  have hok := fun k hk => lay_ok hS hf k hk
  have hst := fun {p} k hk => lay_stand hS hf (p := p) k hk
  rw [← hpk] at hok hst
  obtain ⟨n1, n2, n3, _⟩ := hok cs.length (Nat.le_refl _)
  have hcov : ∀ d ∈ cs, d ∈ layL x y z (fun c => decide (c ∈ cs)) cs.length := fun d hd => cover hS n2 (fun c hc => of_decide_eq_true (n3 c hc).2) (by omega) hd
  refine ord_of hS (fun c hc => hH.mem hc) (fun k hk => ?_) fun d hd => List.mem_reverse.2 (hcov d hd)
  rw [List.length_reverse, n1] at hk
  obtain ⟨m, hm⟩ : ∃ m, cs.length = m + 1 + k := ⟨cs.length - 1 - k, by omega⟩
  have hsplit : layL x y z (fun c => decide (c ∈ cs)) cs.length = layL x y z (fun c => decide (c ∈ cs)) (m + 1) ++ (layL x y z (fun c => decide (c ∈ cs)) cs.length).drop (m + 1) := by
    conv => lhs; rw [← List.take_append_drop (m + 1) (layL x y z (fun c => decide (c ∈ cs)) cs.length)]
    rw [layL_take hS (by omega)]
  generalize hdr : (layL x y z (fun c => decide (c ∈ cs)) cs.length).drop (m + 1) = D at hsplit
  have hDl : D.length = k := by rw [← hdr, List.length_drop, n1]; omega
  rw [show layL x y z (fun c => decide (c ∈ cs)) (m + 1) = layL x y z (fun c => decide (c ∈ cs)) m ++ [first x y z (layC (fun c => decide (c ∈ cs)) (layL x y z (fun c => decide (c ∈ cs)) m))] from rfl] at hsplit
  generalize hc : first x y z (layC (fun c => decide (c ∈ cs)) (layL x y z (fun c => decide (c ∈ cs)) m)) = c at hsplit
  generalize hL : layL x y z (fun c => decide (c ∈ cs)) cs.length = L at *
  have hrev : L.reverse = D.reverse ++ (c :: (layL x y z (fun c => decide (c ∈ cs)) m).reverse) := by rw [hsplit]; simp
  have ht : L.reverse.take k = D.reverse := by
    rw [hrev, List.take_append_of_le_length (by simp; omega), List.take_of_length_le (by simp; omega)]
  have hg : L.reverse.getD k default = c := by
    rw [hrev]
    simp only [List.getD_eq_getElem?_getD]
    rw [List.getElem?_append_right (by simp; omega)]
    simp [hDl]
  rw [ht, hg]
  have hnd := n2
  rw [hsplit, List.append_assoc, List.nodup_append, List.singleton_append, List.nodup_cons] at hnd
  obtain ⟨_, ⟨hcD, _⟩, hdis⟩ := hnd
  have hcL : c ∈ L := by rw [hsplit]; simp
  have hcs : c ∈ cs := of_decide_eq_true (n3 c hcL).2
  unfold canTake
  rw [Bool.and_eq_true, Bool.and_eq_true, decide_eq_true_iff, Bool.not_eq_true', decide_eq_false_iff_not, decide_eq_true_iff]
  refine ⟨⟨hcs, fun h => hcD (List.mem_reverse.1 h)⟩, fun d hd hpd => ?_⟩
  simp only [Bool.and_eq_true, Bool.not_eq_true', decide_eq_false_iff_not, decide_eq_true_eq, List.mem_reverse] at hpd
  have hdm : d ∈ layL x y z (fun c => decide (c ∈ cs)) m := by
    have := hcov d hpd.1.1
    rw [hsplit] at this
    rcases List.mem_append.1 this with h | h
    · rcases List.mem_append.1 h with h | h
      · exact h
      · exact absurd (List.mem_singleton.1 h) hpd.2
    · exact absurd h hpd.1.2
  unfold stand
  rw [reach_iff]
  refine hst m (by omega) (fun e he => ?_) d hdm
  simp only [Bool.and_eq_true, Bool.not_eq_true', decide_eq_false_iff_not, decide_eq_true_eq, List.mem_reverse]
  have heL : e ∈ L := by rw [hsplit]; simp [he]
  exact ⟨⟨of_decide_eq_true (n3 e heL).2, fun h => hdis e he e (by simp [h]) rfl⟩, fun e' => hdis e he c (by simp) e'⟩
end
/-- The cubes that cannot be taken. -/
noncomputable def keyL (x y z : Int) (cs : List Cell) : List Cell := pick x y z fun d => decide (d ∈ cs) && !canTake x y z (fun d => decide (d ∈ cs)) d
noncomputable def keyOf' (x y z : Int) (cs : List Cell) : Option (List Cell) := if stdB x y z cs = true then some (keyL x y z cs) else none
end Go.Ab

/- The abstract code of some functions (written by a program of mine from the translation, by way of prepF). -/
namespace Go.Ab.C
open Go.Ab
def laws_vCells : AFn :=
 ⟨2, 26, [.tmp 4],
 .seq (.ops [(none, .mv 4 (.c (.B false)))])
 (.seq (.seq (.ops [(none, .mv 6 (.t 0)),
 (none, .len 7 (.t 6)),
 (none, .mv 8 (.t 1)),
 (none, .len 9 (.t 8)),
 (none, .bin 10 .neq (.t 7) (.t 9))])
 (.cond (.t 10) (.seq (.ops [(none, .mv 4 (.c (.B false)))])
 (.ret))
 (.skip)))
 (.seq (.seq (.ops [(none, .mv 5 (.c (.I 0)))])
 (.block 0 (.loop (.seq (.seq (.ops [(none, .mv 11 (.t 5)),
 (none, .mv 12 (.t 0)),
 (none, .len 13 (.t 12)),
 (none, .bin 14 .lss (.t 11) (.t 13))])
 (.cond (.t 14) (.skip)
 (.exit 0)))
 (.seq (.block 1 (.seq (.draw [⟨(none, .mv 17 (.t 0)), [], []⟩,
 ⟨(none, .mv 18 (.t 5)), [], []⟩,
 ⟨(none, .idxS 19 3 (.t 17) (.t 18)), [], []⟩,
 ⟨(none, .loadN 20 3 (.t 19)), [], []⟩,
 ⟨(none, .mv 21 (.t 1)), [], []⟩,
 ⟨(none, .mv 22 (.t 5)), [], []⟩,
 ⟨(none, .idxS 23 3 (.t 21) (.t 22)), [], []⟩,
 ⟨(none, .loadN 24 3 (.t 23)), [], []⟩,
 ⟨(none, .eqs 25 true 3 (.t 20) (.t 24)), [], []⟩])
 (.cond (.t 25) (.seq (.ops [(none, .mv 4 (.c (.B false)))])
 (.ret))
 (.skip))))
 (.ops [(none, .mv 15 (.t 5)),
 (none, .bin 16 .add (.t 15) (.c (.I 1))),
 (none, .mv 5 (.t 16))]))))))
 (.seq (.ops [(none, .mv 4 (.c (.B true)))])
 (.ret))))⟩
def laws_vIn : AFn :=
 ⟨2, 18, [.tmp 4],
 .seq (.ops [(none, .box 3 (.t 1)),
 (none, .mv 4 (.c (.B false)))])
 (.seq (.seq (.ops [(none, .mv 5 (.c (.I 0)))])
 (.block 0 (.loop (.seq (.seq (.ops [(none, .mv 6 (.t 5)),
 (none, .mv 7 (.t 0)),
 (none, .len 8 (.t 7)),
 (none, .bin 9 .lss (.t 6) (.t 8))])
 (.cond (.t 9) (.skip)
 (.exit 0)))
 (.seq (.block 1 (.seq (.draw [⟨(none, .mv 12 (.t 0)), [], []⟩,
 ⟨(none, .mv 13 (.t 5)), [], []⟩,
 ⟨(none, .idxS 14 3 (.t 12) (.t 13)), [], []⟩,
 ⟨(none, .loadN 15 3 (.t 14)), [], []⟩,
 ⟨(none, .loadN 16 3 (.t 3)), [], []⟩,
 ⟨(none, .eqs 17 false 3 (.t 15) (.t 16)), [], []⟩])
 (.cond (.t 17) (.seq (.ops [(none, .mv 4 (.c (.B true)))])
 (.ret))
 (.skip))))
 (.ops [(none, .mv 10 (.t 5)),
 (none, .bin 11 .add (.t 10) (.c (.I 1))),
 (none, .mv 5 (.t 11))]))))))
 (.seq (.ops [(none, .mv 4 (.c (.B false)))])
 (.ret)))⟩
end Go.Ab.C

/- That the program has this code. -/
namespace Go.Ab.K
open Go Go.Ab
theorem laws_vCells : prepF Go.Proofs.Try.prog F.laws_vCells = some C.laws_vCells := by kernel_rfl
theorem laws_vIn : prepF Go.Proofs.Try.prog F.laws_vIn = some C.laws_vIn := by kernel_rfl
end Go.Ab.K

/- The abstract code of some functions (written by a program of mine from the translation, by way of prepF). -/
namespace Go.Ab.C
open Go.Ab
end Go.Ab.C

/- That the program has this code. -/
namespace Go.Ab.K
open Go Go.Ab
end Go.Ab.K

/- The abstract code of some functions (written by a program of mine from the translation, by way of prepF). -/
namespace Go.Ab.C
open Go.Ab
end Go.Ab.C

/- That the program has this code. -/
namespace Go.Ab.K
open Go Go.Ab
end Go.Ab.K

/- The abstract code of some functions (written by a program of mine from the translation, by way of prepF). -/
namespace Go.Ab.C
open Go.Ab
end Go.Ab.C

/- That the program has this code. -/
namespace Go.Ab.K
open Go Go.Ab
end Go.Ab.K

/- The abstract code of some functions (written by a program of mine from the translation, by way of prepF). -/
namespace Go.Ab.C
open Go.Ab
end Go.Ab.C

/- That the program has this code. -/
namespace Go.Ab.K
open Go Go.Ab
end Go.Ab.K

/- The abstract code of some functions (written by a program of mine from the translation, by way of prepF). -/
namespace Go.Ab.C
open Go.Ab
end Go.Ab.C

/- That the program has this code. -/
namespace Go.Ab.K
open Go Go.Ab
end Go.Ab.K

/- The abstract code of some functions (written by a program of mine from the translation, by way of prepF). -/
namespace Go.Ab.C
open Go.Ab
end Go.Ab.C

/- That the program has this code. -/
namespace Go.Ab.K
open Go Go.Ab
end Go.Ab.K

/- Contracts: the laws' helpers on lists of pairs of numbers. -/
namespace Go.Ab
open Go
set_option linter.unusedSimpArgs false
set_option linter.unusedVariables false
set_option maxRecDepth 20000

/-- A list of n pairs, number by number, that is one's own. -/
def SlF (N : Mem) (v : LV) (n : Nat) (Z : List Int) : Prop := Z.length = n * 2 ∧ ((v = .nil ∧ n = 0) ∨ ∃ t, v = .ref t 0 n ∧ Live N t (.row (intL Z) true 2))
theorem SlF.pre {M N : Mem} {v : LV} {n : Nat} {Z : List Int} (h : SlF M v n Z) (hp : Pre M N) : SlF N v n Z := by
  obtain ⟨h0, h | ⟨t, h1, h2⟩⟩ := h
  · exact ⟨h0, .inl h⟩
  · exact ⟨h0, .inr ⟨t, h1, h2.pre hp⟩⟩
theorem SlF.lenV {N : Mem} {v : LV} {n : Nat} {Z : List Int} (h : SlF N v n Z) : lenV v = some (n : Int) := by
  obtain ⟨h0, ⟨rfl, rfl⟩ | ⟨t, rfl, h2⟩⟩ := h <;> rfl
theorem SlF.older {M : Mem} {v : LV} {n : Nat} {Z : List Int} (h : SlF M v n Z) : Older M v := fun t o m e => by
  obtain ⟨h0, ⟨rfl, rfl⟩ | ⟨t', rfl, h2⟩⟩ := h
  · cases e
  · cases e; exact h2.lt
theorem SlF.at {M N : Mem} {w : LV} {n : Nat} {Z : List Int} (h : SlF M w n Z) (hk : ∀ t o m, w = .ref t o m → N[t]? = M[t]?) : SlF N w n Z := by
  obtain ⟨h0, h | ⟨t, h1, h2⟩⟩ := h
  · exact ⟨h0, .inl h⟩
  · refine ⟨h0, .inr ⟨t, h1, ?_⟩⟩
    unfold Live; rw [hk _ _ _ h1]; exact h2
end Go.Ab

/- The abstract code of some functions (written by a program of mine from the translation, by way of prepF). -/
namespace Go.Ab.C
open Go.Ab
end Go.Ab.C

/- That the program has this code. -/
namespace Go.Ab.K
open Go Go.Ab
end Go.Ab.K

/- The abstract code of some functions (written by a program of mine from the translation, by way of prepF). -/
namespace Go.Ab.C
open Go.Ab
end Go.Ab.C

/- That the program has this code. -/
namespace Go.Ab.K
open Go Go.Ab
end Go.Ab.K

/- The abstract code of some functions (written by a program of mine from the translation, by way of prepF). -/
namespace Go.Ab.C
open Go.Ab
end Go.Ab.C

/- That the program has this code. -/
namespace Go.Ab.K
open Go Go.Ab
end Go.Ab.K

/- The abstract code of some functions (written by a program of mine from the translation, by way of prepF). -/
namespace Go.Ab.C
open Go.Ab
end Go.Ab.C

/- That the program has this code. -/
namespace Go.Ab.K
open Go Go.Ab
end Go.Ab.K

/- The abstract code of some functions (written by a program of mine from the translation, by way of prepF). -/
namespace Go.Ab.C
open Go.Ab
end Go.Ab.C

/- That the program has this code. -/
namespace Go.Ab.K
open Go Go.Ab
end Go.Ab.K

/- From the abstract machine to a row: a law that is called with what came in. -/
namespace Go.Ab
open Go Go.RowKit

/-- A memory of which nothing is ours. -/
def NoOwn (M : Mem) : Prop := ∀ t b, Live M t b → b.isOwn = false

theorem law_callsR {P : Program} {f : FuncId} {args : List LV} {M : Mem} {b : Bool} {G : Gh} {w : World} {xs : List Value} (hc : CallsR P f args M fun v _ => v = .B b) (hi : Inv G M w) (hn : NoOwn M) (hx : All2 (VR G) args xs) :
    Calls P f xs.toArray w fun e w' => e = .returned (.bool b) ∧ Below w.heap.size w w' := by
  refine (hc.2 G w xs hi hx).mono ?_
  rintro e w' ⟨v, N, x, G', rfl, rfl, h1, h2, h3⟩
  refine ⟨by rw [(vr_val h1).1], h3.os, h3.tape, h3.output, h3.size, fun k hk => h3.keep k hk ?_⟩
  rintro ⟨t, blk, β, hl, ho, _⟩
  rw [hn t blk hl] at ho; cases ho
end Go.Ab

/- A heap that came in, opened. -/
namespace Go.Ab
open Go Go.RowKit

section
variable {H : Type} {enc : TypeId × Value → H} {P : Program} {w : World} {held : Bool}

/-- What the abstract machine is told of a slice of cells that came in. -/
def RowOf (w : World) (a : Option Addr) (len cap : Nat) (cs : List Cell) : Prop :=
  cs.length = len ∧ len ≤ cap ∧ cap ≤ maxLen ∧ (cap = 0 ∨ ∃ b o c e fz, a = some ⟨b, o, none⟩ ∧ w.heap[b]? = some (.cells c e fz) ∧ ∀ i, i < len → ∀ j v, (cs.getD i default).row[j]? = some (.I v) → c[o + (i * 3 + j)]? = some (.int .i64 v))

theorem cell_heap {a : Addr} {v : Value} (h : w.cell? a = some v) : ∃ b o c e fz, a = ⟨b, o, none⟩ ∧ w.heap[b]? = some (.cells c e fz) ∧ c[o]? = some v := by
  unfold World.cell? at h
  split at h
  · rename_i c e fz hh
    split at h
    · cases h
    · rename_i hs
      obtain ⟨b, o, s⟩ := a
      cases s with
      | some s => simp at hs
      | none => exact ⟨b, o, c, e, fz, rfl, hh, h⟩
  · cases h

end

/-- A row that came in is laid into the abstract memory, to be read. -/
theorem Inv.addRow {G : Gh} {M : Mem} {w : World} (hi : Inv G M w) (hno : NoOwn M) {a : Option Addr} {len cap esz : Nat} {ls : List LV} (hl : len ≤ cap) (hll : ls.length ≤ cap * esz)
    (h : (cap = 0 ∧ ls = []) ∨ ∃ b o c e fz, a = some ⟨b, o, none⟩ ∧ w.heap[b]? = some (.cells c e fz) ∧ ∀ j l, ls[j]? = some l → ∃ x, c[o + j]? = some x ∧ VR1 G l x) :
    ∃ G', Ext G G' ∧ Inv G' (M ++ [some (.row ls false esz)]) w ∧ NoOwn (M ++ [some (.row ls false esz)]) ∧ VR1 G' (.ref M.length 0 len) (.slice a len cap) := by
  obtain ⟨β, hβ, hv⟩ : ∃ β : Base, (∀ G' : Gh, Ext G G' → EmbB G' w (.row ls false esz) β) ∧ (∀ G' : Gh, G' M.length = some β → VR1 G' (.ref M.length 0 len) (.slice a len cap)) := by
    rcases h with ⟨rfl, rfl⟩ | ⟨b, o, c, e, fz, rfl, hh, hc⟩
    · refine ⟨⟨0, 0, esz, 0, true⟩, fun G' _ => ⟨rfl, .inl ⟨rfl, rfl⟩⟩, fun G' hg => ⟨_, hg, a, 0, rfl, .inl ⟨by omega, rfl⟩⟩⟩
    · refine ⟨⟨b, o, esz, cap * esz, false⟩, fun G' hx => ⟨rfl, .inr ⟨rfl, c, e, fz, hh, (fun h => by cases h), hll, fun j l hj => ?_⟩⟩, fun G' hg => ⟨_, hg, _, cap, rfl, .inr ⟨rfl, rfl, hl, by simp⟩⟩⟩
      obtain ⟨x, h1, h2⟩ := hc j l hj
      exact ⟨x, h1, h2.ext hx⟩
  have hx : Ext G (G.put M.length β) := Gh.put_ext (hi.top _ (Nat.le_refl _))
  have hat : (G.put M.length β) M.length = some β := by simp [Gh.put]
  have hno' : NoOwn (M ++ [some (.row ls false esz)]) := fun t b hb => by
    rcases live_push hb with ⟨_, h1⟩ | ⟨_, rfl⟩
    · exact hno t b h1
    · rfl
  refine ⟨G.put M.length β, hx, ⟨fun t b hb => ?_, fun t t' b b' γ γ' _ hb _ ho => ?_, fun t ht => ?_⟩, hno', hv _ hat⟩
  · rcases live_push hb with ⟨hlt, h1⟩ | ⟨rfl, rfl⟩
    · obtain ⟨γ, hg, he⟩ := hi.emb t b h1
      exact ⟨γ, hx _ _ hg, he.ext hx fun _ => rfl⟩
    · exact ⟨β, hat, hβ _ hx⟩
  · rw [hno' t b hb] at ho; cases ho
  · simp at ht
    unfold Gh.put
    rw [if_neg (by omega)]
    exact hi.top t (by omega)

theorem Inv.none (w : World) : Inv (fun _ => Option.none) [] w := ⟨fun t b h => by unfold Live at h; simp at h, fun t t' b b' _ _ _ h => by unfold Live at h; simp at h, fun _ _ => rfl⟩
theorem NoOwn.none : NoOwn [] := fun t b h => by unfold Live at h; simp at h

end Go.Ab

/- A list of numbers that came in, opened. -/
namespace Go.Ab
open Go Go.RowKit Go.Joins Go.ChangeShapes Go.WideShapes Go.Deep Go.WideElems Go.Maps

/-- What the abstract machine is told of a slice of numbers that came in. -/
def RowOfI (w : World) (a : Option Addr) (len cap : Nat) (xs : List Int) : Prop :=
  xs.length = len ∧ len ≤ cap ∧ cap ≤ maxLen ∧ (cap = 0 ∨ ∃ b o c e fz, a = some ⟨b, o, none⟩ ∧ w.heap[b]? = some (.cells c e fz) ∧ ∀ i, i < len → c[o + i]? = some (.int .i64 (xs.getD i 0)))

section
variable {H : Type} {enc : TypeId × Value → H} {P : Program} {w : World} {held : Bool}
end

section
variable {H : Type} {enc : TypeId × Value → H} {P : Program} {w : World} {base : Nat} {spare : Nat → Bool} {held : Bool}
end
end Go.Ab

/- A list of lists of cells that came in, opened. -/
namespace Go.Ab
open Go Go.RowKit Go.Joins Go.ChangeShapes Go.WideShapes Go.Deep Go.WideElems Go.Maps
set_option linter.unusedVariables false

/-- Lists of cells in memory, to be read. -/
def Pcs (M : Mem) (t : Nat) (L : List (List Cell)) : Prop := ∃ refs, Has M t 0 refs ∧ refs.length = L.length ∧ ∀ i, i < L.length → ∃ u o, refs[i]? = some (.ref u o (L.getD i []).length) ∧ Tri M u o (L.getD i [])
theorem Pcs.pre {M N : Mem} {t : Nat} {L : List (List Cell)} (h : Pcs M t L) (hp : Pre M N) : Pcs N t L := by
  obtain ⟨refs, h1, h2, h3⟩ := h
  exact ⟨refs, h1.pre hp, h2, fun i hi => by obtain ⟨u, o, a, b⟩ := h3 i hi; exact ⟨u, o, a, b.pre hp⟩⟩
theorem Pcs.app {M K : Mem} {t : Nat} {L : List (List Cell)} (h : Pcs M t L) : Pcs (M ++ K) t L := h.pre (Pre.app _ _)
theorem Pcs.lt {M : Mem} {t : Nat} {L : List (List Cell)} (h : Pcs M t L) : t < M.length := by obtain ⟨refs, h1, _⟩ := h; exact h1.lt
theorem Pcs.get {M : Mem} {t i : Nat} {L : List (List Cell)} (h : Pcs M t L) (hi : i < L.length) : ∃ u o, getCell M t i = some (.ref u o (L.getD i []).length) ∧ Tri M u o (L.getD i []) := by
  obtain ⟨refs, h1, h2, h3⟩ := h
  obtain ⟨u, o, a, b⟩ := h3 i hi
  refine ⟨u, o, ?_, b⟩
  have := h1.get (k := i) (by omega)
  rw [Nat.zero_add] at this
  rw [this, a]

/-- What the abstract machine is told of a slice of slices of cells that came in. -/
def RowOfSS (w : World) (a : Option Addr) (len cap : Nat) (L : List (List Cell)) : Prop :=
  L.length = len ∧ len ≤ cap ∧ cap ≤ maxLen ∧ (cap = 0 ∨ ∃ b o c e fz, a = some ⟨b, o, none⟩ ∧ w.heap[b]? = some (.cells c e fz) ∧ ∀ i, i < len → ∃ a' len' cap', c[o + i]? = some (.slice a' len' cap') ∧ RowOf w a' len' cap' (L.getD i []))
section
variable {H : Type} {enc : TypeId × Value → H} {P : Program} {w : World} {held : Bool}
end
end Go.Ab
namespace Go.Ab
open Go
set_option linter.unusedVariables false
theorem max63 : maxLen ≤ 9223372036854775807 := by unfold maxLen; omega
theorem RowOf.le {w : World} {a : Option Addr} {len cap : Nat} {cs : List Cell} (h : RowOf w a len cap cs) : cs.length ≤ 9223372036854775807 := by
  obtain ⟨h0, h1, h2, _⟩ := h
  have := max63; omega
theorem RowOfI.le {w : World} {a : Option Addr} {len cap : Nat} {cs : List Int} (h : RowOfI w a len cap cs) : cs.length ≤ 9223372036854775807 := by
  obtain ⟨h0, h1, h2, _⟩ := h
  have := max63; omega
theorem RowOfSS.le {w : World} {a : Option Addr} {len cap : Nat} {L : List (List Cell)} (h : RowOfSS w a len cap L) : L.length ≤ 9223372036854775807 ∧ ∀ l ∈ L, l.length ≤ 9223372036854775807 := by
  obtain ⟨h0, h1, h2, h3⟩ := h
  have := max63
  refine ⟨by omega, fun l hl => ?_⟩
  obtain ⟨i, hi, rfl⟩ := List.getElem_of_mem hl
  rcases h3 with h3 | ⟨b, o, c, e, fz, _, _, h3⟩
  · omega
  · obtain ⟨a', l', c', _, h4⟩ := h3 i (by omega)
    have := h4.le
    simpa [hi] using this
end Go.Ab

/- The abstract code of some functions (written by a program of mine from the translation, by way of prepF). -/
namespace Go.Ab.C
open Go.Ab
end Go.Ab.C

/- That the program has this code. -/
namespace Go.Ab.K
open Go Go.Ab
end Go.Ab.K

/- The abstract code of some functions (written by a program of mine from the translation, by way of prepF). -/
namespace Go.Ab.C
open Go.Ab
def spec_l2Long : AFn :=
 ⟨2, 14, [.tmp 4],
 .seq (.ops [(none, .box 2 (.t 0)),
 (none, .mv 4 (.c (.I 0)))])
 (.seq (.ops [(none, .fieldAddr 5 (.t 2) 0),
 (none, .load1 6 (.t 5)),
 (none, .fieldAddr 7 (.t 2) 1),
 (none, .load1 8 (.t 7)),
 (none, .fieldAddr 9 (.t 2) 2),
 (none, .load1 10 (.t 9)),
 (none, .build 11 [(.I 0), (.I 0), (.I 0)] [(0, 1, (.t 6)), (1, 1, (.t 8)), (2, 1, (.t 10))]),
 (none, .mv 12 (.t 1)),
 (none, .index 13 3 1 false (.t 11) (.t 12)),
 (none, .mv 4 (.t 13))])
 (.ret))⟩
end Go.Ab.C

/- That the program has this code. -/
namespace Go.Ab.K
open Go Go.Ab
theorem spec_l2Long : prepF Go.Proofs.Try.prog F.spec_l2Long = some C.spec_l2Long := by kernel_rfl
end Go.Ab.K

/- What laws are told of heaps as results. -/
namespace Go.Ab
open Go

structure Hp where
  x : Int
  y : Int
  z : Int
  cs : List Cell
def Hp.none : Hp := ⟨0, 0, 0, []⟩
abbrev Hp.row (r : Hp) (w : LV) : Blk := .row [.I r.x, .I r.y, .I r.z, w] true 0
/-- A heap, or the one of all zeros, what else there is, and whether there is one. -/
def HeapRes (M : Mem) (r : Option Hp) (ext : List LV) (v : LV) (N : Mem) : Prop :=
  ∃ w, v = .tup (.agg [.I (r.getD Hp.none).x, .I (r.getD Hp.none).y, .I (r.getD Hp.none).z, w] :: (ext ++ [.B r.isSome])) ∧ SlC N w (r.getD Hp.none).cs ∧ Newer M w ∧ Pre M N
theorem Older.off {M : Mem} {v : LV} {u : Nat} (h : Older M v) (hu : M.length ≤ u) : Off v u := by
  cases v with
  | ref t o n => have := h t o n rfl; show u ≠ t; omega
  | _ => trivial
end Go.Ab

/- Plain words: the 24 turns of a box. -/
namespace Go.Ab
open Go

def Cell.at (c : Cell) (d : Int) : Int := if d = 0 then c.a else if d = 1 then c.b else c.c
def Dir (d : Int) : Prop := d = 0 ∨ d = 1 ∨ d = 2
/-- How many pairs are out of order, modulo 2. -/
def oddOf (c : Cell) : Int := ((if c.a > c.b then 1 else 0) + (if c.a > c.c then 1 else 0) + (if c.b > c.c then 1 else 0)) % 2
structure Turn where
  fr : Cell
  fl : Cell
deriving DecidableEq
def Turn.row (t : Turn) : List LV := t.fr.row ++ t.fl.row
def sixL (l : List Turn) : List LV := l.flatMap Turn.row
/-- The turn that the n-th attempt finds. -/
def turnAt (n : Nat) : Option Turn :=
  if n / 24 ≠ n / 8 % 3 ∧ oddOf ⟨n / 24, n / 8 % 3, 3 - n / 24 - n / 8 % 3⟩ = (n % 8 / 4 + n % 8 / 2 % 2 + n % 8 % 2) % 2 then
    some ⟨⟨n / 24, n / 8 % 3, 3 - n / 24 - n / 8 % 3⟩, ⟨n % 8 / 4, n % 8 / 2 % 2, n % 8 % 2⟩⟩ else none
def turnsU (n : Nat) : List Turn := (List.range n).filterMap turnAt
def turns : List Turn := turnsU 72
theorem sixL_len (l : List Turn) : (sixL l).length = l.length * 6 := by
  induction l with
  | nil => rfl
  | cons t l ih => rw [show sixL (t :: l) = t.row ++ sixL l from rfl, List.length_append, ih, List.length_cons]; simp [Turn.row, Cell.row]; omega
theorem sixL_at {l : List Turn} : ∀ {k : Nat}, (hk : k < l.length) → ((sixL l).drop (k * 6)).take 6 = l[k].row := by
  induction l with
  | nil => intro k hk; simp at hk
  | cons t l ih =>
    intro k hk
    have e : sixL (t :: l) = t.row ++ sixL l := rfl
    have hr : t.row.length = 6 := rfl
    cases k with
    | zero => rw [e, Nat.zero_mul, List.drop_zero, List.take_append_of_le_length (by omega), List.take_of_length_le (by omega)]; rfl
    | succ k =>
      rw [e, List.drop_append, List.drop_eq_nil_of_le (by omega), List.nil_append, hr, show (k + 1) * 6 - 6 = k * 6 by omega, ih (by simpa using hk)]
      rfl

def sideOf (x y z d : Int) : Int := if d = 0 then x else if d = 1 then y else z
/-- A coordinate of a cell behind a turn: taken from direction s, mirrored or not. -/
def turnC (x y z : Int) (c : Cell) (s f : Int) : Int := if f = 1 then sideOf x y z s - 1 - c.at s else c.at s
def mapT (x y z : Int) (t : Turn) (c : Cell) : Cell := ⟨turnC x y z c t.fr.a t.fl.a, turnC x y z c t.fr.b t.fl.b, turnC x y z c t.fr.c t.fl.c⟩
/-- The three directions, in any order. -/
def OkT (t : Turn) : Prop := Dir t.fr.a ∧ Dir t.fr.b ∧ Dir t.fr.c
instance (d : Int) : Decidable (Dir d) := by unfold Dir; exact inferInstance
instance (t : Turn) : Decidable (OkT t) := by unfold OkT; exact inferInstance
def turnHp (x y z : Int) (t : Turn) (cs : List Cell) : Hp := ⟨sideOf x y z t.fr.a, sideOf x y z t.fr.b, sideOf x y z t.fr.c, pick (sideOf x y z t.fr.a) (sideOf x y z t.fr.b) (sideOf x y z t.fr.c) fun d => decide (d ∈ cs.map (mapT x y z t))⟩
section
variable {x y z : Int}
theorem sideOf_in (hS : Sides x y z) (d : Int) : 1 ≤ sideOf x y z d ∧ sideOf x y z d ≤ 4 := by
  obtain ⟨hx, hy, hz⟩ := hS
  unfold sideOf; split <;> (try split) <;> omega
theorem at_in {c : Cell} (hc : c.inBox x y z) (d : Int) : 0 ≤ c.at d ∧ c.at d < sideOf x y z d := by
  obtain ⟨⟨_, _⟩, ⟨_, _⟩, ⟨_, _⟩⟩ := hc
  unfold Cell.at sideOf; split <;> (try split) <;> omega
end
end Go.Ab

/- Contracts: the reference's turns. -/
namespace Go.Ab
open Go
set_option linter.unusedSimpArgs false
set_option linter.unusedVariables false

theorem h_l2Long {x y z d : Int} {v : LV} {M : Mem} (hd : Dir d) : CallsTo PG F.spec_l2Long [.agg [.I x, .I y, .I z, v], .I d] M (.I (sideOf x y z d)) M := by
  refine calls_run K.spec_l2Long rfl ?_
  rcases hd with rfl | rfl | rfl
  all_goals
    simp (disch := omega) only [C.spec_l2Long, splice, ↓SXd, SXu, slBounds, ↓sop, ↓aop, ↓reduceIte, LV.cells, AOp.dst, LV.I, LV.B, LV.U, LV.S, LV.nil, Nat.reduceEqDiff, Nat.reduceAdd, Nat.reduceMul, Nat.reduceSub, Nat.reduceLeDiff, Nat.reduceBEq, Nat.reduceDiv, Nat.reduceMod, Int.reduceToNat, Int.reduceLT, Int.reduceLE, Int.reduceAdd, Int.reduceSub, Int.reduceMul, Int.reduceEq, Int.reduceNeg, reduceCtorEq, resV, resAll, ARes.ev, LV.flat, ite_true, ite_false, exists_eq_left', exists_eq_left, keyOf, implies_true, fillC, capOf]
    exact cmp_drop rfl

/-- How many pairs are out of order whose greater place is before i, or i with the other one before k. -/
def oddK (c : Cell) (i k : Nat) : Int := (if (1 < i ∨ (i = 1 ∧ 0 < k)) ∧ c.a > c.b then 1 else 0) + (if (2 < i ∨ (i = 2 ∧ 0 < k)) ∧ c.a > c.c then 1 else 0) + (if (2 < i ∨ (i = 2 ∧ 1 < k)) ∧ c.b > c.c then 1 else 0)
end Go.Ab

/- Contracts: the reference's turned heaps. -/
namespace Go.Ab
open Go
set_option linter.unusedSimpArgs false
set_option linter.unusedVariables false

theorem Tri.gets_at {M : Mem} {t o k : Nat} {cs : List Cell} {s : Int} (h : Tri M t o cs) (hk : k < cs.length) (hs : Dir s) : getCell M t (o + k * 3 + s.toNat) = some (.I ((cs.getD k default).at s)) := by
  rcases hs with rfl | rfl | rfl
  · exact Tri.get_a h hk
  · exact Tri.get_b h hk
  · exact Tri.get_c h hk

theorem memK_at {M : Mem} {t j e : Nat} {old : List LV} {v : LV} {A : Mem → Prop} (ht : Live M t (.row old true e)) (hj : j < old.length)
    (hA : ∀ M', M'.length = M.length → Live M' t (.row (old.set j v) true e) → (∀ u, u ≠ t → u < M.length → M'[u]? = M[u]?) → A M') : memK (setCells M t j [v]) A := by
  rw [ht.setC, if_pos (by simp; omega), splice_1 hj]
  exact hA _ (by simp) ht.set_eq fun u hu _ => List.getElem?_set_ne (fun e => hu e.symm)
/-- A cell of which the first d coordinates are there. -/
def partC (c : Cell) (d : Nat) : Cell := ⟨if 0 < d then c.a else 0, if 1 < d then c.b else 0, if 2 < d then c.c else 0⟩
end Go.Ab

/- The abstract code of some functions (written by a program of mine from the translation, by way of prepF). -/
namespace Go.Ab.C
open Go.Ab
def spec_l1Least : AFn :=
 ⟨2, 10, [.tmp 4],
 .seq (.ops [(none, .mv 4 (.c (.I 0)))])
 (.seq (.seq (.ops [(none, .mv 5 (.t 0)),
 (none, .mv 6 (.t 1)),
 (none, .bin 7 .lss (.t 5) (.t 6))])
 (.cond (.t 7) (.seq (.ops [(none, .mv 8 (.t 0)),
 (none, .mv 4 (.t 8))])
 (.ret))
 (.skip)))
 (.seq (.ops [(none, .mv 9 (.t 1)),
 (none, .mv 4 (.t 9))])
 (.ret)))⟩
end Go.Ab.C

/- That the program has this code. -/
namespace Go.Ab.K
open Go Go.Ab
theorem spec_l1Least : prepF Go.Proofs.Try.prog F.spec_l1Least = some C.spec_l1Least := by kernel_rfl
end Go.Ab.K

/- Contracts: the reference's least boxes. -/
namespace Go.Ab
open Go
set_option linter.unusedSimpArgs false
set_option linter.unusedVariables false

def Small (c : Cell) : Prop := (-100 ≤ c.a ∧ c.a ≤ 100) ∧ (-100 ≤ c.b ∧ c.b ≤ 100) ∧ (-100 ≤ c.c ∧ c.c ≤ 100)
def shift (p c : Cell) : Cell := ⟨c.a + p.a, c.b + p.b, c.c + p.c⟩
def loC (c d : Cell) : Cell := ⟨min c.a d.a, min c.b d.b, min c.c d.c⟩
def hiC (c d : Cell) : Cell := ⟨max c.a d.a, max c.b d.b, max c.c d.c⟩
def lowOf (cs : List Cell) : Cell := cs.foldl loC (cs.getD 0 default)
def highOf (cs : List Cell) : Cell := cs.foldl hiC (cs.getD 0 default)
def cropHp (cs : List Cell) : Hp := ⟨(highOf cs).a - (lowOf cs).a + 1, (highOf cs).b - (lowOf cs).b + 1, (highOf cs).c - (lowOf cs).c + 1, cs.map (shift ⟨0 - (lowOf cs).a, 0 - (lowOf cs).b, 0 - (lowOf cs).c⟩)⟩
/-- The first d coordinates of one cell, the others of another one. -/
def mixC (c e : Cell) (d : Nat) : Cell := ⟨if 0 < d then e.a else c.a, if 1 < d then e.b else c.b, if 2 < d then e.c else c.c⟩
theorem h_l1Least {a b : Int} {M : Mem} : CallsTo PG F.spec_l1Least [.I a, .I b] M (.I (min a b)) M := by
  refine calls_run K.spec_l1Least rfl ?_
  simp (disch := omega) only [C.spec_l1Least, ↓SXd, SXu, slBounds, ↓sop, ↓aop, ↓reduceIte, LV.cells, AOp.dst, LV.I, LV.B, LV.U, LV.S, LV.nil, Nat.reduceEqDiff, Nat.reduceAdd, Nat.reduceMul, Nat.reduceSub, Nat.reduceLeDiff, Nat.reduceBEq, Nat.reduceDiv, Nat.reduceMod, Int.reduceToNat, Int.reduceLT, Int.reduceLE, Int.reduceAdd, Int.reduceSub, Int.reduceMul, Int.reduceEq, Int.reduceNeg, reduceCtorEq, resV, resAll, ARes.ev, LV.flat, ite_true, ite_false, exists_eq_left', exists_eq_left, keyOf, implies_true, fillC, capOf]
  refine condC_dec (fun h => ?_) (fun h => ?_)
  all_goals
    simp (disch := omega) only [↓SXd, SXu, slBounds, ↓sop, ↓aop, ↓reduceIte, LV.cells, AOp.dst, LV.I, LV.B, LV.U, LV.S, LV.nil, Nat.reduceEqDiff, Nat.reduceAdd, Nat.reduceMul, Nat.reduceSub, Nat.reduceLeDiff, Nat.reduceBEq, Nat.reduceDiv, Nat.reduceMod, Int.reduceToNat, Int.reduceLT, Int.reduceLE, Int.reduceAdd, Int.reduceSub, Int.reduceMul, Int.reduceEq, Int.reduceNeg, reduceCtorEq, resV, resAll, ARes.ev, LV.flat, ite_true, ite_false, exists_eq_left', exists_eq_left, keyOf, implies_true, fillC, capOf]
  · rw [show min a b = a by omega]; exact cmp_drop0 rfl
  · rw [show min a b = b by omega]; exact cmp_drop0 rfl

end Go.Ab

/- Contracts: pieces, both sides. -/
namespace Go.Ab
open Go
set_option linter.unusedSimpArgs false
set_option linter.unusedVariables false
set_option maxRecDepth 20000

def minC (s c : Cell) : Cell := ⟨min s.a c.a, min s.b c.b, min s.c c.c⟩
def lowC (s : Cell) (l : List Cell) : Cell := l.foldl minC s
/-- A piece. -/
def PieceOK (l : List Cell) : Prop := (1 ≤ l.length ∧ l.length ≤ 5) ∧ HeapOK 4 4 4 l ∧ lowC ⟨4, 4, 4⟩ l = ⟨0, 0, 0⟩
noncomputable instance (l : List Cell) : Decidable (PieceOK l) := Classical.propDecidable _
def minTo (s c : Cell) : Nat → Cell
  | 0 => s
  | 1 => ⟨min s.a c.a, s.b, s.c⟩
  | 2 => ⟨min s.a c.a, min s.b c.b, s.c⟩
  | _ => minC s c
end Go.Ab

/- Contracts: pieces and lists of them, the program's side; lists, the reference's side. -/
namespace Go.Ab
open Go
set_option linter.unusedSimpArgs false
set_option linter.unusedVariables false
set_option maxRecDepth 20000

/-- A valid heap and a valid list of pieces. -/
def PcsOK (L : List (List Cell)) : Prop := ∀ l ∈ L, PieceOK l
def AskOK (x y z : Int) (cs : List Cell) (L : List (List Cell)) : Prop := PcsOK L ∧ HeapOK x y z cs ∧ L.length ≤ 8
noncomputable instance (L : List (List Cell)) : Decidable (PcsOK L) := Classical.propDecidable _
noncomputable instance (x y z : Int) (cs : List Cell) (L : List (List Cell)) : Decidable (AskOK x y z cs L) := Classical.propDecidable _
section
variable {x y z : Int} {t o u : Nat} {cs : List Cell} {L : List (List Cell)} {M : Mem} (hP : Pcs M u L) (hL : L.length ≤ 1000000000) (hLs : ∀ l ∈ L, l.length ≤ 1000000000)
include hP hL hLs
end
end Go.Ab

/- A number's bits, as the programs read them. -/
namespace Go.Ab
open Go
set_option linter.unusedSimpArgs false
set_option linter.unusedVariables false

end Go.Ab

/- Contracts: parities, both sides; ParityBars. -/
namespace Go.Ab
open Go
set_option linter.unusedSimpArgs false
set_option linter.unusedVariables false
set_option maxRecDepth 20000

def par1 (c : Cell) : Int := 1 - 2 * ((c.a + c.b + c.c).tmod 2)
def parL : List Cell → Int
  | [] => 0
  | c :: l => par1 c + parL l
section
variable {l : List Cell} {t o : Nat} {M : Mem} (h : Tri M t o l) (hn : l.length ≤ 64) (hin : ∀ c ∈ l, c.inBox 4 4 4)
include h hn hin
end
/-- The cells without cubes. -/
def freeP (cs : List Cell) (c : Cell) : Bool := !decide (c ∈ cs)
section
variable {x y z : Int} {t o : Nat} {cs : List Cell} {M : Mem} (h : Tri M t o cs) (hH : HeapOK x y z cs)
include h hH
end
end Go.Ab

/- The abstract code of some functions (written by a program of mine from the translation, by way of prepF). -/
namespace Go.Ab.C
open Go.Ab
end Go.Ab.C

/- That the program has this code. -/
namespace Go.Ab.K
open Go Go.Ab
end Go.Ab.K

/- The abstract code of some functions (written by a program of mine from the translation, by way of prepF). -/
namespace Go.Ab.C
open Go.Ab
end Go.Ab.C

/- That the program has this code. -/
namespace Go.Ab.K
open Go Go.Ab
end Go.Ab.K

/- The abstract code of some functions (written by a program of mine from the translation, by way of prepF). -/
namespace Go.Ab.C
open Go.Ab
end Go.Ab.C

/- That the program has this code. -/
namespace Go.Ab.K
open Go Go.Ab
end Go.Ab.K

/- Contracts: the program's turns. -/
namespace Go.Ab
open Go
set_option linter.unusedSimpArgs false
set_option linter.unusedVariables false

def ordersL : List Cell := [⟨0, 1, 2⟩, ⟨0, 2, 1⟩, ⟨1, 0, 2⟩, ⟨1, 2, 0⟩, ⟨2, 0, 1⟩, ⟨2, 1, 0⟩]
/-- The attempt at which an order's turns begin. -/
def nO (o : Nat) : Nat := if o = 0 then 8 else if o = 1 then 16 else if o = 2 then 24 else if o = 3 then 40 else if o = 4 then 48 else if o = 5 then 56 else 72
end Go.Ab

/- Contracts: the program's turned heaps. -/
namespace Go.Ab
open Go
set_option linter.unusedSimpArgs false
set_option linter.unusedVariables false

end Go.Ab

/- The abstract code of some functions (written by a program of mine from the translation, by way of prepF). -/
namespace Go.Ab.C
open Go.Ab
end Go.Ab.C

/- That the program has this code. -/
namespace Go.Ab.K
open Go Go.Ab
end Go.Ab.K

/- The abstract code of some functions (written by a program of mine from the translation, by way of prepF). -/
namespace Go.Ab.C
open Go.Ab
end Go.Ab.C

/- That the program has this code. -/
namespace Go.Ab.K
open Go Go.Ab
end Go.Ab.K

/- Contracts: the reference's order of heaps, and first forms. -/
namespace Go.Ab
open Go
set_option linter.unusedSimpArgs false
set_option linter.unusedVariables false

def lexC : List Cell → List Cell → Bool
  | _, [] => false
  | [], _ :: _ => true
  | a :: l, b :: m => if a = b then lexC l m else decide (a.lt b)
def Hp.dims (h : Hp) : Cell := ⟨h.x, h.y, h.z⟩
def lessHp (g h : Hp) : Bool := if g.dims = h.dims then lexC g.cs h.cs else decide (g.dims.lt h.dims)
theorem beq3 {a b : Cell} : (a.a == b.a && (a.b == b.b && a.c == b.c)) = decide (a = b) := by
  rw [Bool.eq_iff_iff, decide_eq_true_iff, cell_eq]
  simp only [Bool.and_eq_true, beq_iff_eq]
end Go.Ab

/- Contracts: the reference's first forms. -/
namespace Go.Ab
open Go
set_option linter.unusedSimpArgs false
set_option linter.unusedVariables false

def bestH (b : Hp) (l : List Hp) : Hp := l.foldl (fun b n => if lessHp n b then n else b) b
/-- The positions of a heap: it is turned, and put into the least box. -/
def posHp (x y z : Int) (cs : List Cell) (T : Turn) : Hp := cropHp (turnHp x y z T cs).cs
def formHp (x y z : Int) (cs : List Cell) : Hp := bestH (cropHp cs) (turns.map (posHp x y z cs))
theorem Live.six {N : Mem} {t k e : Nat} {w : Bool} {l : List Turn} (h : Live N t (.row (sixL l) w e)) (hk : k < l.length) : getCells N t (k * 6) 6 = some l[k].row := by
  rw [h.cells, if_pos (by rw [sixL_len]; omega), sixL_at hk]
end Go.Ab

/- Contracts: the program's least boxes. -/
namespace Go.Ab
open Go
set_option linter.unusedSimpArgs false
set_option linter.unusedVariables false

def leC (a b : Cell) : Prop := a.a ≤ b.a ∧ a.b ≤ b.b ∧ a.c ≤ b.c
end Go.Ab

/- Contracts: pieces placed in a box, the program's side. -/
namespace Go.Ab
open Go
set_option linter.unusedSimpArgs false
set_option linter.unusedVariables false
set_option maxRecDepth 20000

def At4 (at' : Cell) : Prop := (0 ≤ at'.a ∧ at'.a ≤ 4) ∧ (0 ≤ at'.b ∧ at'.b ≤ 4) ∧ (0 ≤ at'.c ∧ at'.c ≤ 4)
def PlacedOK (x y z : Int) (fr : Cell → Bool) (l : List Cell) (at' : Cell) : Prop := At4 at' ∧ ∀ c ∈ l, (shift at' c).inBox x y z ∧ fr (shift at' c) = true
noncomputable instance {x y z : Int} {fr : Cell → Bool} {l : List Cell} {at' : Cell} : Decidable (PlacedOK x y z fr l at') := Classical.propDecidable _
instance {at' : Cell} : Decidable (At4 at') := by unfold At4; exact inferInstance
end Go.Ab

/- The abstract code of some functions (written by a program of mine from the translation, by way of prepF). -/
namespace Go.Ab.C
open Go.Ab
end Go.Ab.C

/- That the program has this code. -/
namespace Go.Ab.K
open Go Go.Ab
end Go.Ab.K

/- The abstract code of some functions (written by a program of mine from the translation, by way of prepF). -/
namespace Go.Ab.C
open Go.Ab
end Go.Ab.C

/- That the program has this code. -/
namespace Go.Ab.K
open Go Go.Ab
end Go.Ab.K

/- Contracts: marks that are held, on lists of cells and on heaps. -/
namespace Go.Ab
open Go
set_option linter.unusedSimpArgs false
set_option linter.unusedVariables false

end Go.Ab

/- Contracts: the laws' helpers on lists of lists of cells. -/
namespace Go.Ab
open Go
set_option linter.unusedSimpArgs false
set_option linter.unusedVariables false

/-- A list of lists of cells that may be read. -/
def CssV (N : Mem) (v : LV) (L : List (List Cell)) : Prop := (v = .nil ∧ L = []) ∨ ∃ (t : Nat) (refs : List LV), v = .ref t 0 L.length ∧ Live N t (.row refs true 1) ∧ refs.length = L.length ∧ ∀ i, i < L.length → ∃ r, refs[i]? = some r ∧ CellsV N r (L.getD i [])
/-- A list of lists of cells that is one's own, and behind M. -/
def SlCC (M N : Mem) (v : LV) (L : List (List Cell)) : Prop := (v = .nil ∧ L = []) ∨ ∃ (t : Nat) (refs : List LV), v = .ref t 0 L.length ∧ M.length ≤ t ∧ Live N t (.row refs true 1) ∧ refs.length = L.length ∧
  (∀ i, i < L.length → ∃ r, refs[i]? = some r ∧ SlC N r (L.getD i []) ∧ Newer M r) ∧ ∀ (i j : Nat) (r s : LV), i ≠ j → refs[i]? = some r → refs[j]? = some s → Apart r s
theorem CssV.lenV {N : Mem} {v : LV} {L : List (List Cell)} (h : CssV N v L) : lenV v = some (L.length : Int) := by
  rcases h with ⟨rfl, rfl⟩ | ⟨t, refs, rfl, _⟩ <;> rfl
theorem SlCC.v {M N : Mem} {v : LV} {L : List (List Cell)} (h : SlCC M N v L) : CssV N v L := by
  rcases h with h | ⟨t, refs, h1, h2, h3, h4, h5, _⟩
  · exact .inl h
  · exact .inr ⟨t, refs, h1, h3, h4, fun i hi => by obtain ⟨r, k1, k2, _⟩ := h5 i hi; exact ⟨r, k1, k2.v⟩⟩
theorem CssV.pre {M N : Mem} {v : LV} {L : List (List Cell)} (h : CssV M v L) (hp : Pre M N) : CssV N v L := by
  rcases h with h | ⟨t, refs, h1, h3, h4, h5⟩
  · exact .inl h
  · exact .inr ⟨t, refs, h1, h3.pre hp, h4, fun i hi => by obtain ⟨r, k1, k2⟩ := h5 i hi; exact ⟨r, k1, k2.pre hp⟩⟩
/-- What is not behind M may have changed. -/
theorem SlCC.keep {M N N' : Mem} {v : LV} {L : List (List Cell)} (h : SlCC M N v L) (hp : ∀ u, M.length ≤ u → u < N.length → N'[u]? = N[u]?) : SlCC M N' v L := by
  have hl : ∀ {u : Nat} {b : Blk}, Live N u b → M.length ≤ u → Live N' u b := fun {u b} hL hu => by unfold Live; rw [hp u hu hL.lt]; exact hL
  rcases h with h | ⟨t, refs, h1, h2, h3, h4, h5, h6⟩
  · exact .inl h
  · refine .inr ⟨t, refs, h1, h2, hl h3 h2, h4, fun i hi => ?_, h6⟩
    obtain ⟨r, k1, k2, k3⟩ := h5 i hi
    refine ⟨r, k1, ?_, k3⟩
    rcases k2 with k2 | ⟨t', ex, q1, q2⟩
    · exact .inl k2
    · refine .inr ⟨t', ex, q1, hl q2 (Nat.not_lt.1 fun h => ?_)⟩
      rw [q1] at k3
      exact (k3 t' h) rfl
theorem SlCC.pre {M N N' : Mem} {v : LV} {L : List (List Cell)} (h : SlCC M N v L) (hp : Pre N N') : SlCC M N' v L := h.keep fun u _ hu => hp.2 u hu
theorem SlCC.mono {M M' N : Mem} {v : LV} {L : List (List Cell)} (h : SlCC M' N v L) (hp : Pre M M') : SlCC M N v L := by
  rcases h with h | ⟨t, refs, h1, h2, h3, h4, h5, h6⟩
  · exact .inl h
  · exact .inr ⟨t, refs, h1, Nat.le_trans hp.1 h2, h3, h4, fun i hi => by obtain ⟨r, k1, k2, k3⟩ := h5 i hi; exact ⟨r, k1, k2, k3.mono hp⟩, h6⟩
theorem SlCC.nil {M N : Mem} : SlCC M N .nil [] := .inl ⟨rfl, rfl⟩
theorem Css.ge {N : Mem} {hi : Nat} : ∀ {lo : Nat} {rs : List LV} {ls : List (List Cell)}, Css N lo hi rs ls → ∀ s ∈ rs, ∃ u n, s = .ref u 0 n ∧ lo ≤ u
  | _, [], _, _, s, hs => by cases hs
  | _, _ :: _, [], h, _, _ => h.elim
  | lo, r :: rs, l :: ls, ⟨u, h1, h2, h3, h4, h5⟩, s, hs => by
    rcases List.mem_cons.1 hs with rfl | hs
    · exact ⟨u, _, h3, h1⟩
    · obtain ⟨w, n, k1, k2⟩ := h5.ge s hs
      exact ⟨w, n, k1, by omega⟩
theorem Css.pair {N : Mem} {hi : Nat} : ∀ {lo : Nat} {rs : List LV} {ls : List (List Cell)}, Css N lo hi rs ls → rs.Pairwise Apart
  | _, [], _, _ => List.Pairwise.nil
  | _, _ :: _, [], h => h.elim
  | lo, r :: rs, l :: ls, ⟨u, h1, h2, h3, h4, h5⟩ => List.pairwise_cons.2 ⟨fun s hs t o n e => by
      obtain ⟨w, m, k1, k2⟩ := h5.ge s hs
      rw [k1] at e; cases e
      rw [h3]; show t ≠ u; omega, h5.pair⟩
theorem SlCC.of {M N : Mem} {u lo hi : Nat} {refs : List LV} {L : List (List Cell)} (hu : M.length ≤ u) (hlo : M.length ≤ lo) (h : Live N u (.row refs true 1)) (hc : Css N lo hi refs L) : SlCC M N (.ref u 0 refs.length) L := by
  have hpw := hc.pair
  rw [List.pairwise_iff_getElem] at hpw
  refine .inr ⟨u, refs, by rw [hc.len], hu, h, hc.len, fun i hi => ?_, fun i j r s hij hr hs => ?_⟩
  · obtain ⟨w, k1, k2, k3, k4⟩ := hc.get hi
    exact ⟨_, k3, SlC.of k4, Newer.of (by omega)⟩
  · obtain ⟨h1, rfl⟩ := List.getElem?_eq_some_iff.1 hr
    obtain ⟨h2, rfl⟩ := List.getElem?_eq_some_iff.1 hs
    rcases Nat.lt_or_ge i j with h3 | h3
    · exact hpw i j h1 h2 h3
    · exact (hpw j i h2 h1 (by omega)).symm

def tot : List (List Cell) → Nat
  | [] => 0
  | l :: ls => l.length + tot ls
/-- Of which the first i lists are marked. -/
def marksT (k : Int) (L : List (List Cell)) (i : Nat) : List (List Cell) := (List.range L.length).map fun j => if j < i then marks3 (k + 3 * (tot (L.take j) : Nat)) (L.getD j []).length else L.getD j []
/-- A list of lists of cells, or none, and whether there is one. -/
def CssRes (M : Mem) (r : Option (List (List Cell))) (v : LV) (N : Mem) : Prop := ∃ w, v = .tup [w, .B r.isSome] ∧ SlCC M N w (r.getD []) ∧ Pre M N
end Go.Ab

/- Plain: packings, as both sides see them. -/
namespace Go.Ab
open Go
set_option linter.unusedSimpArgs false
set_option linter.unusedVariables false

def atL (y z : Int) (xs : List Int) (c : Cell) : Int := xs.getD (idx y z c).toNat 0
/-- The cells with a number. -/
def fib (x y z : Int) (xs : List Int) (k : Nat) : List Cell := pick x y z fun c => decide (atL y z xs c = k)
/-- The free cells without those of the first pieces. -/
def leftP (y z : Int) (cs : List Cell) (xs : List Int) (i : Nat) (c : Cell) : Bool := freeP cs c && !decide (0 ≤ atL y z xs c ∧ atL y z xs c < i)
def negC (c : Cell) : Cell := ⟨-c.a, -c.b, -c.c⟩
/-- Where the program tries a piece. -/
def tryAt (x y z : Int) (L : List (List Cell)) (xs : List Int) (i : Nat) : Cell := shift (negC ((L.getD i []).getD 0 default)) ((fib x y z xs i).getD 0 default)
def StepOK (x y z : Int) (cs : List Cell) (L : List (List Cell)) (xs : List Int) (i : Nat) : Prop :=
  fib x y z xs i ≠ [] ∧ PlacedOK x y z (leftP y z cs xs i) (L.getD i []) (tryAt x y z L xs i) ∧ ∀ d, d.inBox x y z → (d ∈ (L.getD i []).map (shift (tryAt x y z L xs i)) ↔ d ∈ fib x y z xs i)
def ImplPk (x y z : Int) (cs : List Cell) (L : List (List Cell)) (xs : List Int) : Prop :=
  xs.length = vol x y z ∧ (∀ v ∈ xs, -1 ≤ v ∧ v ≤ (L.length : Int) - 1) ∧ (∀ i, i < L.length → StepOK x y z cs L xs i) ∧ ∀ c, c.inBox x y z → leftP y z cs xs L.length c = false
def DiffOK (x y z : Int) (L : List (List Cell)) (xs : List Int) (k : Nat) : Prop :=
  (fib x y z xs k).length = (L.getD k []).length ∧ ∀ i, 1 ≤ i → i < (fib x y z xs k).length → ∀ d : Nat, d < 3 → Cell.at ((fib x y z xs k).getD i default) (d : Int) - Cell.at ((fib x y z xs k).getD 0 default) (d : Int) = Cell.at ((L.getD k []).getD i default) (d : Int) - Cell.at ((L.getD k []).getD 0 default) (d : Int)
def SpecPk (x y z : Int) (cs : List Cell) (L : List (List Cell)) (xs : List Int) : Prop :=
  xs.length = vol x y z ∧ tot L + cs.length = vol x y z ∧ (∀ i, i < vol x y z → (-1 ≤ xs.getD i 0 ∧ xs.getD i 0 ≤ (L.length : Int) - 1) ∧ (xs.getD i 0 < 0 ↔ cellAt y z i ∈ cs)) ∧ ∀ k, k < L.length → DiffOK x y z L xs k

section
variable {x y z : Int} {cs : List Cell} {L : List (List Cell)} {xs : List Int} (hA : AskOK x y z cs L)
include hA
end
end Go.Ab

/- Contracts: packings, the reference's side. -/
namespace Go.Ab
open Go
set_option linter.unusedSimpArgs false
set_option linter.unusedVariables false
set_option maxRecDepth 20000

noncomputable instance {x y z : Int} {cs : List Cell} {L : List (List Cell)} {xs : List Int} : Decidable (SpecPk x y z cs L xs) := Classical.propDecidable _
noncomputable def pkP (x y z : Int) (cs : List Cell) (L : List (List Cell)) (xs : List Int) : Bool × Bool := if AskOK x y z cs L then (decide (SpecPk x y z cs L xs), true) else (false, false)
end Go.Ab

/- Contracts: FaultPlanes, the reference's side. -/
namespace Go.Ab
open Go
set_option linter.unusedSimpArgs false
set_option linter.unusedVariables false
set_option maxRecDepth 20000

/-- Cell i lies before plane k, cell j not, and both are of one piece. -/
def CrossAt (y z : Int) (xs : List Int) (d k i j : Nat) : Prop := 0 ≤ xs.getD i 0 ∧ xs.getD j 0 = xs.getD i 0 ∧ (cellAt y z i).at (d : Int) < k ∧ (k : Int) ≤ (cellAt y z j).at (d : Int)
def Crossed (x y z : Int) (xs : List Int) (d k : Nat) : Prop := ∃ i, i < vol x y z ∧ ∃ j, j < vol x y z ∧ CrossAt y z xs d k i j
noncomputable instance {x y z : Int} {xs : List Int} {d k : Nat} : Decidable (Crossed x y z xs d k) := Classical.propDecidable _
noncomputable def plK (x y z : Int) (xs : List Int) (d : Nat) : Nat → List Int
  | 0 => []
  | k + 1 => plK x y z xs d k ++ (if 1 ≤ k ∧ ¬ Crossed x y z xs d k then [(d : Int), (k : Int)] else [])
noncomputable def plD (x y z : Int) (xs : List Int) : Nat → List Int
  | 0 => []
  | d + 1 => plD x y z xs d ++ plK x y z xs d (sideOf x y z (d : Int)).toNat
noncomputable def planesN (x y z : Int) (cs : List Cell) (L : List (List Cell)) (xs : List Int) : Option (List Int) := if AskOK x y z cs L ∧ SpecPk x y z cs L xs then some (plD x y z xs 3) else none
/-- A list of pairs of numbers, or none, and whether there is one. -/
def PairsRes (M : Mem) (r : Option (List Int)) (v : LV) (N : Mem) : Prop := ∃ w n, v = .tup [w, .B r.isSome] ∧ SlF N w n (r.getD []) ∧ n ≤ 100 ∧ Newer M w ∧ Pre M N

end Go.Ab

/- The abstract code of some functions (written by a program of mine from the translation, by way of prepF). -/
namespace Go.Ab.C
open Go.Ab
end Go.Ab.C

/- That the program has this code. -/
namespace Go.Ab.K
open Go Go.Ab
end Go.Ab.K

/- Contracts: packings, the program's side. -/
namespace Go.Ab
open Go
set_option linter.unusedSimpArgs false
set_option linter.unusedVariables false
set_option maxRecDepth 20000

end Go.Ab

/- Contracts: FaultPlanes, the program's side. -/
namespace Go.Ab
open Go
set_option linter.unusedSimpArgs false
set_option linter.unusedVariables false
set_option maxRecDepth 20000

end Go.Ab

/- The abstract code of some functions (written by a program of mine from the translation, by way of prepF). -/
namespace Go.Ab.C
open Go.Ab
end Go.Ab.C

/- That the program has this code. -/
namespace Go.Ab.K
open Go Go.Ab
end Go.Ab.K

/- The abstract code of some functions (written by a program of mine from the translation, by way of prepF). -/
namespace Go.Ab.C
open Go.Ab
end Go.Ab.C

/- That the program has this code. -/
namespace Go.Ab.K
open Go Go.Ab
end Go.Ab.K

/- Contracts: views, the program's side. -/
namespace Go.Ab
open Go
set_option linter.unusedSimpArgs false
set_option linter.unusedVariables false

/-- One more cube in a view. -/
def viewStep (y z : Int) (d : Nat) (v : List Int) (c : Cell) : List Int := v.set (lineOf y z c d).toNat (v.getD (lineOf y z c d).toNat 0 + 1)
def viewL (x y z : Int) (d : Nat) (cs : List Cell) : List Int := cs.foldl (viewStep y z d) (List.replicate (linesOf x y z d).toNat 0)
theorem foldl_len {y z : Int} {d : Nat} : ∀ {cs : List Cell} {v : List Int}, (cs.foldl (viewStep y z d) v).length = v.length
  | [], _ => rfl
  | c :: cs, v => by rw [List.foldl_cons, foldl_len]; simp [viewStep]
theorem viewL_len {x y z : Int} {d : Nat} {cs : List Cell} : (viewL x y z d cs).length = (linesOf x y z d).toNat := by unfold viewL; rw [foldl_len]; simp
theorem fold_bound {y z : Int} {d : Nat} : ∀ {cs : List Cell} {v : List Int} {n : Int}, (∀ j, 0 ≤ v.getD j 0 ∧ v.getD j 0 ≤ n) → ∀ j, 0 ≤ (cs.foldl (viewStep y z d) v).getD j 0 ∧ (cs.foldl (viewStep y z d) v).getD j 0 ≤ n + cs.length
  | [], v, n, h, j => by have := h j; simp only [List.foldl_nil, List.length_nil]; omega
  | c :: cs, v, n, h, j => by
    rw [List.foldl_cons]
    have := fold_bound (y := y) (z := z) (d := d) (cs := cs) (v := viewStep y z d v c) (n := n + 1) (fun i => by
      have h1 := h i
      have h2 := h (lineOf y z c d).toNat
      unfold viewStep
      rw [List.getD_eq_getElem?_getD, List.getElem?_set]
      split
      · split
        · simp only [Option.getD_some]; omega
        · simp; omega
      · rw [← List.getD_eq_getElem?_getD]; omega) j
    simp only [List.length_cons]; omega
theorem take_foldl {y z : Int} {d i : Nat} {cs : List Cell} {v : List Int} (h : i < cs.length) : (cs.take (i + 1)).foldl (viewStep y z d) v = viewStep y z d ((cs.take i).foldl (viewStep y z d) v) (cs.getD i default) := by
  rw [List.take_succ, List.getElem?_eq_getElem h, Option.toList_some, List.foldl_append]
  have e : cs.getD i default = cs[i] := by simp [h]
  rw [e]; rfl

end Go.Ab

/- Plain: how often a line of a box is met by cells of a list; cells that are alone in a line. -/
namespace Go.Ab
open Go
set_option linter.unusedSimpArgs false
set_option linter.unusedVariables false

def onLine (y z : Int) (d : Nat) (i : Nat) (c : Cell) : Bool := decide ((lineOf y z c d).toNat = i)
/-- A cell alone, among cells, in one of its lines of the first k directions. -/
def aloneK (y z : Int) (cs : List Cell) : Nat → Cell → Bool
  | 0, _ => false
  | k + 1, c => aloneK y z cs k c || decide (cs.countP (onLine y z k (lineOf y z c k).toNat) = 1)
/-- The lit lines of a shadow. -/
def litL (xs : List Int) (n : Nat) : List Nat := (List.range n).filter fun i => decide (xs.getD i 0 = 1)
def litTo (tp fr sd : List Int) (d i : Nat) : List (Nat × Nat) := ((List.range d).flatMap fun e => (litL (shdList e tp fr sd) (shdList e tp fr sd).length).map fun j => (e, j)) ++ (litL (shdList d tp fr sd) i).map fun j => (d, j)
def lits (tp fr sd : List Int) : List (Nat × Nat) := litTo tp fr sd 3 0
/-- The cells of p in a line. -/
def inLine (y z : Int) (p : Cell → Bool) (q : Nat × Nat) (c : Cell) : Bool := p c && onLine y z q.1 q.2 c
/-- The lines as sets. -/
def lineSets (x y z : Int) (p : Cell → Bool) (L : List (Nat × Nat)) : List LV := L.map fun q => .W (bs x y z (inLine y z p q))
/-- Among the first k lit lines one has the cell, and no other allowed one. -/
def mustTo (x y z : Int) (p : Cell → Bool) (L : List (Nat × Nat)) (c : Cell) : Bool := decide (∃ q ∈ L, (pick x y z (inLine y z p q)).length = 1 ∧ inLine y z p q c = true)
end Go.Ab

/- Plain: lit lines without a cube, as the reference lists them. -/
namespace Go.Ab
open Go
set_option linter.unusedSimpArgs false
set_option linter.unusedVariables false

def offL (tp fr : List Int) (d : Nat) : Nat := if d = 2 then 0 else if d = 1 then tp.length else tp.length + fr.length
/-- The place of a cell's line among all lines. -/
def gl (y z : Int) (tp fr : List Int) (d : Nat) (c : Cell) : Nat := offL tp fr d + (lineOf y z c d).toNat
def darkStep (y z : Int) (tp fr : List Int) (v : List Bool) (c : Cell) : List Bool := ((v.set (gl y z tp fr 2 c) false).set (gl y z tp fr 1 c) false).set (gl y z tp fr 0 c) false
def darkL (y z : Int) (tp fr sd : List Int) (cs : List Cell) : List Bool := cs.foldl (darkStep y z tp fr) ((tp ++ fr ++ sd).map fun n => decide (n = 1))
/-- Cells meet all lit lines. -/
def Meets (y z : Int) (L : List (Nat × Nat)) (cs : List Cell) : Prop := ∀ q ∈ L, ∃ c ∈ cs, onLine y z q.1 q.2 c = true
instance (y z : Int) (L : List (Nat × Nat)) (cs : List Cell) : Decidable (Meets y z L cs) := by unfold Meets; exact inferInstance
end Go.Ab

/- The abstract code of some functions (written by a program of mine from the translation, by way of prepF). -/
namespace Go.Ab.C
open Go.Ab
end Go.Ab.C

/- That the program has this code. -/
namespace Go.Ab.K
open Go Go.Ab
end Go.Ab.K

/- The abstract code of some functions (written by a program of mine from the translation, by way of prepF). -/
namespace Go.Ab.C
open Go.Ab
end Go.Ab.C

/- That the program has this code. -/
namespace Go.Ab.K
open Go Go.Ab
end Go.Ab.K

/- The abstract code of some functions (written by a program of mine from the translation, by way of prepF). -/
namespace Go.Ab.C
open Go.Ab
end Go.Ab.C

/- That the program has this code. -/
namespace Go.Ab.K
open Go Go.Ab
end Go.Ab.K

/- The abstract code of some functions (written by a program of mine from the translation, by way of prepF). -/
namespace Go.Ab.C
open Go.Ab
def spec_l2Others : AFn :=
 ⟨1, 9, [.tmp 2, .tmp 3],
 .seq (.ops [(none, .mv 2 (.c (.I 0))),
 (none, .mv 3 (.c (.I 0)))])
 (.seq (.seq (.ops [(none, .mv 4 (.t 0))])
 (.block 0 (.seq (.ops [(none, .bin 6 .eql (.t 4) (.c (.I 0))),
 (none, .mv 5 (.t 6))])
 (.cond (.t 5) (.seq (.ops [(none, .mv 2 (.c (.I 1))),
 (none, .mv 3 (.c (.I 2)))])
 (.ret))
 (.seq (.ops [(none, .bin 8 .eql (.t 4) (.c (.I 1))),
 (none, .mv 7 (.t 8))])
 (.cond (.t 7) (.seq (.ops [(none, .mv 2 (.c (.I 0))),
 (none, .mv 3 (.c (.I 2)))])
 (.ret))
 (.skip)))))))
 (.seq (.ops [(none, .mv 2 (.c (.I 0))),
 (none, .mv 3 (.c (.I 1)))])
 (.ret)))⟩
def spec_l2View : AFn :=
 ⟨2, 54, [.tmp 4],
 .seq (.ops [(none, .box 2 (.t 0)),
 (none, .mv 4 (.c .nil))])
 (.seq (.ops [(none, .mv 10 (.t 1)),
 (none, .call (some 11) F.spec_l2Others [(.t 10)]),
 (none, .mv 9 (.t 11)),
 (none, .extract 12 (.t 9) 0),
 (none, .extract 13 (.t 9) 1),
 (none, .mv 5 (.t 12)),
 (none, .mv 6 (.t 13))])
 (.seq (.draw [⟨(none, .loadN 14 4 (.t 2)), [], []⟩,
 ⟨(none, .mv 15 (.t 5)), [], []⟩,
 ⟨(none, .loadN 17 4 (.t 2)), [], []⟩,
 ⟨(none, .mv 18 (.t 6)), [], []⟩,
 ⟨(none, .call (some 16) F.spec_l2Long [(.t 14), (.t 15)]), [], [2, 3]⟩,
 ⟨(none, .call (some 19) F.spec_l2Long [(.t 17), (.t 18)]), [], []⟩,
 ⟨(none, .bin 20 .mul (.t 16) (.t 19)), [], []⟩,
 ⟨(none, .mksl 21 1 8 [(.I 0)] (.t 20) (.t 20)), [], []⟩,
 ⟨(none, .mv 7 (.t 21)), [], []⟩])
 (.seq (.seq (.ops [(none, .mv 8 (.c (.I 0)))])
 (.block 0 (.loop (.seq (.seq (.ops [(none, .mv 22 (.t 8)),
 (none, .fieldAddr 23 (.t 2) 3),
 (none, .load1 24 (.t 23)),
 (none, .len 25 (.t 24)),
 (none, .bin 26 .lss (.t 22) (.t 25))])
 (.cond (.t 26) (.skip)
 (.exit 0)))
 (.seq (.block 1 (.draw [⟨(none, .mv 29 (.t 7)), [], []⟩,
 ⟨(none, .fieldAddr 30 (.t 2) 3), [], []⟩,
 ⟨(none, .load1 31 (.t 30)), [], []⟩,
 ⟨(none, .mv 32 (.t 8)), [], []⟩,
 ⟨(none, .mv 33 (.t 5)), [], []⟩,
 ⟨(none, .idxS 34 3 (.t 31) (.t 32)), [], []⟩,
 ⟨(none, .idxA 35 3 1 (.t 34) (.t 33)), [], []⟩,
 ⟨(none, .load1 36 (.t 35)), [], []⟩,
 ⟨(none, .loadN 37 4 (.t 2)), [], []⟩,
 ⟨(none, .mv 38 (.t 6)), [], []⟩,
 ⟨(none, .fieldAddr 41 (.t 2) 3), [], []⟩,
 ⟨(none, .load1 42 (.t 41)), [], []⟩,
 ⟨(none, .mv 43 (.t 8)), [], []⟩,
 ⟨(none, .mv 44 (.t 6)), [], []⟩,
 ⟨(none, .idxS 45 3 (.t 42) (.t 43)), [], []⟩,
 ⟨(none, .idxA 46 3 1 (.t 45) (.t 44)), [], []⟩,
 ⟨(none, .load1 47 (.t 46)), [], []⟩,
 ⟨(none, .call (some 39) F.spec_l2Long [(.t 37), (.t 38)]), [], [0, 1, 2, 3, 4, 5, 6, 7, 10, 11, 12, 13, 14, 15, 16]⟩,
 ⟨(none, .bin 40 .mul (.t 36) (.t 39)), [], []⟩,
 ⟨(none, .bin 48 .add (.t 40) (.t 47)), [], []⟩,
 ⟨(none, .idxS 49 1 (.t 29) (.t 48)), [], []⟩,
 ⟨(none, .load1 50 (.t 49)), [], []⟩,
 ⟨(none, .bin 51 .add (.t 50) (.c (.I 1))), [], []⟩,
 ⟨(none, .idxS 52 1 (.t 29) (.t 48)), [], []⟩,
 ⟨(none, .store 1 (.t 52) (.t 51)), [], []⟩]))
 (.ops [(none, .mv 27 (.t 8)),
 (none, .bin 28 .add (.t 27) (.c (.I 1))),
 (none, .mv 8 (.t 28))]))))))
 (.seq (.ops [(none, .mv 53 (.t 7)),
 (none, .mv 4 (.t 53))])
 (.ret)))))⟩
end Go.Ab.C

/- That the program has this code. -/
namespace Go.Ab.K
open Go Go.Ab
theorem spec_l2Others : prepF Go.Proofs.Try.prog F.spec_l2Others = some C.spec_l2Others := by kernel_rfl
theorem spec_l2View : prepF Go.Proofs.Try.prog F.spec_l2View = some C.spec_l2View := by kernel_rfl
end Go.Ab.K

/- Contracts: views, the reference's side. -/
namespace Go.Ab
open Go
set_option linter.unusedSimpArgs false
set_option linter.unusedVariables false
set_option maxRecDepth 20000

theorem h_l2Others {d : Nat} {M : Mem} (hd : d < 3) : CallsTo PG F.spec_l2Others [.I d] M (.tup [.I (if d = 0 then 1 else 0), .I (if d = 2 then 1 else 2)]) M := by
  refine calls_run K.spec_l2Others rfl ?_
  rcases (show d = 0 ∨ d = 1 ∨ d = 2 by omega) with rfl | rfl | rfl
  all_goals
    simp (disch := omega) only [C.spec_l2Others, ↓SXd, SXu, slBounds, ↓sop, ↓aop, ↓reduceIte, LV.cells, AOp.dst, LV.I, LV.B, LV.U, LV.S, LV.nil, Nat.reduceEqDiff, Nat.reduceAdd, Nat.reduceMul, Nat.reduceSub, Nat.reduceLeDiff, Nat.reduceBEq, Nat.reduceDiv, Nat.reduceMod, Int.reduceToNat, Int.reduceLT, Int.reduceLE, Int.reduceAdd, Int.reduceSub, Int.reduceMul, Int.reduceEq, Int.reduceNeg, reduceCtorEq, resV, resAll, ARes.ev, LV.flat, ite_true, ite_false, exists_eq_left', exists_eq_left, keyOf, implies_true, fillC, capOf]
    exact cmp_drop0 rfl
theorem h_l2View {x y z : Int} {d t o : Nat} {cs : List Cell} {M : Mem} (h : Tri M t o cs) (hH : HeapOK x y z cs) (hd : d < 3) : CallsTo PG F.spec_l2View [.agg [.I x, .I y, .I z, .ref t o cs.length], .I d] M (.ref M.length 0 (viewL x y z d cs).length) (M ++ [some (.row (intL (viewL x y z d cs)) true 1)]) := by
  have hS := hH.1
  have hlp : 1 ≤ linesOf x y z d ∧ linesOf x y z d ≤ 16 := by
    have := prod_le hS
    rcases (show d = 0 ∨ d = 1 ∨ d = 2 by omega) with rfl | rfl | rfl
    · exact this.2.2
    · exact this.2.1
    · exact this.1
  have hlen := hH.len
  have ht := h.lt
  have hz : ∀ j, 0 ≤ (List.replicate (linesOf x y z d).toNat (0 : Int)).getD j 0 ∧ (List.replicate (linesOf x y z d).toNat (0 : Int)).getD j 0 ≤ 0 := fun j => by
    rw [List.getD_eq_getElem?_getD, List.getElem?_replicate]; split <;> simp
  have hvl := viewL_len (x := x) (y := y) (z := z) (d := d) (cs := cs)
  have hda : Dir (if d = 0 then 1 else 0) := by unfold Dir; split <;> omega
  have hdb : Dir (if d = 2 then 1 else 2) := by unfold Dir; split <;> omega
  have hprod : sideOf x y z (if d = 0 then 1 else 0) * sideOf x y z (if d = 2 then 1 else 2) = linesOf x y z d := by
    rcases (show d = 0 ∨ d = 1 ∨ d = 2 by omega) with rfl | rfl | rfl <;> rfl
  have hline : ∀ c : Cell, c.at (if d = 0 then 1 else 0) * sideOf x y z (if d = 2 then 1 else 2) + c.at (if d = 2 then 1 else 2) = lineOf y z c d := fun c => by
    rcases (show d = 0 ∨ d = 1 ∨ d = 2 by omega) with rfl | rfl | rfl <;> rfl
  have hrA : 0 ≤ (if d = 0 then (1 : Int) else 0) ∧ (if d = 0 then (1 : Int) else 0) < 3 := by split <;> omega
  have hrB : 0 ≤ (if d = 2 then (1 : Int) else 2) ∧ (if d = 2 then (1 : Int) else 2) < 3 := by split <;> omega
  refine calls_run K.spec_l2View rfl ?_
  simp (disch := omega) only [C.spec_l2View, ↓SXd, SXu, slBounds, ↓sop, ↓aop, ↓reduceIte, LV.cells, AOp.dst, LV.I, LV.B, LV.U, LV.S, LV.nil, Nat.reduceEqDiff, Nat.reduceAdd, Nat.reduceMul, Nat.reduceSub, Nat.reduceLeDiff, Nat.reduceBEq, Nat.reduceDiv, Nat.reduceMod, Int.reduceToNat, Int.reduceLT, Int.reduceLE, Int.reduceAdd, Int.reduceSub, Int.reduceMul, Int.reduceEq, Int.reduceNeg, reduceCtorEq, resV, resAll, ARes.ev, LV.flat, ite_true, ite_false, exists_eq_left', exists_eq_left, keyOf, implies_true, fillC, capOf]
  refine callK_of (h_l2Others hd) ?_
  simp (disch := omega) only [↓SXd, SXu, slBounds, ↓sop, ↓aop, ↓reduceIte, LV.cells, AOp.dst, LV.I, LV.B, LV.U, LV.S, LV.nil, Nat.reduceEqDiff, Nat.reduceAdd, Nat.reduceMul, Nat.reduceSub, Nat.reduceLeDiff, Nat.reduceBEq, Nat.reduceDiv, Nat.reduceMod, Int.reduceToNat, Int.reduceLT, Int.reduceLE, Int.reduceAdd, Int.reduceSub, Int.reduceMul, Int.reduceEq, Int.reduceNeg, reduceCtorEq, resV, resAll, ARes.ev, LV.flat, ite_true, ite_false, exists_eq_left', exists_eq_left, keyOf, implies_true, fillC, capOf]
  generalize (if d = 0 then (1 : Int) else 0) = A at hda hprod hline hrA ⊢
  generalize (if d = 2 then (1 : Int) else 2) = B at hdb hprod hline hrB ⊢
  obtain ⟨rA1, rA2⟩ := hrA
  obtain ⟨rB1, rB2⟩ := hrB
  refine callK_of (h_l2Long hda) ?_
  simp (disch := omega) only [↓SXd, SXu, slBounds, ↓sop, ↓aop, ↓reduceIte, LV.cells, AOp.dst, LV.I, LV.B, LV.U, LV.S, LV.nil, Nat.reduceEqDiff, Nat.reduceAdd, Nat.reduceMul, Nat.reduceSub, Nat.reduceLeDiff, Nat.reduceBEq, Nat.reduceDiv, Nat.reduceMod, Int.reduceToNat, Int.reduceLT, Int.reduceLE, Int.reduceAdd, Int.reduceSub, Int.reduceMul, Int.reduceEq, Int.reduceNeg, reduceCtorEq, resV, resAll, ARes.ev, LV.flat, ite_true, ite_false, exists_eq_left', exists_eq_left, keyOf, implies_true, fillC, capOf]
  refine callK_of (h_l2Long hdb) ?_
  simp (disch := omega) only [hprod, made_int, ↓SXd, SXu, slBounds, ↓sop, ↓aop, ↓reduceIte, LV.cells, AOp.dst, LV.I, LV.B, LV.U, LV.S, LV.nil, Nat.reduceEqDiff, Nat.reduceAdd, Nat.reduceMul, Nat.reduceSub, Nat.reduceLeDiff, Nat.reduceBEq, Nat.reduceDiv, Nat.reduceMod, Int.reduceToNat, Int.reduceLT, Int.reduceLE, Int.reduceAdd, Int.reduceSub, Int.reduceMul, Int.reduceEq, Int.reduceNeg, reduceCtorEq, resV, resAll, ARes.ev, LV.flat, ite_true, ite_false, exists_eq_left', exists_eq_left, keyOf, implies_true, fillC, capOf]
  refine ev_loop (fun m fr M' => ∃ i : Nat, i + m = cs.length ∧ Pre M M' ∧ Live M' M.length (.row [.I x, .I y, .I z, .ref t o cs.length] true 0) ∧ Live M' (M.length + 1) (.row (intL ((cs.take i).foldl (viewStep y z d) (List.replicate (linesOf x y z d).toNat 0))) true 1) ∧
    fr 2 = .ptr M.length 0 ∧ fr 5 = .I A ∧ fr 6 = .I B ∧ fr 7 = .ref (M.length + 1) 0 (linesOf x y z d).toNat ∧ fr 8 = .I i) cs.length
    ⟨0, by omega, Pre.app _ _, Live.new, Live.newj rfl, rfl, rfl, rfl, rfl, rfl⟩ ?_
  rintro m fr M' ⟨i, hi, hpre, b2, bo, f2, f5, f6, f7, f8⟩
  simp (disch := omega) only [f2, f5, f6, f7, f8, b2.cell, ↓SXd, SXu, slBounds, ↓sop, ↓aop, ↓reduceIte, LV.cells, AOp.dst, LV.I, LV.B, LV.U, LV.S, LV.nil, Nat.reduceEqDiff, Nat.reduceAdd, Nat.reduceMul, Nat.reduceSub, Nat.reduceLeDiff, Nat.reduceBEq, Nat.reduceDiv, Nat.reduceMod, Int.reduceToNat, Int.reduceLT, Int.reduceLE, Int.reduceAdd, Int.reduceSub, Int.reduceMul, Int.reduceEq, Int.reduceNeg, reduceCtorEq, resV, resAll, ARes.ev, LV.flat, ite_true, ite_false, exists_eq_left', exists_eq_left, keyOf, implies_true, fillC, capOf]
  refine condC_dec (fun hlt => ?_) (fun hlt => ?_)
  · have hil : i < cs.length := by omega
    have hc := hH.mem (getD_mem' (d := default) hil)
    have gA := Tri.gets_at (h.pre hpre) hil hda
    have gB := Tri.gets_at (h.pre hpre) hil hdb
    have htf := take_foldl (y := y) (z := z) (d := d) (v := List.replicate (linesOf x y z d).toNat 0) hil
    have hbd := fold_bound (y := y) (z := z) (d := d) (cs := cs.take i) hz
    have hfl := foldl_len (y := y) (z := z) (d := d) (cs := cs.take i) (v := List.replicate (linesOf x y z d).toNat 0)
    have htl := List.length_take_le i cs
    rw [List.length_replicate] at hfl
    generalize cs.getD i default = c at gA gB hc htf
    generalize (cs.take i).foldl (viewStep y z d) (List.replicate (linesOf x y z d).toNat 0) = v at bo htf hbd hfl
    obtain ⟨l1, l2⟩ := lineOf_in hS hc hd
    obtain ⟨v1, v2⟩ := hbd (lineOf y z c d).toNat
    have hlt2 : (lineOf y z c d).toNat < v.length := by omega
    have hlc := hline c
    have aA := at_in hc A
    have aB := at_in hc B
    have sB := sideOf_in hS B
    have sA := sideOf_in hS A
    have hmul : 0 ≤ c.at A * sideOf x y z B ∧ c.at A * sideOf x y z B ≤ 16 := by
      rcases (show sideOf x y z B = 1 ∨ sideOf x y z B = 2 ∨ sideOf x y z B = 3 ∨ sideOf x y z B = 4 by omega) with e | e | e | e <;> rw [e] <;> omega
    have hcell := bo.cell (o := (lineOf y z c d).toNat)
    rw [intL_get hlt2] at hcell
    simp (disch := omega) only [f2, f5, f6, f7, f8, b2.cell, b2.cells, gA, gB, Nat.mul_one, Nat.zero_add, ↓SXd, SXu, slBounds, ↓sop, ↓aop, ↓reduceIte, LV.cells, AOp.dst, LV.I, LV.B, LV.U, LV.S, LV.nil, Nat.reduceEqDiff, Nat.reduceAdd, Nat.reduceMul, Nat.reduceSub, Nat.reduceLeDiff, Nat.reduceBEq, Nat.reduceDiv, Nat.reduceMod, Int.reduceToNat, Int.reduceLT, Int.reduceLE, Int.reduceAdd, Int.reduceSub, Int.reduceMul, Int.reduceEq, Int.reduceNeg, reduceCtorEq, resV, resAll, ARes.ev, LV.flat, ite_true, ite_false, exists_eq_left', exists_eq_left, keyOf, implies_true, fillC, capOf]
    refine callK_of (h_l2Long hdb) ?_
    simp (disch := omega) only [f2, f5, f6, f7, f8, hlc, hcell, Nat.mul_one, Nat.zero_add, ↓SXd, SXu, slBounds, ↓sop, ↓aop, ↓reduceIte, LV.cells, AOp.dst, LV.I, LV.B, LV.U, LV.S, LV.nil, Nat.reduceEqDiff, Nat.reduceAdd, Nat.reduceMul, Nat.reduceSub, Nat.reduceLeDiff, Nat.reduceBEq, Nat.reduceDiv, Nat.reduceMod, Int.reduceToNat, Int.reduceLT, Int.reduceLE, Int.reduceAdd, Int.reduceSub, Int.reduceMul, Int.reduceEq, Int.reduceNeg, reduceCtorEq, resV, resAll, ARes.ev, LV.flat, ite_true, ite_false, exists_eq_left', exists_eq_left, keyOf, implies_true, fillC, capOf]
    refine memK_int bo hlt2 fun N k1 k2 k3 => ?_
    simp (disch := omega) only [f2, f5, f6, f7, f8, ↓SXd, SXu, slBounds, ↓sop, ↓aop, ↓reduceIte, LV.cells, AOp.dst, LV.I, LV.B, LV.U, LV.S, LV.nil, Nat.reduceEqDiff, Nat.reduceAdd, Nat.reduceMul, Nat.reduceSub, Nat.reduceLeDiff, Nat.reduceBEq, Nat.reduceDiv, Nat.reduceMod, Int.reduceToNat, Int.reduceLT, Int.reduceLE, Int.reduceAdd, Int.reduceSub, Int.reduceMul, Int.reduceEq, Int.reduceNeg, reduceCtorEq, resV, resAll, ARes.ev, LV.flat, ite_true, ite_false, exists_eq_left', exists_eq_left, keyOf, implies_true, fillC, capOf]
    rw [show v.set (lineOf y z c d).toNat (v.getD (lineOf y z c d).toNat 0 + 1) = viewStep y z d v c from rfl, ← htf] at k2
    exact ⟨m - 1, by omega, i + 1, by omega, pre_step hpre (by omega) (j := 0) k1 k3, live_step b2 (by omega) k3, k2, f2, f5, f6, f7, eqI (natI _)⟩
  · simp (disch := omega) only [f2, f5, f6, f7, f8, ↓SXd, SXu, slBounds, ↓sop, ↓aop, ↓reduceIte, LV.cells, AOp.dst, LV.I, LV.B, LV.U, LV.S, LV.nil, Nat.reduceEqDiff, Nat.reduceAdd, Nat.reduceMul, Nat.reduceSub, Nat.reduceLeDiff, Nat.reduceBEq, Nat.reduceDiv, Nat.reduceMod, Int.reduceToNat, Int.reduceLT, Int.reduceLE, Int.reduceAdd, Int.reduceSub, Int.reduceMul, Int.reduceEq, Int.reduceNeg, reduceCtorEq, resV, resAll, ARes.ev, LV.flat, ite_true, ite_false, exists_eq_left', exists_eq_left, keyOf, implies_true, fillC, capOf]
    have : i = cs.length := by omega
    subst this
    rw [List.take_length] at bo
    change Live M' (M.length + 1) (.row (intL (viewL x y z d cs)) true 1) at bo
    exact cmp_keepL hpre (by omega) bo (intL_lo _) (by simp [rn, rn0, rn1, hvl])
end Go.Ab

/- Contracts: lists of numbers that are the same; shadows of heaps, the reference's side. -/
namespace Go.Ab
open Go
set_option linter.unusedSimpArgs false
set_option linter.unusedVariables false

end Go.Ab

/- Contracts: shadows of heaps, the reference's side. -/
namespace Go.Ab
open Go
set_option linter.unusedSimpArgs false
set_option linter.unusedVariables false

def onesL (v : List Int) : List Int := v.map fun n => min n 1
def shdOf (x y z : Int) (d : Nat) (cs : List Cell) : List Int := onesL (viewL x y z d cs)
end Go.Ab

/- Contracts: whether a heap has a shadow, the reference's side. -/
namespace Go.Ab
open Go
set_option linter.unusedSimpArgs false
set_option linter.unusedVariables false

section
variable {x y z : Int} {t o : Nat} {cs : List Cell} {M : Mem} (h : Tri M t o cs) (hH : HeapOK x y z cs)
include h hH
end

/-- A set of cells has a shadow. -/
def HasShd (x y z : Int) (tp fr sd : List Int) (cs : List Cell) : Prop := shdOf x y z 2 cs = tp ∧ shdOf x y z 1 cs = fr ∧ shdOf x y z 0 cs = sd
instance (x y z : Int) (tp fr sd : List Int) (cs : List Cell) : Decidable (HasShd x y z tp fr sd cs) := by unfold HasShd; exact inferInstance
end Go.Ab

/- Contracts: lit lines without a cube, the reference's side. -/
namespace Go.Ab
open Go
set_option linter.unusedSimpArgs false
set_option linter.unusedVariables false
set_option maxRecDepth 20000

theorem appendK_list {M : Mem} {t t2 o2 n n2 e b : Nat} {acc new : List LV} {A : LV → Mem → Prop} (ht : Live M t (.row acc true e)) (hn : acc.length = n * e) (h2 : Has M t2 o2 new) (hne : new.length = n2 * e) (hb : (n + n2) * b ≤ 140737488355328) (hl : n + n2 ≤ 9223372036854775807)
    (hA : ∀ u M', M.length ≤ M'.length → Live M' u (.row (acc ++ new) true e) → (u = t ∨ M.length ≤ u) → (∀ w, w ≠ t → w < M.length → M'[w]? = M[w]?) → A (.ref u 0 (n + n2)) M') : appendK e b (.ref t 0 n) (.ref t2 o2 n2) M A := by
  rcases Nat.eq_zero_or_pos n2 with h0 | h0
  · subst h0
    have : new = [] := List.eq_nil_of_length_eq_zero (by omega)
    subst this
    rw [appendK_zero]
    exact ⟨⟨by omega, by omega⟩, hA t M (Nat.le_refl _) (by rw [List.append_nil]; exact ht) (.inl rfl) fun _ _ _ => rfl⟩
  · rw [appendK_pos h0 (by rw [← hne]; exact h2.all) ht (by omega)]
    refine ⟨⟨hb, hl⟩, hA _ _ (by simp) ?_ (.inr (Nat.le_refl _)) fun w hw hwl => ?_⟩
    · unfold Live
      rw [List.getElem?_append_right (by simp)]
      simp [← hn]
    · rw [List.getElem?_append_left (by simpa using hwl), List.getElem?_set_ne (fun e => hw e.symm)]
def boolL (v : List Bool) : List LV := v.map LV.B
def stepTo (y z : Int) (tp fr : List Int) (V : List Bool) (c : Cell) : Nat → List Bool
  | 0 => V
  | k + 1 => (stepTo y z tp fr V c k).set (gl y z tp fr (2 - k) c) false
end Go.Ab

/- Contracts: pieces put into a list of numbers, the reference's side. -/
namespace Go.Ab
open Go
set_option linter.unusedSimpArgs false
set_option linter.unusedVariables false
set_option maxRecDepth 20000

def At3 (p : Cell) : Prop := (0 ≤ p.a ∧ p.a ≤ 3) ∧ (0 ≤ p.b ∧ p.b ≤ 3) ∧ (0 ≤ p.c ∧ p.c ≤ 3)
def FitsP (x y z : Int) (cs l : List Cell) (p : Cell) : Prop := At3 p ∧ ∀ c ∈ l, (shift p c).inBox x y z ∧ shift p c ∉ cs
def startL (x y z : Int) (cs : List Cell) : List Int := (cellsOf x y z).map fun c => if c ∈ cs then -1 else -2
def setsL (y z : Int) (n : Int) (xs : List Int) (ds : List Cell) : List Int := ds.foldl (fun v d => v.set (idx y z d).toNat n) xs
def PutOK (x y z : Int) (cs l : List Cell) (p : Cell) (xs : List Int) : Prop := FitsP x y z cs l p ∧ ∀ c ∈ l, atL y z xs (shift p c) = -2
noncomputable instance {x y z : Int} {cs l : List Cell} {p : Cell} : Decidable (FitsP x y z cs l p) := Classical.propDecidable _
noncomputable instance {x y z : Int} {cs l : List Cell} {p : Cell} {xs : List Int} : Decidable (PutOK x y z cs l p xs) := Classical.propDecidable _
noncomputable def putR (x y z : Int) (cs l : List Cell) (p : Cell) (xs : List Int) (n : Int) : List Int := if PutOK x y z cs l p xs then setsL y z n xs (l.map (shift p)) else []

section
variable {l : List Cell} {t o : Nat} {M : Mem} {p : Cell} (h : Tri M t o l) (hn : l.length ≤ 64) (hin : ∀ c ∈ l, c.inBox 4 4 4) (hp : At3 p)
include h hn hin hp
end
section
variable {x y z : Int} {t o u q : Nat} {cs l : List Cell} {p : Cell} {M : Mem} (h : Tri M t o cs) (hH : HeapOK x y z cs) (hl : Tri M u q l) (hn : l.length ≤ 64) (hin : ∀ c ∈ l, c.inBox 4 4 4)
include h hH hl hn hin
end
end Go.Ab

/- The abstract code of some functions (written by a program of mine from the translation, by way of prepF). -/
namespace Go.Ab.C
open Go.Ab
def spec_OtherCells : AFn :=
 ⟨1, 43, [.cellN 2 4, .tmp 3],
 .seq (.ops [(none, .box 1 (.t 0)),
 (none, .alloc 2 [(.I 0), (.I 0), (.I 0), .nil]),
 (none, .mv 3 (.c (.B false)))])
 (.seq (.seq (.ops [(none, .loadN 7 4 (.t 1)),
 (none, .call (some 8) F.spec_l2Heap [(.t 7)]),
 (none, .un 9 .not (.t 8))])
 (.cond (.t 9) (.seq (.ops [(none, .build 10 [(.I 0), (.I 0), (.I 0), .nil] []),
 (none, .store 4 (.t 2) (.t 10)),
 (none, .mv 3 (.c (.B false)))])
 (.ret))
 (.skip)))
 (.seq (.draw [⟨(none, .fieldAddr 11 (.t 1) 0), [], []⟩,
 ⟨(none, .load1 12 (.t 11)), [], []⟩,
 ⟨(none, .fieldAddr 13 (.t 1) 1), [], []⟩,
 ⟨(none, .load1 14 (.t 13)), [], []⟩,
 ⟨(none, .fieldAddr 15 (.t 1) 2), [], []⟩,
 ⟨(none, .load1 16 (.t 15)), [], []⟩,
 ⟨(none, .loadN 18 4 (.t 1)), [], []⟩,
 ⟨(none, .alloc 4 [(.I 0), (.I 0), (.I 0), .nil]), [], []⟩,
 ⟨(none, .call (some 17) F.spec_l2Empty [(.t 12), (.t 14), (.t 16)]), [7], [6]⟩,
 ⟨(none, .call (some 19) F.spec_l2All [(.t 18)]), [7], []⟩,
 ⟨(none, .store 4 (.t 4) (.t 17)), [], []⟩,
 ⟨(none, .mv 5 (.t 19)), [], []⟩])
 (.seq (.seq (.ops [(none, .mv 6 (.c (.I 0)))])
 (.block 0 (.loop (.seq (.seq (.ops [(none, .mv 20 (.t 6)),
 (none, .mv 21 (.t 5)),
 (none, .len 22 (.t 21)),
 (none, .bin 23 .lss (.t 20) (.t 22))])
 (.cond (.t 23) (.skip)
 (.exit 0)))
 (.seq (.block 1 (.seq (.draw [⟨(none, .loadN 26 4 (.t 1)), [], []⟩,
 ⟨(none, .mv 27 (.t 5)), [], []⟩,
 ⟨(none, .mv 28 (.t 6)), [], []⟩,
 ⟨(none, .idxS 29 3 (.t 27) (.t 28)), [], []⟩,
 ⟨(none, .loadN 30 3 (.t 29)), [], []⟩,
 ⟨(none, .call (some 31) F.spec_l2Has [(.t 26), (.t 30)]), [], []⟩,
 ⟨(none, .un 32 .not (.t 31)), [], []⟩])
 (.cond (.t 32) (.draw [⟨(none, .fieldAddr 33 (.t 4) 3), [], []⟩,
 ⟨(none, .load1 34 (.t 33)), [], []⟩,
 ⟨(none, .mv 35 (.t 5)), [], []⟩,
 ⟨(none, .mv 36 (.t 6)), [], []⟩,
 ⟨(none, .idxS 37 3 (.t 35) (.t 36)), [], []⟩,
 ⟨(none, .loadN 38 3 (.t 37)), [], []⟩,
 ⟨(none, .buildSl 39 1 3 [(.I 0), (.I 0), (.I 0)] [(0, 3, (.t 38))]), [], []⟩,
 ⟨(none, .append 40 3 24 (.t 34) (.t 39)), [], []⟩,
 ⟨(none, .fieldAddr 41 (.t 4) 3), [], []⟩,
 ⟨(none, .store 1 (.t 41) (.t 40)), [], []⟩])
 (.skip))))
 (.ops [(none, .mv 24 (.t 6)),
 (none, .bin 25 .add (.t 24) (.c (.I 1))),
 (none, .mv 6 (.t 25))]))))))
 (.seq (.ops [(none, .loadN 42 4 (.t 4)),
 (none, .store 4 (.t 2) (.t 42)),
 (none, .mv 3 (.c (.B true)))])
 (.ret)))))⟩
def spec_l2Stack : AFn :=
 ⟨4, 56, [.cellN 8 4],
 .seq (.ops [(none, .alloc 8 [(.I 0), (.I 0), (.I 0), .nil])])
 (.seq (.ops [(none, .mv 12 (.t 0)),
 (none, .mv 13 (.t 1)),
 (none, .mv 14 (.t 2)),
 (none, .call (some 15) F.spec_l2Empty [(.t 12), (.t 13), (.t 14)]),
 (none, .alloc 9 [(.I 0), (.I 0), (.I 0), .nil]),
 (none, .store 4 (.t 9) (.t 15))])
 (.seq (.ops [(none, .loadN 16 4 (.t 9)),
 (none, .call (some 17) F.spec_l2All [(.t 16)]),
 (none, .mv 10 (.t 17))])
 (.seq (.seq (.ops [(none, .mv 11 (.c (.I 0)))])
 (.block 0 (.loop (.seq (.seq (.ops [(none, .mv 18 (.t 11)),
 (none, .mv 19 (.t 10)),
 (none, .len 20 (.t 19)),
 (none, .bin 21 .lss (.t 18) (.t 20))])
 (.cond (.t 21) (.skip)
 (.exit 0)))
 (.seq (.block 1 (.seq (.draw [⟨(none, .mv 24 (.t 10)), [], []⟩,
 ⟨(none, .mv 25 (.t 11)), [], []⟩,
 ⟨(none, .idxS 26 3 (.t 24) (.t 25)), [], []⟩,
 ⟨(none, .idxA 27 3 1 (.t 26) (.c (.I 2))), [], []⟩,
 ⟨(none, .load1 28 (.t 27)), [], []⟩,
 ⟨(none, .mv 29 (.t 3)), [], []⟩,
 ⟨(none, .mv 30 (.t 10)), [], []⟩,
 ⟨(none, .mv 31 (.t 11)), [], []⟩,
 ⟨(none, .idxS 32 3 (.t 30) (.t 31)), [], []⟩,
 ⟨(none, .idxA 33 3 1 (.t 32) (.c (.I 0))), [], []⟩,
 ⟨(none, .load1 34 (.t 33)), [], []⟩,
 ⟨(none, .mv 35 (.t 1)), [], []⟩,
 ⟨(none, .bin 36 .mul (.t 34) (.t 35)), [], []⟩,
 ⟨(none, .mv 37 (.t 10)), [], []⟩,
 ⟨(none, .mv 38 (.t 11)), [], []⟩,
 ⟨(none, .idxS 39 3 (.t 37) (.t 38)), [], []⟩,
 ⟨(none, .idxA 40 3 1 (.t 39) (.c (.I 1))), [], []⟩,
 ⟨(none, .load1 41 (.t 40)), [], []⟩,
 ⟨(none, .bin 42 .add (.t 36) (.t 41)), [], []⟩,
 ⟨(none, .idxS 43 1 (.t 29) (.t 42)), [], []⟩,
 ⟨(none, .load1 44 (.t 43)), [], []⟩,
 ⟨(none, .bin 45 .lss (.t 28) (.t 44)), [], []⟩])
 (.cond (.t 45) (.draw [⟨(none, .fieldAddr 46 (.t 9) 3), [], []⟩,
 ⟨(none, .load1 47 (.t 46)), [], []⟩,
 ⟨(none, .mv 48 (.t 10)), [], []⟩,
 ⟨(none, .mv 49 (.t 11)), [], []⟩,
 ⟨(none, .idxS 50 3 (.t 48) (.t 49)), [], []⟩,
 ⟨(none, .loadN 51 3 (.t 50)), [], []⟩,
 ⟨(none, .buildSl 52 1 3 [(.I 0), (.I 0), (.I 0)] [(0, 3, (.t 51))]), [], []⟩,
 ⟨(none, .append 53 3 24 (.t 47) (.t 52)), [], []⟩,
 ⟨(none, .fieldAddr 54 (.t 9) 3), [], []⟩,
 ⟨(none, .store 1 (.t 54) (.t 53)), [], []⟩])
 (.skip))))
 (.ops [(none, .mv 22 (.t 11)),
 (none, .bin 23 .add (.t 22) (.c (.I 1))),
 (none, .mv 11 (.t 23))]))))))
 (.seq (.ops [(none, .loadN 55 4 (.t 9)),
 (none, .store 4 (.t 8) (.t 55))])
 (.ret)))))⟩
end Go.Ab.C

/- That the program has this code. -/
namespace Go.Ab.K
open Go Go.Ab
theorem spec_OtherCells : prepF Go.Proofs.Try.prog F.spec_OtherCells = some C.spec_OtherCells := by kernel_rfl
theorem spec_l2Stack : prepF Go.Proofs.Try.prog F.spec_l2Stack = some C.spec_l2Stack := by kernel_rfl
end Go.Ab.K

/- Contracts: the cells without cubes, as a heap, and stacks; the reference's side. -/
namespace Go.Ab
open Go
set_option linter.unusedSimpArgs false
set_option linter.unusedVariables false
set_option maxRecDepth 20000

theorem take_snoc' {α : Type} {l : List α} {i : Nat} {d : α} (h : i < l.length) : l.take (i + 1) = l.take i ++ [l.getD i d] := by
  rw [List.take_succ, List.getElem?_eq_getElem h]; simp [h]
section
variable {x y z : Int} {t o : Nat} {cs : List Cell} {M : Mem} (h : Tri M t o cs) (hn : cs.length ≤ 1000000000)
include h hn
theorem h_OtherCells : CallsR PG F.spec_OtherCells [.agg [.I x, .I y, .I z, .ref t o cs.length]] M fun v N => (HeapOK x y z cs → ∃ u, v = .tup [.agg [.I x, .I y, .I z, .ref u 0 (pick x y z (freeP cs)).length], .B true] ∧ Live N u (.row (triL (pick x y z (freeP cs))) true 3) ∧ M.length ≤ u) ∧ (¬ HeapOK x y z cs → v = .tup [.agg [.I 0, .I 0, .I 0, .nil], .B false]) ∧ Pre M N := by
  refine callsR_run K.spec_OtherCells rfl ?_
  simp (disch := omega) only [C.spec_OtherCells, ↓SXd, SXu, slBounds, ↓sop, ↓aop, ↓reduceIte, LV.cells, AOp.dst, LV.I, LV.B, LV.U, LV.S, LV.nil, Nat.reduceEqDiff, Nat.reduceAdd, Nat.reduceMul, Nat.reduceSub, Nat.reduceLeDiff, Nat.reduceBEq, Nat.reduceDiv, Nat.reduceMod, Int.reduceToNat, Int.reduceLT, Int.reduceLE, Int.reduceAdd, Int.reduceSub, Int.reduceMul, Int.reduceEq, Int.reduceNeg, reduceCtorEq, resV, resAll, ARes.ev, LV.flat, ite_true, ite_false, exists_eq_left', exists_eq_left, keyOf, implies_true, fillC, capOf]
  refine callK_of (h_l2Heap h.app hn) ?_
  simp (disch := omega) only [↓SXd, SXu, slBounds, ↓sop, ↓aop, ↓reduceIte, LV.cells, AOp.dst, LV.I, LV.B, LV.U, LV.S, LV.nil, Nat.reduceEqDiff, Nat.reduceAdd, Nat.reduceMul, Nat.reduceSub, Nat.reduceLeDiff, Nat.reduceBEq, Nat.reduceDiv, Nat.reduceMod, Int.reduceToNat, Int.reduceLT, Int.reduceLE, Int.reduceAdd, Int.reduceSub, Int.reduceMul, Int.reduceEq, Int.reduceNeg, reduceCtorEq, resV, resAll, ARes.ev, LV.flat, ite_true, ite_false, exists_eq_left', exists_eq_left, keyOf, implies_true, fillC, capOf]
  by_cases hH : HeapOK x y z cs
  · rw [decide_eq_true hH]
    have hS := hH.1
    have hv := vol_cast hS
    have ht := h.lt
    have hcl : (cellsOf x y z).length = vol x y z := by simp [cellsOf]
    simp (disch := omega) only [↓SXd, SXu, slBounds, ↓sop, ↓aop, ↓reduceIte, LV.cells, AOp.dst, LV.I, LV.B, LV.U, LV.S, LV.nil, Nat.reduceEqDiff, Nat.reduceAdd, Nat.reduceMul, Nat.reduceSub, Nat.reduceLeDiff, Nat.reduceBEq, Nat.reduceDiv, Nat.reduceMod, Int.reduceToNat, Int.reduceLT, Int.reduceLE, Int.reduceAdd, Int.reduceSub, Int.reduceMul, Int.reduceEq, Int.reduceNeg, reduceCtorEq, resV, resAll, ARes.ev, LV.flat, ite_true, ite_false, exists_eq_left', exists_eq_left, keyOf, implies_true, fillC, capOf]
    refine callK_of (h_l2Empty) ?_
    simp (disch := omega) only [splice, ↓SXd, SXu, slBounds, ↓sop, ↓aop, ↓reduceIte, LV.cells, AOp.dst, LV.I, LV.B, LV.U, LV.S, LV.nil, Nat.reduceEqDiff, Nat.reduceAdd, Nat.reduceMul, Nat.reduceSub, Nat.reduceLeDiff, Nat.reduceBEq, Nat.reduceDiv, Nat.reduceMod, Int.reduceToNat, Int.reduceLT, Int.reduceLE, Int.reduceAdd, Int.reduceSub, Int.reduceMul, Int.reduceEq, Int.reduceNeg, reduceCtorEq, resV, resAll, ARes.ev, LV.flat, ite_true, ite_false, exists_eq_left', exists_eq_left, keyOf, implies_true, fillC, capOf]
    refine callK_of (h_l2All hS) ?_
    simp (disch := omega) only [splice, ↓SXd, SXu, slBounds, ↓sop, ↓aop, ↓reduceIte, LV.cells, AOp.dst, LV.I, LV.B, LV.U, LV.S, LV.nil, Nat.reduceEqDiff, Nat.reduceAdd, Nat.reduceMul, Nat.reduceSub, Nat.reduceLeDiff, Nat.reduceBEq, Nat.reduceDiv, Nat.reduceMod, Int.reduceToNat, Int.reduceLT, Int.reduceLE, Int.reduceAdd, Int.reduceSub, Int.reduceMul, Int.reduceEq, Int.reduceNeg, reduceCtorEq, resV, resAll, ARes.ev, LV.flat, ite_true, ite_false, exists_eq_left', exists_eq_left, keyOf, implies_true, fillC, capOf]
    refine ev_loop (fun m fr1 M' => ∃ i u : Nat, i + m = (cellsOf x y z).length ∧ Pre M M' ∧ Live M' M.length (.row [.I x, .I y, .I z, .ref t o cs.length] true 0) ∧ Live M' (M.length + 1) (.row [.I 0, .I 0, .I 0, .nil] true 0) ∧
      Live M' (M.length + 2) (.row [.I x, .I y, .I z, .ref u 0 (((cellsOf x y z).take i).filter (freeP cs)).length] true 0) ∧ Live M' (M.length + 4) (.row (triL (cellsOf x y z)) true 3) ∧ Live M' u (.row (triL (((cellsOf x y z).take i).filter (freeP cs))) true 3) ∧ (u = M.length + 3 ∨ M.length + 4 < u) ∧
      fr1 1 = .ptr M.length 0 ∧ fr1 2 = .ptr (M.length + 1) 0 ∧ fr1 4 = .ptr (M.length + 2) 0 ∧ fr1 5 = .ref (M.length + 4) 0 (cellsOf x y z).length ∧ fr1 6 = .I i) (cellsOf x y z).length
      ⟨0, M.length + 3, by omega, Pre.app _ _, Live.new, Live.newj rfl, Live.newj rfl, Live.newj rfl, Live.newj rfl, .inl rfl, rfl, rfl, rfl, rfl, rfl⟩ ?_
    rintro m fr1 M' ⟨i, u, hi, hpre, b1, b2, b3, b4, bu, hu, f1, f2, f4, f5, f6⟩
    simp (disch := omega) only [f1, f2, f4, f5, f6, ↓SXd, SXu, slBounds, ↓sop, ↓aop, ↓reduceIte, LV.cells, AOp.dst, LV.I, LV.B, LV.U, LV.S, LV.nil, Nat.reduceEqDiff, Nat.reduceAdd, Nat.reduceMul, Nat.reduceSub, Nat.reduceLeDiff, Nat.reduceBEq, Nat.reduceDiv, Nat.reduceMod, Int.reduceToNat, Int.reduceLT, Int.reduceLE, Int.reduceAdd, Int.reduceSub, Int.reduceMul, Int.reduceEq, Int.reduceNeg, reduceCtorEq, resV, resAll, ARes.ev, LV.flat, ite_true, ite_false, exists_eq_left', exists_eq_left, keyOf, implies_true, fillC, capOf]
    refine condC_dec (fun hlt => ?_) (fun hlt => ?_)
    · have hil : i < (cellsOf x y z).length := by omega
      have hci := b4.tri0 hil
      have hts := take_snoc' (d := default) hil
      have hal : (((cellsOf x y z).take i).filter (freeP cs)).length ≤ 64 := by
        have q1 := List.length_filter_le (freeP cs) ((cellsOf x y z).take i)
        have q2 := List.length_take_le i (cellsOf x y z)
        omega
      generalize (cellsOf x y z).getD i default = c at hci hts
      have hstep : ((cellsOf x y z).take (i + 1)).filter (freeP cs) = ((cellsOf x y z).take i).filter (freeP cs) ++ (if freeP cs c then [c] else []) := by
        rw [hts, List.filter_append, List.filter_cons, List.filter_nil]
      simp (disch := omega) only [f1, f2, f4, f5, f6, b1.cells, hci, Cell.row, ↓SXd, SXu, slBounds, ↓sop, ↓aop, ↓reduceIte, LV.cells, AOp.dst, LV.I, LV.B, LV.U, LV.S, LV.nil, Nat.reduceEqDiff, Nat.reduceAdd, Nat.reduceMul, Nat.reduceSub, Nat.reduceLeDiff, Nat.reduceBEq, Nat.reduceDiv, Nat.reduceMod, Int.reduceToNat, Int.reduceLT, Int.reduceLE, Int.reduceAdd, Int.reduceSub, Int.reduceMul, Int.reduceEq, Int.reduceNeg, reduceCtorEq, resV, resAll, ARes.ev, LV.flat, ite_true, ite_false, exists_eq_left', exists_eq_left, keyOf, implies_true, fillC, capOf]
      refine callK_of (h_l2Has (h.pre hpre) (by omega)) ?_
      simp (disch := omega) only [f1, f2, f4, f5, f6, ↓SXd, SXu, slBounds, ↓sop, ↓aop, ↓reduceIte, LV.cells, AOp.dst, LV.I, LV.B, LV.U, LV.S, LV.nil, Nat.reduceEqDiff, Nat.reduceAdd, Nat.reduceMul, Nat.reduceSub, Nat.reduceLeDiff, Nat.reduceBEq, Nat.reduceDiv, Nat.reduceMod, Int.reduceToNat, Int.reduceLT, Int.reduceLE, Int.reduceAdd, Int.reduceSub, Int.reduceMul, Int.reduceEq, Int.reduceNeg, reduceCtorEq, resV, resAll, ARes.ev, LV.flat, ite_true, ite_false, exists_eq_left', exists_eq_left, keyOf, implies_true, fillC, capOf]
      rw [cell_eta]
      have hfp : freeP cs c = !decide (c ∈ cs) := rfl
      by_cases hm : c ∈ cs
      · rw [decide_eq_true hm] at hfp ⊢
        simp (disch := omega) only [f1, f2, f4, f5, f6, ↓SXd, SXu, slBounds, ↓sop, ↓aop, ↓reduceIte, LV.cells, AOp.dst, LV.I, LV.B, LV.U, LV.S, LV.nil, Nat.reduceEqDiff, Nat.reduceAdd, Nat.reduceMul, Nat.reduceSub, Nat.reduceLeDiff, Nat.reduceBEq, Nat.reduceDiv, Nat.reduceMod, Int.reduceToNat, Int.reduceLT, Int.reduceLE, Int.reduceAdd, Int.reduceSub, Int.reduceMul, Int.reduceEq, Int.reduceNeg, reduceCtorEq, resV, resAll, ARes.ev, LV.flat, ite_true, ite_false, exists_eq_left', exists_eq_left, keyOf, implies_true, fillC, capOf]
        rw [hfp, if_neg (by simp), List.append_nil] at hstep
        rw [← hstep] at b3 bu
        exact ⟨m - 1, by omega, i + 1, u, by omega, hpre, b1, b2, b3, b4, bu, hu, f1, f2, f4, f5, eqI (natI _)⟩
      · rw [decide_eq_false hm] at hfp ⊢
        simp (disch := omega) only [f1, f2, f4, f5, f6, b3.cell, hci, Cell.row, splice, ↓SXd, SXu, slBounds, ↓sop, ↓aop, ↓reduceIte, LV.cells, AOp.dst, LV.I, LV.B, LV.U, LV.S, LV.nil, Nat.reduceEqDiff, Nat.reduceAdd, Nat.reduceMul, Nat.reduceSub, Nat.reduceLeDiff, Nat.reduceBEq, Nat.reduceDiv, Nat.reduceMod, Int.reduceToNat, Int.reduceLT, Int.reduceLE, Int.reduceAdd, Int.reduceSub, Int.reduceMul, Int.reduceEq, Int.reduceNeg, reduceCtorEq, resV, resAll, ARes.ev, LV.flat, ite_true, ite_false, exists_eq_left', exists_eq_left, keyOf, implies_true, fillC, capOf]
        rw [hfp, if_pos (by rfl)] at hstep
        refine appendK_cell bu (by omega) fun N' l1 l2 l3 => ?_
        have hl4 := b4.lt
        have d3 := live_step b3 (by omega) l3
        simp (disch := omega) only [f1, f2, f4, f5, f6, ↓SXd, SXu, slBounds, ↓sop, ↓aop, ↓reduceIte, LV.cells, AOp.dst, LV.I, LV.B, LV.U, LV.S, LV.nil, Nat.reduceEqDiff, Nat.reduceAdd, Nat.reduceMul, Nat.reduceSub, Nat.reduceLeDiff, Nat.reduceBEq, Nat.reduceDiv, Nat.reduceMod, Int.reduceToNat, Int.reduceLT, Int.reduceLE, Int.reduceAdd, Int.reduceSub, Int.reduceMul, Int.reduceEq, Int.reduceNeg, reduceCtorEq, resV, resAll, ARes.ev, LV.flat, ite_true, ite_false, exists_eq_left', exists_eq_left, keyOf, implies_true, fillC, capOf]
        refine memK_one d3 (by simp) fun N3 j1 j2 j3 => ?_
        simp (disch := omega) only [f1, f2, f4, f5, f6, ↓SXd, SXu, slBounds, ↓sop, ↓aop, ↓reduceIte, LV.cells, AOp.dst, LV.I, LV.B, LV.U, LV.S, LV.nil, Nat.reduceEqDiff, Nat.reduceAdd, Nat.reduceMul, Nat.reduceSub, Nat.reduceLeDiff, Nat.reduceBEq, Nat.reduceDiv, Nat.reduceMod, Int.reduceToNat, Int.reduceLT, Int.reduceLE, Int.reduceAdd, Int.reduceSub, Int.reduceMul, Int.reduceEq, Int.reduceNeg, reduceCtorEq, resV, resAll, ARes.ev, LV.flat, ite_true, ite_false, exists_eq_left', exists_eq_left, keyOf, implies_true, fillC, capOf]
        rw [cell_eta, ← hstep] at l2 j2
        exact ⟨m - 1, by omega, i + 1, M'.length + 1, by omega, pre_step (pre_step hpre (by omega) l1 l3) (by omega) (j := 0) j1 j3, live_step (live_step b1 (by omega) l3) (by omega) j3, live_step (live_step b2 (by omega) l3) (by omega) j3, j2, live_step (live_step b4 (by omega) l3) (by omega) j3, live_step l2 (by omega) j3, by omega, f1, f2, f4, f5, eqI (natI _)⟩
    · simp (disch := omega) only [f1, f2, f4, f5, f6, b3.cells, ↓SXd, SXu, slBounds, ↓sop, ↓aop, ↓reduceIte, LV.cells, AOp.dst, LV.I, LV.B, LV.U, LV.S, LV.nil, Nat.reduceEqDiff, Nat.reduceAdd, Nat.reduceMul, Nat.reduceSub, Nat.reduceLeDiff, Nat.reduceBEq, Nat.reduceDiv, Nat.reduceMod, Int.reduceToNat, Int.reduceLT, Int.reduceLE, Int.reduceAdd, Int.reduceSub, Int.reduceMul, Int.reduceEq, Int.reduceNeg, reduceCtorEq, resV, resAll, ARes.ev, LV.flat, ite_true, ite_false, exists_eq_left', exists_eq_left, keyOf, implies_true, fillC, capOf]
      have : i = (cellsOf x y z).length := by omega
      subst this
      rw [List.take_length] at b3 bu
      change Live M' u (.row (triL (pick x y z (freeP cs))) true 3) at bu
      refine memK_box b2 (by simp) fun N3 k1 k2 k3 => ?_
      simp (disch := omega) only [f1, f2, f4, f5, f6, k2.cells, ↓SXd, SXu, slBounds, ↓sop, ↓aop, ↓reduceIte, LV.cells, AOp.dst, LV.I, LV.B, LV.U, LV.S, LV.nil, Nat.reduceEqDiff, Nat.reduceAdd, Nat.reduceMul, Nat.reduceSub, Nat.reduceLeDiff, Nat.reduceBEq, Nat.reduceDiv, Nat.reduceMod, Int.reduceToNat, Int.reduceLT, Int.reduceLE, Int.reduceAdd, Int.reduceSub, Int.reduceMul, Int.reduceEq, Int.reduceNeg, reduceCtorEq, resV, resAll, ARes.ev, LV.flat, ite_true, ite_false, exists_eq_left', exists_eq_left, keyOf, implies_true, fillC, capOf]
      exact ⟨fun _ => ⟨u, by rw [List.take_length]; rfl, live_step bu (by omega) k3, by omega⟩, fun hno => absurd hH hno, pre_step hpre (by omega) (j := 0) k1 k3⟩
  · rw [decide_eq_false hH]
    simp (disch := omega) only [splice, ↓SXd, SXu, slBounds, ↓sop, ↓aop, ↓reduceIte, LV.cells, AOp.dst, LV.I, LV.B, LV.U, LV.S, LV.nil, Nat.reduceEqDiff, Nat.reduceAdd, Nat.reduceMul, Nat.reduceSub, Nat.reduceLeDiff, Nat.reduceBEq, Nat.reduceDiv, Nat.reduceMod, Int.reduceToNat, Int.reduceLT, Int.reduceLE, Int.reduceAdd, Int.reduceSub, Int.reduceMul, Int.reduceEq, Int.reduceNeg, reduceCtorEq, resV, resAll, ARes.ev, LV.flat, ite_true, ite_false, exists_eq_left', exists_eq_left, keyOf, implies_true, fillC, capOf]
    exact ⟨fun hh => absurd hh hH, fun _ => rfl, Pre.app _ _⟩
end
def stackP (y : Int) (hs : List Int) (c : Cell) : Bool := decide (c.c < hs.getD (c.a * y + c.b).toNat 0)
theorem h_l2Stack {x y z : Int} {u q : Nat} {hs : List Int} {M : Mem} (hS : Sides x y z) (hX : Ints M u q hs) (hl : (hs.length : Int) = x * y) : CallsR PG F.spec_l2Stack [.I x, .I y, .I z, .ref u q hs.length] M fun v N => ∃ w, v = .agg [.I x, .I y, .I z, .ref w 0 (pick x y z (stackP y hs)).length] ∧ Live N w (.row (triL (pick x y z (stackP y hs))) true 3) ∧ M.length ≤ w ∧ Pre M N := by
  have hv := vol_cast hS
  have hul := hX.lt
  have hcl : (cellsOf x y z).length = vol x y z := by simp [cellsOf]
  obtain ⟨⟨_, _⟩, ⟨_, _⟩, ⟨_, _⟩⟩ := id hS
  refine callsR_run K.spec_l2Stack rfl ?_
  simp (disch := omega) only [C.spec_l2Stack, ↓SXd, SXu, slBounds, ↓sop, ↓aop, ↓reduceIte, LV.cells, AOp.dst, LV.I, LV.B, LV.U, LV.S, LV.nil, Nat.reduceEqDiff, Nat.reduceAdd, Nat.reduceMul, Nat.reduceSub, Nat.reduceLeDiff, Nat.reduceBEq, Nat.reduceDiv, Nat.reduceMod, Int.reduceToNat, Int.reduceLT, Int.reduceLE, Int.reduceAdd, Int.reduceSub, Int.reduceMul, Int.reduceEq, Int.reduceNeg, reduceCtorEq, resV, resAll, ARes.ev, LV.flat, ite_true, ite_false, exists_eq_left', exists_eq_left, keyOf, implies_true, fillC, capOf]
  refine callK_of (h_l2Empty) ?_
  simp (disch := omega) only [splice, ↓SXd, SXu, slBounds, ↓sop, ↓aop, ↓reduceIte, LV.cells, AOp.dst, LV.I, LV.B, LV.U, LV.S, LV.nil, Nat.reduceEqDiff, Nat.reduceAdd, Nat.reduceMul, Nat.reduceSub, Nat.reduceLeDiff, Nat.reduceBEq, Nat.reduceDiv, Nat.reduceMod, Int.reduceToNat, Int.reduceLT, Int.reduceLE, Int.reduceAdd, Int.reduceSub, Int.reduceMul, Int.reduceEq, Int.reduceNeg, reduceCtorEq, resV, resAll, ARes.ev, LV.flat, ite_true, ite_false, exists_eq_left', exists_eq_left, keyOf, implies_true, fillC, capOf]
  refine callK_of (h_l2All hS) ?_
  simp (disch := omega) only [splice, ↓SXd, SXu, slBounds, ↓sop, ↓aop, ↓reduceIte, LV.cells, AOp.dst, LV.I, LV.B, LV.U, LV.S, LV.nil, Nat.reduceEqDiff, Nat.reduceAdd, Nat.reduceMul, Nat.reduceSub, Nat.reduceLeDiff, Nat.reduceBEq, Nat.reduceDiv, Nat.reduceMod, Int.reduceToNat, Int.reduceLT, Int.reduceLE, Int.reduceAdd, Int.reduceSub, Int.reduceMul, Int.reduceEq, Int.reduceNeg, reduceCtorEq, resV, resAll, ARes.ev, LV.flat, ite_true, ite_false, exists_eq_left', exists_eq_left, keyOf, implies_true, fillC, capOf]
  refine ev_loop (fun m fr1 M' => ∃ i u' : Nat, i + m = (cellsOf x y z).length ∧ Pre M M' ∧ Live M' M.length (.row [.I 0, .I 0, .I 0, .nil] true 0) ∧
    Live M' (M.length + 2) (.row [.I x, .I y, .I z, .ref u' 0 (((cellsOf x y z).take i).filter (stackP y hs)).length] true 0) ∧ Live M' (M.length + 3) (.row (triL (cellsOf x y z)) true 3) ∧ Live M' u' (.row (triL (((cellsOf x y z).take i).filter (stackP y hs))) true 3) ∧ (u' = M.length + 1 ∨ M.length + 3 < u') ∧
    fr1 1 = .I y ∧ fr1 3 = .ref u q hs.length ∧ fr1 8 = .ptr M.length 0 ∧ fr1 9 = .ptr (M.length + 2) 0 ∧ fr1 10 = .ref (M.length + 3) 0 (cellsOf x y z).length ∧ fr1 11 = .I i) (cellsOf x y z).length
    ⟨0, M.length + 1, by omega, Pre.app _ _, Live.new, Live.newj rfl, Live.newj rfl, Live.newj rfl, .inl rfl, rfl, rfl, rfl, rfl, rfl, rfl⟩ ?_
  rintro m fr1 M' ⟨i, u', hi, hpre, b2, b3, b4, bu, hu, f1, f3, f8, f9, f10, f11⟩
  simp (disch := omega) only [f1, f3, f8, f9, f10, f11, ↓SXd, SXu, slBounds, ↓sop, ↓aop, ↓reduceIte, LV.cells, AOp.dst, LV.I, LV.B, LV.U, LV.S, LV.nil, Nat.reduceEqDiff, Nat.reduceAdd, Nat.reduceMul, Nat.reduceSub, Nat.reduceLeDiff, Nat.reduceBEq, Nat.reduceDiv, Nat.reduceMod, Int.reduceToNat, Int.reduceLT, Int.reduceLE, Int.reduceAdd, Int.reduceSub, Int.reduceMul, Int.reduceEq, Int.reduceNeg, reduceCtorEq, resV, resAll, ARes.ev, LV.flat, ite_true, ite_false, exists_eq_left', exists_eq_left, keyOf, implies_true, fillC, capOf]
  refine condC_dec (fun hlt => ?_) (fun hlt => ?_)
  · have hil : i < (cellsOf x y z).length := by omega
    have hci := b4.tri0 hil
    have ga := Tri.get_a b4.has hil
    have gb := Tri.get_b b4.has hil
    have gc := Tri.get_c b4.has hil
    have hcin := (mem_cellsOf hS).1 (getD_mem' (d := default) hil)
    have hts := take_snoc' (d := default) hil
    have hal : (((cellsOf x y z).take i).filter (stackP y hs)).length ≤ 64 := by
      have q1 := List.length_filter_le (stackP y hs) ((cellsOf x y z).take i)
      have q2 := List.length_take_le i (cellsOf x y z)
      omega
    generalize (cellsOf x y z).getD i default = c at hci hts ga gb gc hcin
    have hstep : ((cellsOf x y z).take (i + 1)).filter (stackP y hs) = ((cellsOf x y z).take i).filter (stackP y hs) ++ (if stackP y hs c then [c] else []) := by
      rw [hts, List.filter_append, List.filter_cons, List.filter_nil]
    rw [Nat.zero_add] at ga gb gc
    obtain ⟨⟨_, _⟩, ⟨_, _⟩, ⟨_, _⟩⟩ := id hcin
    have hpk : 0 ≤ c.a * y + c.b ∧ c.a * y + c.b < x * y ∧ 0 ≤ c.a * y ∧ c.a * y ≤ 12 := by
      rcases (show y = 1 ∨ y = 2 ∨ y = 3 ∨ y = 4 by omega) with rfl | rfl | rfl | rfl <;> omega
    obtain ⟨_, _, _, _⟩ := hpk
    have hkl : (c.a * y + c.b).toNat < hs.length := by omega
    have hx := Ints.get (hX.pre hpre) hkl
    have hidx : ((c.a * y + c.b).toNat : Int) = c.a * y + c.b := by omega
    have hfp : stackP y hs c = decide (c.c < hs.getD (c.a * y + c.b).toNat 0) := rfl
    generalize hs.getD (c.a * y + c.b).toNat 0 = hh at hx hfp
    by_cases hm : c.c < hh
    · rw [decide_eq_true hm] at hfp
      simp (disch := omega) only [f1, f3, f8, f9, f10, f11, ga, gb, gc, Nat.add_zero, Nat.mul_one, hx, hm, b3.cell, hci, Cell.row, splice, ↓SXd, SXu, slBounds, ↓sop, ↓aop, ↓reduceIte, LV.cells, AOp.dst, LV.I, LV.B, LV.U, LV.S, LV.nil, Nat.reduceEqDiff, Nat.reduceAdd, Nat.reduceMul, Nat.reduceSub, Nat.reduceLeDiff, Nat.reduceBEq, Nat.reduceDiv, Nat.reduceMod, Int.reduceToNat, Int.reduceLT, Int.reduceLE, Int.reduceAdd, Int.reduceSub, Int.reduceMul, Int.reduceEq, Int.reduceNeg, reduceCtorEq, resV, resAll, ARes.ev, LV.flat, ite_true, ite_false, exists_eq_left', exists_eq_left, keyOf, implies_true, fillC, capOf]
      rw [hfp, if_pos (by rfl)] at hstep
      refine appendK_cell bu (by omega) fun N' l1 l2 l3 => ?_
      have hl4 := b4.lt
      have d3 := live_step b3 (by omega) l3
      simp (disch := omega) only [f1, f3, f8, f9, f10, f11, ↓SXd, SXu, slBounds, ↓sop, ↓aop, ↓reduceIte, LV.cells, AOp.dst, LV.I, LV.B, LV.U, LV.S, LV.nil, Nat.reduceEqDiff, Nat.reduceAdd, Nat.reduceMul, Nat.reduceSub, Nat.reduceLeDiff, Nat.reduceBEq, Nat.reduceDiv, Nat.reduceMod, Int.reduceToNat, Int.reduceLT, Int.reduceLE, Int.reduceAdd, Int.reduceSub, Int.reduceMul, Int.reduceEq, Int.reduceNeg, reduceCtorEq, resV, resAll, ARes.ev, LV.flat, ite_true, ite_false, exists_eq_left', exists_eq_left, keyOf, implies_true, fillC, capOf]
      refine memK_one d3 (by simp) fun N3 j1 j2 j3 => ?_
      simp (disch := omega) only [f1, f3, f8, f9, f10, f11, ↓SXd, SXu, slBounds, ↓sop, ↓aop, ↓reduceIte, LV.cells, AOp.dst, LV.I, LV.B, LV.U, LV.S, LV.nil, Nat.reduceEqDiff, Nat.reduceAdd, Nat.reduceMul, Nat.reduceSub, Nat.reduceLeDiff, Nat.reduceBEq, Nat.reduceDiv, Nat.reduceMod, Int.reduceToNat, Int.reduceLT, Int.reduceLE, Int.reduceAdd, Int.reduceSub, Int.reduceMul, Int.reduceEq, Int.reduceNeg, reduceCtorEq, resV, resAll, ARes.ev, LV.flat, ite_true, ite_false, exists_eq_left', exists_eq_left, keyOf, implies_true, fillC, capOf]
      rw [cell_eta, ← hstep] at l2 j2
      exact ⟨m - 1, by omega, i + 1, M'.length + 1, by omega, pre_step (pre_step hpre (by omega) l1 l3) (by omega) (j := 0) j1 j3, live_step (live_step b2 (by omega) l3) (by omega) j3, j2, live_step (live_step b4 (by omega) l3) (by omega) j3, live_step l2 (by omega) j3, by omega, f1, f3, f8, f9, f10, eqI (natI _)⟩
    · rw [decide_eq_false hm] at hfp
      simp (disch := omega) only [f1, f3, f8, f9, f10, f11, ga, gb, gc, Nat.add_zero, Nat.mul_one, hx, hm, ↓SXd, SXu, slBounds, ↓sop, ↓aop, ↓reduceIte, LV.cells, AOp.dst, LV.I, LV.B, LV.U, LV.S, LV.nil, Nat.reduceEqDiff, Nat.reduceAdd, Nat.reduceMul, Nat.reduceSub, Nat.reduceLeDiff, Nat.reduceBEq, Nat.reduceDiv, Nat.reduceMod, Int.reduceToNat, Int.reduceLT, Int.reduceLE, Int.reduceAdd, Int.reduceSub, Int.reduceMul, Int.reduceEq, Int.reduceNeg, reduceCtorEq, resV, resAll, ARes.ev, LV.flat, ite_true, ite_false, exists_eq_left', exists_eq_left, keyOf, implies_true, fillC, capOf]
      rw [hfp, if_neg (by simp), List.append_nil] at hstep
      rw [← hstep] at b3 bu
      exact ⟨m - 1, by omega, i + 1, u', by omega, hpre, b2, b3, b4, bu, hu, f1, f3, f8, f9, f10, eqI (natI _)⟩
  · simp (disch := omega) only [f1, f3, f8, f9, f10, f11, b3.cells, ↓SXd, SXu, slBounds, ↓sop, ↓aop, ↓reduceIte, LV.cells, AOp.dst, LV.I, LV.B, LV.U, LV.S, LV.nil, Nat.reduceEqDiff, Nat.reduceAdd, Nat.reduceMul, Nat.reduceSub, Nat.reduceLeDiff, Nat.reduceBEq, Nat.reduceDiv, Nat.reduceMod, Int.reduceToNat, Int.reduceLT, Int.reduceLE, Int.reduceAdd, Int.reduceSub, Int.reduceMul, Int.reduceEq, Int.reduceNeg, reduceCtorEq, resV, resAll, ARes.ev, LV.flat, ite_true, ite_false, exists_eq_left', exists_eq_left, keyOf, implies_true, fillC, capOf]
    have : i = (cellsOf x y z).length := by omega
    subst this
    rw [List.take_length] at b3 bu
    change Live M' u' (.row (triL (pick x y z (stackP y hs))) true 3) at bu
    refine memK_box b2 (by simp) fun N3 k1 k2 k3 => ?_
    simp (disch := omega) only [f1, f3, f8, f9, f10, f11, k2.cells, ↓SXd, SXu, slBounds, ↓sop, ↓aop, ↓reduceIte, LV.cells, AOp.dst, LV.I, LV.B, LV.U, LV.S, LV.nil, Nat.reduceEqDiff, Nat.reduceAdd, Nat.reduceMul, Nat.reduceSub, Nat.reduceLeDiff, Nat.reduceBEq, Nat.reduceDiv, Nat.reduceMod, Int.reduceToNat, Int.reduceLT, Int.reduceLE, Int.reduceAdd, Int.reduceSub, Int.reduceMul, Int.reduceEq, Int.reduceNeg, reduceCtorEq, resV, resAll, ARes.ev, LV.flat, ite_true, ite_false, exists_eq_left', exists_eq_left, keyOf, implies_true, fillC, capOf]
    exact ⟨u', by rw [List.take_length]; rfl, live_step bu (by omega) k3, by omega, pre_step hpre (by omega) (j := 0) k1 k3⟩
end Go.Ab

/- The abstract code of some functions (written by a program of mine from the translation, by way of prepF). -/
namespace Go.Ab.C
open Go.Ab
end Go.Ab.C

/- That the program has this code. -/
namespace Go.Ab.K
open Go Go.Ab
end Go.Ab.K

/- Contracts: full boxes of the reference. -/
namespace Go.Ab
open Go
set_option linter.unusedSimpArgs false
set_option linter.unusedVariables false
set_option maxRecDepth 20000

/-- A heap as a value, all of whose cells are new. -/
def HeapV (M : Mem) (x y z : Int) (cs : List Cell) (v : LV) (N : Mem) : Prop := ∃ u : Nat, v = .agg [.I x, .I y, .I z, .ref u 0 cs.length] ∧ Live N u (.row (triL cs) true 3) ∧ M.length ≤ u
end Go.Ab

/- Contracts: pieces that fit, places, boxes, parities: the reference's side. -/
namespace Go.Ab
open Go
set_option linter.unusedSimpArgs false
set_option linter.unusedVariables false
set_option maxRecDepth 20000

theorem PieceOK.le {l : List Cell} (h : PieceOK l) : l.length ≤ 5 := h.1.2
def FitQ (x y z : Int) (cs l : List Cell) : Prop := HeapOK x y z cs ∧ PieceOK l
noncomputable def fitOf (x y z : Int) (cs l : List Cell) (p : Cell) : Option Bool := by
  classical
  exact if FitQ x y z cs l then some (decide (FitsP x y z cs l p)) else none
noncomputable def placesOf (x y z : Int) (cs l : List Cell) : Option (List Cell) := by
  classical
  exact if FitQ x y z cs l then some (pick x y z fun c => decide (FitsP x y z cs l c)) else none
noncomputable def boxOf (x y z : Int) : Option (List Cell) := by
  classical
  exact if Sides x y z ∧ vol x y z ≤ 5 then some (cellsOf x y z) else none
noncomputable def ppOf (l : List Cell) : Option Int := by
  classical
  exact if PieceOK l then some (max (parL l) (0 - parL l)) else none
noncomputable def fpOf (x y z : Int) (cs : List Cell) : Option Int := by
  classical
  exact if HeapOK x y z cs then some (parL (pick x y z (freeP cs))) else none
section
variable {x y z : Int} {t o u q : Nat} {cs l : List Cell} {M : Mem} (h : Tri M t o cs) (hn : cs.length ≤ 1000000000) (hl : Tri M u q l) (hln : l.length ≤ 1000000000)
include hl hln
include h hn
end
end Go.Ab

/- Contracts: pieces that fit, places, boxes, parities, other cells: the program's side. -/
namespace Go.Ab
open Go
set_option linter.unusedSimpArgs false
set_option linter.unusedVariables false
set_option maxRecDepth 20000

noncomputable instance {x y z : Int} {cs l : List Cell} : Decidable (FitQ x y z cs l) := Classical.propDecidable _
section
variable {x y z : Int} {t o u q : Nat} {cs l : List Cell} {M : Mem} (h : Tri M t o cs) (hn : cs.length ≤ 1000000000) (hl : Tri M u q l) (hln : l.length ≤ 1000000000)
include hl hln
include h hn
end
end Go.Ab

/- Plain: boxes as pieces; parities of all cells; places. -/
namespace Go.Ab
open Go
set_option linter.unusedSimpArgs false
set_option linter.unusedVariables false
set_option maxRecDepth 20000

end Go.Ab
