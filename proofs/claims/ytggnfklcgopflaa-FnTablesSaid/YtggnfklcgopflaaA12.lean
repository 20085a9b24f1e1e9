/- Parts of the proof of FnTablesSaid: LFnTables Re. -/
import Derived.Test.YtggnfklcgopflaaA4
import Derived.Test.YtggnfklcgopflaaA6
import Derived.Test.YtggnfklcgopflaaA7
import Derived.Test.YtggnfklcgopflaaA11
set_option linter.all false
/- The law of tables. -/
namespace Go.Ab
open Go
set_option linter.unusedSimpArgs false
set_option linter.unusedVariables false
set_option maxRecDepth 20000

theorem tabG_eq {f : FuncId} {args : List LV} {M : Mem} {L T : List (List Int)} {b e : Bool} (h : CallsR PG f args M (TabG M L b)) (h1 : L = T) (h2 : b = e) : CallsR PG f args M (TabG M T e) := by
  subst h1 h2
  exact h
theorem with_facts (x y z : Int) (cs : List Cell) (d : Int) : ∃ (L V : List Int) (q : Bool) (g : Int), withOf x y z cs d = L ∧ vwOf x y z cs d = V ∧ sqrB x y z cs d = q ∧ fullOf x y z cs d = g ∧ L.length ≤ 1000 ∧ V.length ≤ 1000 ∧
    (q = true → 0 < L.length ∧ g = L.getD (L.length - 1) 0 ∧ litSum L = (V.length : Nat) ∧ ∀ i, 0 ≤ L.getD i 0 ∧ L.getD i 0 ≤ 1000000) := by
  refine ⟨_, _, _, _, rfl, rfl, rfl, rfl, ?_⟩
  by_cases h : HeapOK x y z cs ∧ Dir d
  · have hd : 0 ≤ d ∧ d < 3 := by have := h.2; unfold Dir at this; omega
    obtain ⟨n, rfl⟩ : ∃ n : Nat, d = n := ⟨d.toNat, by omega⟩
    have e1 : withOf x y z cs n = withF (sideOf x y z (n : Nat)).toNat (viewL x y z n cs) := if_pos h
    have e2 : vwOf x y z cs n = viewL x y z n cs := if_pos h
    have hwl := withF_len (s := (sideOf x y z (n : Nat)).toNat) (V := viewL x y z n cs)
    have sD := sideOf_in h.1.1 (n : Nat)
    have hl := lines_le h.1.1 (d := n) (by omega)
    have hvl := viewL_len (x := x) (y := y) (z := z) (d := n) (cs := cs)
    have hvb := view_in h.1 (d := n) (by omega)
    have hsum := withF_sum (s := (sideOf x y z (n : Nat)).toNat) (viewL x y z n cs) fun v hv => by have := hvb v hv; omega
    have hbd := withF_bound (s := (sideOf x y z (n : Nat)).toNat) (viewL x y z n cs)
    unfold fullOf
    rw [e1, e2]
    refine ⟨by omega, by omega, fun _ => ⟨by omega, by rw [hwl]; rfl, hsum, fun i => ?_⟩⟩
    by_cases hi : i < (withF (sideOf x y z (n : Nat)).toNat (viewL x y z n cs)).length
    · have := hbd _ (getD_mem' (d := 0) hi); omega
    · rw [List.getD_eq_getElem?_getD, List.getElem?_eq_none (by omega)]; simp
  · rw [show withOf x y z cs d = [] from if_neg h, show vwOf x y z cs d = [] from if_neg h]
    exact ⟨by simp, by simp, fun hq => (h (of_decide_eq_true hq)).elim⟩
theorem intsG_eq {f : FuncId} {args : List LV} {M : Mem} {L T : List Int} {b e : Bool} (h : CallsR PG f args M (IntsG M L b)) (h1 : L = T) (h2 : b = e) : CallsR PG f args M (IntsG M T e) := by
  subst h1 h2
  exact h
set_option maxHeartbeats 1000000 in
theorem l_FnTables {t : Nat} {bs : List Nat} {M : Mem} (h : Bytes M t 0 bs) (hn : bs.length ≤ 9223372036854775807 ∧ ∀ b ∈ bs, b ≤ 255) :
    CallsR PG F.laws_FnTables [.ref t 0 bs.length] M fun v _ => v = .B true := by
  have htM := h.lt
  refine callsR_run K.laws_FnTables rfl ?_
  simp (disch := omega) only [C.laws_FnTables, ↓SXd, SXu, slBounds, ↓sop, ↓aop, ↓reduceIte, LV.cells, AOp.dst, LV.I, LV.B, LV.U, LV.S, LV.nil, Nat.reduceEqDiff, Nat.reduceAdd, Nat.reduceMul, Nat.reduceSub, Nat.reduceLeDiff, Nat.reduceBEq, Nat.reduceDiv, Nat.reduceMod, Int.reduceToNat, Int.reduceLT, Int.reduceLE, Int.reduceAdd, Int.reduceSub, Int.reduceMul, Int.reduceEq, Int.reduceNeg, reduceCtorEq, resV, resAll, ARes.ev, LV.flat, ite_true, ite_false, exists_eq_left', exists_eq_left, keyOf, implies_true, fillC, capOf]
  refine callK_of (k_rBig hn.1) ?_
  simp (disch := omega) only [↓SXd, SXu, slBounds, ↓sop, ↓aop, ↓reduceIte, LV.cells, AOp.dst, LV.I, LV.B, LV.U, LV.S, LV.nil, Nat.reduceEqDiff, Nat.reduceAdd, Nat.reduceMul, Nat.reduceSub, Nat.reduceLeDiff, Nat.reduceBEq, Nat.reduceDiv, Nat.reduceMod, Int.reduceToNat, Int.reduceLT, Int.reduceLE, Int.reduceAdd, Int.reduceSub, Int.reduceMul, Int.reduceEq, Int.reduceNeg, reduceCtorEq, resV, resAll, ARes.ev, LV.flat, ite_true, ite_false, exists_eq_left', exists_eq_left, keyOf, implies_true, fillC, capOf]
  by_cases hbig : (65536 : Int) < (bs.length : Nat)
  · simp (disch := omega) only [hbig, ↓SXd, SXu, slBounds, ↓sop, ↓aop, ↓reduceIte, LV.cells, AOp.dst, LV.I, LV.B, LV.U, LV.S, LV.nil, Nat.reduceEqDiff, Nat.reduceAdd, Nat.reduceMul, Nat.reduceSub, Nat.reduceLeDiff, Nat.reduceBEq, Nat.reduceDiv, Nat.reduceMod, Int.reduceToNat, Int.reduceLT, Int.reduceLE, Int.reduceAdd, Int.reduceSub, Int.reduceMul, Int.reduceEq, Int.reduceNeg, reduceCtorEq, resV, resAll, ARes.ev, LV.flat, ite_true, ite_false, exists_eq_left', exists_eq_left, keyOf, implies_true, fillC, capOf]
    rfl
  have hl : bs.length ≤ 1000000000 := by omega
  simp (disch := omega) only [hbig, ↓SXd, SXu, slBounds, ↓sop, ↓aop, ↓reduceIte, LV.cells, AOp.dst, LV.I, LV.B, LV.U, LV.S, LV.nil, Nat.reduceEqDiff, Nat.reduceAdd, Nat.reduceMul, Nat.reduceSub, Nat.reduceLeDiff, Nat.reduceBEq, Nat.reduceDiv, Nat.reduceMod, Int.reduceToNat, Int.reduceLT, Int.reduceLE, Int.reduceAdd, Int.reduceSub, Int.reduceMul, Int.reduceEq, Int.reduceNeg, reduceCtorEq, resV, resAll, ARes.ev, LV.flat, ite_true, ite_false, exists_eq_left', exists_eq_left, keyOf, implies_true, fillC, capOf]
  refine callR_of (d_DrawFirstTable h hn.2 hl) ?_
  rintro _ N1 ⟨⟨R, D, tr, tc, rfl, bR, bC, hRl, hDl⟩, hp1⟩
  obtain ⟨T, S, e, n, eT, eS, eE, en, hn6, hTl, hTr, heS, hE, hG⟩ := tab_facts R D
  have hRn : R.length ≤ 1000 := by omega
  have hDn : D.length ≤ 1000 := by omega
  simp (disch := omega) only [↓SXd, SXu, slBounds, ↓sop, ↓aop, ↓reduceIte, LV.cells, AOp.dst, LV.I, LV.B, LV.U, LV.S, LV.nil, Nat.reduceEqDiff, Nat.reduceAdd, Nat.reduceMul, Nat.reduceSub, Nat.reduceLeDiff, Nat.reduceBEq, Nat.reduceDiv, Nat.reduceMod, Int.reduceToNat, Int.reduceLT, Int.reduceLE, Int.reduceAdd, Int.reduceSub, Int.reduceMul, Int.reduceEq, Int.reduceNeg, reduceCtorEq, resV, resAll, ARes.ev, LV.flat, ite_true, ite_false, exists_eq_left', exists_eq_left, keyOf, implies_true, fillC, capOf]
  refine callR_of (tabG_eq (g_FirstTable bR bC hRn hDn) eT eE) ?_
  rintro _ N2 ⟨w5, rfl, T5, hp2⟩
  have bR := bR.pre hp2
  have bC := bC.pre hp2
  simp (disch := omega) only [↓SXd, SXu, slBounds, ↓sop, ↓aop, ↓reduceIte, LV.cells, AOp.dst, LV.I, LV.B, LV.U, LV.S, LV.nil, Nat.reduceEqDiff, Nat.reduceAdd, Nat.reduceMul, Nat.reduceSub, Nat.reduceLeDiff, Nat.reduceBEq, Nat.reduceDiv, Nat.reduceMod, Int.reduceToNat, Int.reduceLT, Int.reduceLE, Int.reduceAdd, Int.reduceSub, Int.reduceMul, Int.reduceEq, Int.reduceNeg, reduceCtorEq, resV, resAll, ARes.ev, LV.flat, ite_true, ite_false, exists_eq_left', exists_eq_left, keyOf, implies_true, fillC, capOf]
  refine callR_of (tabG_eq (h_sFirstTable bR bC hRn hDn) eT eE) ?_
  rintro _ N3 ⟨w7, rfl, T7, hp3⟩
  have bR := bR.pre hp3
  have bC := bC.pre hp3
  have T5 := T5.pre hp3
  simp (disch := omega) only [beq_self_eq_true, Bool.not_true, ↓SXd, SXu, slBounds, ↓sop, ↓aop, ↓reduceIte, LV.cells, AOp.dst, LV.I, LV.B, LV.U, LV.S, LV.nil, Nat.reduceEqDiff, Nat.reduceAdd, Nat.reduceMul, Nat.reduceSub, Nat.reduceLeDiff, Nat.reduceBEq, Nat.reduceDiv, Nat.reduceMod, Int.reduceToNat, Int.reduceLT, Int.reduceLE, Int.reduceAdd, Int.reduceSub, Int.reduceMul, Int.reduceEq, Int.reduceNeg, reduceCtorEq, resV, resAll, ARes.ev, LV.flat, ite_true, ite_false, exists_eq_left', exists_eq_left, keyOf, implies_true, fillC, capOf]
  refine callK_of (k_rTable T5 T7 hTl hTr) ?_
  simp (disch := omega) only [beq_self_eq_true, Bool.not_true, ↓SXd, SXu, slBounds, ↓sop, ↓aop, ↓reduceIte, LV.cells, AOp.dst, LV.I, LV.B, LV.U, LV.S, LV.nil, Nat.reduceEqDiff, Nat.reduceAdd, Nat.reduceMul, Nat.reduceSub, Nat.reduceLeDiff, Nat.reduceBEq, Nat.reduceDiv, Nat.reduceMod, Int.reduceToNat, Int.reduceLT, Int.reduceLE, Int.reduceAdd, Int.reduceSub, Int.reduceMul, Int.reduceEq, Int.reduceNeg, reduceCtorEq, resV, resAll, ARes.ev, LV.flat, ite_true, ite_false, exists_eq_left', exists_eq_left, keyOf, implies_true, fillC, capOf]
  have hc1 := g_CountTables bR bC hRn hDn
  rw [en, eS] at hc1
  refine callR_of hc1 ?_
  rintro _ N4 ⟨rfl, hp4⟩
  have bR := bR.pre hp4
  have bC := bC.pre hp4
  have T5 := T5.pre hp4
  have hc2 := h_sCountTables bR bC hRn hDn
  rw [en, eS] at hc2
  simp (disch := omega) only [↓SXd, SXu, slBounds, ↓sop, ↓aop, ↓reduceIte, LV.cells, AOp.dst, LV.I, LV.B, LV.U, LV.S, LV.nil, Nat.reduceEqDiff, Nat.reduceAdd, Nat.reduceMul, Nat.reduceSub, Nat.reduceLeDiff, Nat.reduceBEq, Nat.reduceDiv, Nat.reduceMod, Int.reduceToNat, Int.reduceLT, Int.reduceLE, Int.reduceAdd, Int.reduceSub, Int.reduceMul, Int.reduceEq, Int.reduceNeg, reduceCtorEq, resV, resAll, ARes.ev, LV.flat, ite_true, ite_false, exists_eq_left', exists_eq_left, keyOf, implies_true, fillC, capOf]
  refine callR_of hc2 ?_
  rintro _ N5 ⟨rfl, hp5⟩
  have bR := bR.pre hp5
  have bC := bC.pre hp5
  have T5 := T5.pre hp5
  refine put_cut (fun fr' M' => M' = N5 ∧ fr' 0 = .ref t 0 bs.length ∧ fr' 3 = .ref tr 0 R.length ∧ fr' 4 = .ref tc 0 D.length ∧ fr' 5 = w5 ∧ fr' 6 = .B e ∧ fr' 10 = .B S) ?_ ?_
  · cases S with
    | false =>
      rw [Bool.false_and] at heS
      subst heS
      simp (disch := omega) only [beq_self_eq_true, Bool.not_true, ↓SXd, SXu, slBounds, ↓sop, ↓aop, ↓reduceIte, LV.cells, AOp.dst, LV.I, LV.B, LV.U, LV.S, LV.nil, Nat.reduceEqDiff, Nat.reduceAdd, Nat.reduceMul, Nat.reduceSub, Nat.reduceLeDiff, Nat.reduceBEq, Nat.reduceDiv, Nat.reduceMod, Int.reduceToNat, Int.reduceLT, Int.reduceLE, Int.reduceAdd, Int.reduceSub, Int.reduceMul, Int.reduceEq, Int.reduceNeg, reduceCtorEq, resV, resAll, ARes.ev, LV.flat, ite_true, ite_false, exists_eq_left', exists_eq_left, keyOf, implies_true, fillC, capOf]
    | true =>
      rw [Bool.true_and] at heS
      by_cases hn0 : (0 : Int) < (n : Nat)
      · rw [decide_eq_true hn0] at heS
        subst heS
        simp (disch := omega) only [beq_self_eq_true, Bool.not_true, hn0, ↓SXd, SXu, slBounds, ↓sop, ↓aop, ↓reduceIte, LV.cells, AOp.dst, LV.I, LV.B, LV.U, LV.S, LV.nil, Nat.reduceEqDiff, Nat.reduceAdd, Nat.reduceMul, Nat.reduceSub, Nat.reduceLeDiff, Nat.reduceBEq, Nat.reduceDiv, Nat.reduceMod, Int.reduceToNat, Int.reduceLT, Int.reduceLE, Int.reduceAdd, Int.reduceSub, Int.reduceMul, Int.reduceEq, Int.reduceNeg, reduceCtorEq, resV, resAll, ARes.ev, LV.flat, ite_true, ite_false, exists_eq_left', exists_eq_left, keyOf, implies_true, fillC, capOf]
      · rw [decide_eq_false hn0] at heS
        subst heS
        simp (disch := omega) only [beq_self_eq_true, Bool.not_true, hn0, ↓SXd, SXu, slBounds, ↓sop, ↓aop, ↓reduceIte, LV.cells, AOp.dst, LV.I, LV.B, LV.U, LV.S, LV.nil, Nat.reduceEqDiff, Nat.reduceAdd, Nat.reduceMul, Nat.reduceSub, Nat.reduceLeDiff, Nat.reduceBEq, Nat.reduceDiv, Nat.reduceMod, Int.reduceToNat, Int.reduceLT, Int.reduceLE, Int.reduceAdd, Int.reduceSub, Int.reduceMul, Int.reduceEq, Int.reduceNeg, reduceCtorEq, resV, resAll, ARes.ev, LV.flat, ite_true, ite_false, exists_eq_left', exists_eq_left, keyOf, implies_true, fillC, capOf]
  rintro fr W1 ⟨rfl, f0, f3, f4, f5, f6, f10⟩
  have hd1 := g_CanTable bR bC hRn hDn
  rw [eE, eS] at hd1
  simp (disch := omega) only [f0, f3, f4, f5, f6, f10, ↓SXd, SXu, slBounds, ↓sop, ↓aop, ↓reduceIte, LV.cells, AOp.dst, LV.I, LV.B, LV.U, LV.S, LV.nil, Nat.reduceEqDiff, Nat.reduceAdd, Nat.reduceMul, Nat.reduceSub, Nat.reduceLeDiff, Nat.reduceBEq, Nat.reduceDiv, Nat.reduceMod, Int.reduceToNat, Int.reduceLT, Int.reduceLE, Int.reduceAdd, Int.reduceSub, Int.reduceMul, Int.reduceEq, Int.reduceNeg, reduceCtorEq, resV, resAll, ARes.ev, LV.flat, ite_true, ite_false, exists_eq_left', exists_eq_left, keyOf, implies_true, fillC, capOf]
  refine callR_of hd1 ?_
  rintro _ N6 ⟨rfl, hp6⟩
  have bR := bR.pre hp6
  have bC := bC.pre hp6
  have T5 := T5.pre hp6
  have hd2 := h_sCanTable bR bC hRn hDn
  rw [eE, eS] at hd2
  simp (disch := omega) only [f0, f3, f4, f5, f6, f10, ↓SXd, SXu, slBounds, ↓sop, ↓aop, ↓reduceIte, LV.cells, AOp.dst, LV.I, LV.B, LV.U, LV.S, LV.nil, Nat.reduceEqDiff, Nat.reduceAdd, Nat.reduceMul, Nat.reduceSub, Nat.reduceLeDiff, Nat.reduceBEq, Nat.reduceDiv, Nat.reduceMod, Int.reduceToNat, Int.reduceLT, Int.reduceLE, Int.reduceAdd, Int.reduceSub, Int.reduceMul, Int.reduceEq, Int.reduceNeg, reduceCtorEq, resV, resAll, ARes.ev, LV.flat, ite_true, ite_false, exists_eq_left', exists_eq_left, keyOf, implies_true, fillC, capOf]
  refine callR_of hd2 ?_
  rintro _ N7 ⟨rfl, hp7⟩
  have bR := bR.pre hp7
  have bC := bC.pre hp7
  have T5 := T5.pre hp7
  have hB7 : Bytes N7 t 0 bs := Has.pre h ((((((hp1.trans hp2).trans hp3).trans hp4).trans hp5).trans hp6).trans hp7)
  simp (disch := omega) only [f0, f3, f4, f5, f6, f10, beq_self_eq_true, Bool.not_true, ↓SXd, SXu, slBounds, ↓sop, ↓aop, ↓reduceIte, LV.cells, AOp.dst, LV.I, LV.B, LV.U, LV.S, LV.nil, Nat.reduceEqDiff, Nat.reduceAdd, Nat.reduceMul, Nat.reduceSub, Nat.reduceLeDiff, Nat.reduceBEq, Nat.reduceDiv, Nat.reduceMod, Int.reduceToNat, Int.reduceLT, Int.reduceLE, Int.reduceAdd, Int.reduceSub, Int.reduceMul, Int.reduceEq, Int.reduceNeg, reduceCtorEq, resV, resAll, ARes.ev, LV.flat, ite_true, ite_false, exists_eq_left', exists_eq_left, keyOf, implies_true, fillC, capOf]
  refine callR_of (d_DrawLinesWith hB7 hn.2 hl) ?_
  rintro _ N8 ⟨⟨_, k, rfl, x, y, z, cs, u, rfl, hu, hul, hcl⟩, hp8⟩
  have hcn : cs.length ≤ 1000000000 := by omega
  have bR := (bR.pre hp8).app (L := [some (.row [.I x, .I y, .I z, .ref u 0 cs.length] true 0)])
  have bC := (bC.pre hp8).app (L := [some (.row [.I x, .I y, .I z, .ref u 0 cs.length] true 0)])
  have T5 := (T5.pre hp8).pre (Pre.app N8 [some (.row [.I x, .I y, .I z, .ref u 0 cs.length] true 0)])
  have bH : Live (N8 ++ [some (.row [.I x, .I y, .I z, .ref u 0 cs.length] true 0)]) N8.length (.row [.I x, .I y, .I z, .ref u 0 cs.length] true 0) := Live.new
  have hU : Tri (N8 ++ [some (.row [.I x, .I y, .I z, .ref u 0 cs.length] true 0)]) u 0 cs := Has.app hu.has
  simp (disch := omega) only [f0, f3, f4, f5, f6, f10, splice, ↓SXd, SXu, slBounds, ↓sop, ↓aop, ↓reduceIte, LV.cells, AOp.dst, LV.I, LV.B, LV.U, LV.S, LV.nil, Nat.reduceEqDiff, Nat.reduceAdd, Nat.reduceMul, Nat.reduceSub, Nat.reduceLeDiff, Nat.reduceBEq, Nat.reduceDiv, Nat.reduceMod, Int.reduceToNat, Int.reduceLT, Int.reduceLE, Int.reduceAdd, Int.reduceSub, Int.reduceMul, Int.reduceEq, Int.reduceNeg, reduceCtorEq, resV, resAll, ARes.ev, LV.flat, ite_true, ite_false, exists_eq_left', exists_eq_left, keyOf, implies_true, fillC, capOf]
  generalize N8.length = ph at bH ⊢
  generalize N8 ++ [some (Blk.row [.I x, .I y, .I z, .ref u 0 cs.length] true 0)] = W at bR bC T5 bH hU ⊢
  obtain ⟨L, V, q, g, eL, eV, eq, eg, hL1, hV1, hQ⟩ := with_facts x y z cs k
  refine callR_of (intsG_eq (g_LinesWith hU hcn (d := k)) eL eq) ?_
  rintro _ N9 ⟨w19, rfl, I19, hp9⟩
  have bR := bR.pre hp9
  have bC := bC.pre hp9
  have T5 := T5.pre hp9
  have bH := bH.pre hp9
  have hU := hU.pre hp9
  simp (disch := omega) only [f0, f3, f4, f5, f6, f10, bH.cells, ↓SXd, SXu, slBounds, ↓sop, ↓aop, ↓reduceIte, LV.cells, AOp.dst, LV.I, LV.B, LV.U, LV.S, LV.nil, Nat.reduceEqDiff, Nat.reduceAdd, Nat.reduceMul, Nat.reduceSub, Nat.reduceLeDiff, Nat.reduceBEq, Nat.reduceDiv, Nat.reduceMod, Int.reduceToNat, Int.reduceLT, Int.reduceLE, Int.reduceAdd, Int.reduceSub, Int.reduceMul, Int.reduceEq, Int.reduceNeg, reduceCtorEq, resV, resAll, ARes.ev, LV.flat, ite_true, ite_false, exists_eq_left', exists_eq_left, keyOf, implies_true, fillC, capOf]
  refine callR_of (intsG_eq (h_sLinesWith hU hcn (d := k)) eL eq) ?_
  rintro _ N10 ⟨w21, rfl, I21, hp10⟩
  have bR := bR.pre hp10
  have bC := bC.pre hp10
  have T5 := T5.pre hp10
  have bH := bH.pre hp10
  have hU := hU.pre hp10
  have I19 := I19.pre hp10
  simp (disch := omega) only [f0, f3, f4, f5, f6, f10, beq_self_eq_true, Bool.not_true, ↓SXd, SXu, slBounds, ↓sop, ↓aop, ↓reduceIte, LV.cells, AOp.dst, LV.I, LV.B, LV.U, LV.S, LV.nil, Nat.reduceEqDiff, Nat.reduceAdd, Nat.reduceMul, Nat.reduceSub, Nat.reduceLeDiff, Nat.reduceBEq, Nat.reduceDiv, Nat.reduceMod, Int.reduceToNat, Int.reduceLT, Int.reduceLE, Int.reduceAdd, Int.reduceSub, Int.reduceMul, Int.reduceEq, Int.reduceNeg, reduceCtorEq, resV, resAll, ARes.ev, LV.flat, ite_true, ite_false, exists_eq_left', exists_eq_left, keyOf, implies_true, fillC, capOf]
  refine callK_of (k_rInts I19 I21 (by omega)) ?_
  have hf1 := g_FullLines hU hcn (x := x) (y := y) (z := z) (d := k)
  rw [eg, eq] at hf1
  simp (disch := omega) only [f0, f3, f4, f5, f6, f10, beq_self_eq_true, Bool.not_true, bH.cells, ↓SXd, SXu, slBounds, ↓sop, ↓aop, ↓reduceIte, LV.cells, AOp.dst, LV.I, LV.B, LV.U, LV.S, LV.nil, Nat.reduceEqDiff, Nat.reduceAdd, Nat.reduceMul, Nat.reduceSub, Nat.reduceLeDiff, Nat.reduceBEq, Nat.reduceDiv, Nat.reduceMod, Int.reduceToNat, Int.reduceLT, Int.reduceLE, Int.reduceAdd, Int.reduceSub, Int.reduceMul, Int.reduceEq, Int.reduceNeg, reduceCtorEq, resV, resAll, ARes.ev, LV.flat, ite_true, ite_false, exists_eq_left', exists_eq_left, keyOf, implies_true, fillC, capOf]
  refine callR_of hf1 ?_
  rintro _ N11 ⟨rfl, hp11⟩
  have bR := bR.pre hp11
  have bC := bC.pre hp11
  have T5 := T5.pre hp11
  have bH := bH.pre hp11
  have hU := hU.pre hp11
  have I19 := I19.pre hp11
  have hf2 := h_sFullLines hU hcn (x := x) (y := y) (z := z) (d := k)
  rw [eg, eq] at hf2
  simp (disch := omega) only [f0, f3, f4, f5, f6, f10, beq_self_eq_true, Bool.not_true, bH.cells, ↓SXd, SXu, slBounds, ↓sop, ↓aop, ↓reduceIte, LV.cells, AOp.dst, LV.I, LV.B, LV.U, LV.S, LV.nil, Nat.reduceEqDiff, Nat.reduceAdd, Nat.reduceMul, Nat.reduceSub, Nat.reduceLeDiff, Nat.reduceBEq, Nat.reduceDiv, Nat.reduceMod, Int.reduceToNat, Int.reduceLT, Int.reduceLE, Int.reduceAdd, Int.reduceSub, Int.reduceMul, Int.reduceEq, Int.reduceNeg, reduceCtorEq, resV, resAll, ARes.ev, LV.flat, ite_true, ite_false, exists_eq_left', exists_eq_left, keyOf, implies_true, fillC, capOf]
  refine callR_of hf2 ?_
  rintro _ N12 ⟨rfl, hp12⟩
  have bR := bR.pre hp12
  have bC := bC.pre hp12
  have T5 := T5.pre hp12
  have bH := bH.pre hp12
  have hU := hU.pre hp12
  have I19 := I19.pre hp12
  refine put_cut (fun fr' M' => M' = N12 ∧ fr' 3 = .ref tr 0 R.length ∧ fr' 4 = .ref tc 0 D.length ∧ fr' 5 = w5 ∧ fr' 6 = .B e ∧ fr' 10 = .B S ∧ fr' 13 = .B e ∧ fr' 17 = .ptr ph 0 ∧ fr' 18 = .I k ∧ fr' 19 = w19 ∧ fr' 20 = .B q) ?_ ?_
  · cases q with
    | false =>
      simp (disch := omega) only [f0, f3, f4, f5, f6, f10, beq_self_eq_true, Bool.not_true, ↓SXd, SXu, slBounds, ↓sop, ↓aop, ↓reduceIte, LV.cells, AOp.dst, LV.I, LV.B, LV.U, LV.S, LV.nil, Nat.reduceEqDiff, Nat.reduceAdd, Nat.reduceMul, Nat.reduceSub, Nat.reduceLeDiff, Nat.reduceBEq, Nat.reduceDiv, Nat.reduceMod, Int.reduceToNat, Int.reduceLT, Int.reduceLE, Int.reduceAdd, Int.reduceSub, Int.reduceMul, Int.reduceEq, Int.reduceNeg, reduceCtorEq, resV, resAll, ARes.ev, LV.flat, ite_true, ite_false, exists_eq_left', exists_eq_left, keyOf, implies_true, fillC, capOf]
    | true =>
      obtain ⟨q1, q2, q3, q4⟩ := hQ rfl
      obtain ⟨t', o', rfl, hg⟩ := I19.at (k := L.length - 1) (by omega)
      rw [← q2] at hg
      have htn : (((L.length : Nat) : Int) - 1).toNat = L.length - 1 := by omega
      simp (disch := omega) only [f0, f3, f4, f5, f6, f10, beq_self_eq_true, Bool.not_true, htn, hg, Nat.mul_one, ↓SXd, SXu, slBounds, ↓sop, ↓aop, ↓reduceIte, LV.cells, AOp.dst, LV.I, LV.B, LV.U, LV.S, LV.nil, Nat.reduceEqDiff, Nat.reduceAdd, Nat.reduceMul, Nat.reduceSub, Nat.reduceLeDiff, Nat.reduceBEq, Nat.reduceDiv, Nat.reduceMod, Int.reduceToNat, Int.reduceLT, Int.reduceLE, Int.reduceAdd, Int.reduceSub, Int.reduceMul, Int.reduceEq, Int.reduceNeg, reduceCtorEq, resV, resAll, ARes.ev, LV.flat, ite_true, ite_false, exists_eq_left', exists_eq_left, keyOf, implies_true, fillC, capOf]
  rintro fr W2 ⟨rfl, f3, f4, f5, f6, f10, f13, f17, f18, f19, f20⟩
  clear f0
  simp (disch := omega) only [f3, f4, f5, f6, f10, f13, f17, f18, f19, f20, ↓SXd, SXu, slBounds, ↓sop, ↓aop, ↓reduceIte, LV.cells, AOp.dst, LV.I, LV.B, LV.U, LV.S, LV.nil, Nat.reduceEqDiff, Nat.reduceAdd, Nat.reduceMul, Nat.reduceSub, Nat.reduceLeDiff, Nat.reduceBEq, Nat.reduceDiv, Nat.reduceMod, Int.reduceToNat, Int.reduceLT, Int.reduceLE, Int.reduceAdd, Int.reduceSub, Int.reduceMul, Int.reduceEq, Int.reduceNeg, reduceCtorEq, resV, resAll, ARes.ev, LV.flat, ite_true, ite_false, exists_eq_left', exists_eq_left, keyOf, implies_true, fillC, capOf]
  refine cond_cut (fun fr' M' => Live M' tr (.row (intL R) true 1) ∧ Live M' tc (.row (intL D) true 1) ∧ TabV M' w5 T ∧ fr' 3 = .ref tr 0 R.length ∧ fr' 4 = .ref tc 0 D.length ∧ fr' 5 = w5 ∧ fr' 6 = .B e ∧ fr' 10 = .B S ∧ fr' 13 = .B e) ?_ ?_
  · cases q with
    | false =>
      simp (disch := omega) only [f3, f4, f5, f6, f10, f13, f17, f18, f19, f20, ↓SXd, SXu, slBounds, ↓sop, ↓aop, ↓reduceIte, LV.cells, AOp.dst, LV.I, LV.B, LV.U, LV.S, LV.nil, Nat.reduceEqDiff, Nat.reduceAdd, Nat.reduceMul, Nat.reduceSub, Nat.reduceLeDiff, Nat.reduceBEq, Nat.reduceDiv, Nat.reduceMod, Int.reduceToNat, Int.reduceLT, Int.reduceLE, Int.reduceAdd, Int.reduceSub, Int.reduceMul, Int.reduceEq, Int.reduceNeg, reduceCtorEq, resV, resAll, ARes.ev, LV.flat, ite_true, ite_false, exists_eq_left', exists_eq_left, keyOf, implies_true, fillC, capOf]
      exact ⟨bR, bC, T5⟩
    | true =>
      obtain ⟨q1, q2, q3, q4⟩ := hQ rfl
      simp (disch := omega) only [f3, f4, f5, f6, f10, f13, f17, f18, f19, f20, bH.cells, ↓SXd, SXu, slBounds, ↓sop, ↓aop, ↓reduceIte, LV.cells, AOp.dst, LV.I, LV.B, LV.U, LV.S, LV.nil, Nat.reduceEqDiff, Nat.reduceAdd, Nat.reduceMul, Nat.reduceSub, Nat.reduceLeDiff, Nat.reduceBEq, Nat.reduceDiv, Nat.reduceMod, Int.reduceToNat, Int.reduceLT, Int.reduceLE, Int.reduceAdd, Int.reduceSub, Int.reduceMul, Int.reduceEq, Int.reduceNeg, reduceCtorEq, resV, resAll, ARes.ev, LV.flat, ite_true, ite_false, exists_eq_left', exists_eq_left, keyOf, implies_true, fillC, capOf]
      refine callR_of (intsG_eq (g_ViewOfI hU hcn (d := k)) eV eq) ?_
      rintro _ N13 ⟨w27, rfl, I27, hp13⟩
      have hlv := I27.lenV
      simp (disch := omega) only [f3, f4, f5, f6, f10, f13, f17, f18, f19, f20, ↓SXd, SXu, slBounds, ↓sop, ↓aop, ↓reduceIte, LV.cells, AOp.dst, LV.I, LV.B, LV.U, LV.S, LV.nil, Nat.reduceEqDiff, Nat.reduceAdd, Nat.reduceMul, Nat.reduceSub, Nat.reduceLeDiff, Nat.reduceBEq, Nat.reduceDiv, Nat.reduceMod, Int.reduceToNat, Int.reduceLT, Int.reduceLE, Int.reduceAdd, Int.reduceSub, Int.reduceMul, Int.reduceEq, Int.reduceNeg, reduceCtorEq, resV, resAll, ARes.ev, LV.flat, ite_true, ite_false, exists_eq_left', exists_eq_left, keyOf, implies_true, fillC, capOf]
      refine callK_of (k_rSum (I19.pre hp13) (by omega) q4) ?_
      rw [q3]
      simp (disch := omega) only [f3, f4, f5, f6, f10, f13, f17, f18, f19, f20, hlv, ↓SXd, SXu, slBounds, ↓sop, ↓aop, ↓reduceIte, LV.cells, AOp.dst, LV.I, LV.B, LV.U, LV.S, LV.nil, Nat.reduceEqDiff, Nat.reduceAdd, Nat.reduceMul, Nat.reduceSub, Nat.reduceLeDiff, Nat.reduceBEq, Nat.reduceDiv, Nat.reduceMod, Int.reduceToNat, Int.reduceLT, Int.reduceLE, Int.reduceAdd, Int.reduceSub, Int.reduceMul, Int.reduceEq, Int.reduceNeg, reduceCtorEq, resV, resAll, ARes.ev, LV.flat, ite_true, ite_false, exists_eq_left', exists_eq_left, keyOf, implies_true, fillC, capOf]
      exact ⟨bR.pre hp13, bC.pre hp13, T5.pre hp13⟩
  clear bR bC T5 bH hU I19 I21 hp12 hp11 hp10 hp9 hp8 f3 f4 f5 f6 f10 f13 f17 f18 f19 f20
  rintro fr W3 ⟨bR, bC, T5, f3, f4, f5, f6, f10, f13⟩
  simp (disch := omega) only [f3, f4, f5, f6, f10, f13, ↓SXd, SXu, slBounds, ↓sop, ↓aop, ↓reduceIte, LV.cells, AOp.dst, LV.I, LV.B, LV.U, LV.S, LV.nil, Nat.reduceEqDiff, Nat.reduceAdd, Nat.reduceMul, Nat.reduceSub, Nat.reduceLeDiff, Nat.reduceBEq, Nat.reduceDiv, Nat.reduceMod, Int.reduceToNat, Int.reduceLT, Int.reduceLE, Int.reduceAdd, Int.reduceSub, Int.reduceMul, Int.reduceEq, Int.reduceNeg, reduceCtorEq, resV, resAll, ARes.ev, LV.flat, ite_true, ite_false, exists_eq_left', exists_eq_left, keyOf, implies_true, fillC, capOf]
  refine cond_cut (fun fr' M' => M' = W3 ∧ fr' 3 = .ref tr 0 R.length ∧ fr' 4 = .ref tc 0 D.length ∧ fr' 5 = w5 ∧ fr' 6 = .B e) ?_ ?_
  · cases S with
    | false =>
      simp (disch := omega) only [f3, f4, f5, f6, f10, f13, ↓SXd, SXu, slBounds, ↓sop, ↓aop, ↓reduceIte, LV.cells, AOp.dst, LV.I, LV.B, LV.U, LV.S, LV.nil, Nat.reduceEqDiff, Nat.reduceAdd, Nat.reduceMul, Nat.reduceSub, Nat.reduceLeDiff, Nat.reduceBEq, Nat.reduceDiv, Nat.reduceMod, Int.reduceToNat, Int.reduceLT, Int.reduceLE, Int.reduceAdd, Int.reduceSub, Int.reduceMul, Int.reduceEq, Int.reduceNeg, reduceCtorEq, resV, resAll, ARes.ev, LV.flat, ite_true, ite_false, exists_eq_left', exists_eq_left, keyOf, implies_true, fillC, capOf]
    | true =>
      obtain ⟨hSO, hGR⟩ := hG rfl
      have hfit := fits_iff hSO
      have hRb : ∀ a ∈ R, 0 ≤ a ∧ a ≤ 4 := fun a ha => by have := hSO.2.2.1 a ha; have := hSO.2.1; omega
      have hDb : ∀ a ∈ D, 0 ≤ a ∧ a ≤ 4 := fun a ha => by have := hSO.2.2.2 a ha; have := hSO.1; omega
      have hgb : ∀ {l : List Int}, (∀ a ∈ l, 0 ≤ a ∧ a ≤ 4) → ∀ i, 0 ≤ l.getD i 0 ∧ l.getD i 0 ≤ 1000000 := fun {l} hl i => by
        by_cases hi : i < l.length
        · have := hl _ (getD_mem' (d := 0) hi); omega
        · rw [List.getD_eq_getElem?_getD, List.getElem?_eq_none (by omega)]; simp
      have hD4 := hSO.2.1
      have hR4 := hSO.1
      have hPW : ∃ W : Nat, W = 2 ^ R.length ∧ 1 ≤ W ∧ W ≤ 16 := ⟨_, rfl, Nat.pos_of_ne_zero (by simp), Nat.pow_le_pow_right (n := 2) (by omega) hR4.2⟩
      obtain ⟨PW, hPWe, hPW1, hPW2⟩ := hPW
      have hshl : (1 : Int) * 2 ^ (min R.length 64) = (PW : Int) := by
        rw [Nat.min_eq_left (by omega), hPWe, Int.natCast_pow, Int.one_mul]; rfl
      rw [← hPWe] at hfit
      have hsR := litSum_four hRb
      have hsD := litSum_four hDb
      simp (disch := omega) only [f3, f4, f5, f6, f10, f13, ↓SXd, SXu, slBounds, ↓sop, ↓aop, ↓reduceIte, LV.cells, AOp.dst, LV.I, LV.B, LV.U, LV.S, LV.nil, Nat.reduceEqDiff, Nat.reduceAdd, Nat.reduceMul, Nat.reduceSub, Nat.reduceLeDiff, Nat.reduceBEq, Nat.reduceDiv, Nat.reduceMod, Int.reduceToNat, Int.reduceLT, Int.reduceLE, Int.reduceAdd, Int.reduceSub, Int.reduceMul, Int.reduceEq, Int.reduceNeg, reduceCtorEq, resV, resAll, ARes.ev, LV.flat, ite_true, ite_false, exists_eq_left', exists_eq_left, keyOf, implies_true, fillC, capOf]
      refine callK_of (k_rSum (.inr ⟨tr, 0, rfl, bR.has⟩) (by omega) (hgb hRb)) ?_
      simp (disch := omega) only [f3, f4, f5, f6, f10, f13, ↓SXd, SXu, slBounds, ↓sop, ↓aop, ↓reduceIte, LV.cells, AOp.dst, LV.I, LV.B, LV.U, LV.S, LV.nil, Nat.reduceEqDiff, Nat.reduceAdd, Nat.reduceMul, Nat.reduceSub, Nat.reduceLeDiff, Nat.reduceBEq, Nat.reduceDiv, Nat.reduceMod, Int.reduceToNat, Int.reduceLT, Int.reduceLE, Int.reduceAdd, Int.reduceSub, Int.reduceMul, Int.reduceEq, Int.reduceNeg, reduceCtorEq, resV, resAll, ARes.ev, LV.flat, ite_true, ite_false, exists_eq_left', exists_eq_left, keyOf, implies_true, fillC, capOf]
      refine callK_of (k_rSum (.inr ⟨tc, 0, rfl, bC.has⟩) (by omega) (hgb hDb)) ?_
      simp (disch := omega) only [f3, f4, f5, f6, f10, f13, ↓SXd, SXu, slBounds, ↓sop, ↓aop, ↓reduceIte, LV.cells, AOp.dst, LV.I, LV.B, LV.U, LV.S, LV.nil, Nat.reduceEqDiff, Nat.reduceAdd, Nat.reduceMul, Nat.reduceSub, Nat.reduceLeDiff, Nat.reduceBEq, Nat.reduceDiv, Nat.reduceMod, Int.reduceToNat, Int.reduceLT, Int.reduceLE, Int.reduceAdd, Int.reduceSub, Int.reduceMul, Int.reduceEq, Int.reduceNeg, reduceCtorEq, resV, resAll, ARes.ev, LV.flat, ite_true, ite_false, exists_eq_left', exists_eq_left, keyOf, implies_true, fillC, capOf]
      refine ev_loop (fun m fr M' => ∃ (k : Nat) (f : Bool), k + m = R.length + 1 ∧ 1 ≤ k ∧ M' = W3 ∧ (f = true ↔ litSum R = litSum D ∧ ∀ k' : Nat, 1 ≤ k' → k' < k → ∀ m : Nat, m < PW → (selM R m).length = k' → litSum (selM R m) ≤ sN D.length fun j => min (D.getD j 0) (k' : Nat)) ∧
        fr 3 = .ref tr 0 R.length ∧ fr 4 = .ref tc 0 D.length ∧ fr 5 = w5 ∧ fr 6 = .B e ∧ fr 13 = .B e ∧ fr 29 = .B f ∧ fr 30 = .I k) R.length
        ⟨1, decide (litSum R = litSum D), by omega, Nat.le_refl _, rfl, by
          rw [decide_eq_true_iff]
          exact ⟨fun h => ⟨h, fun k' h1 h2 => by omega⟩, fun h => h.1⟩, f3, f4, f5, f6, f13, rfl, rfl⟩ ?_
      clear f3 f4 f5 f6 f10 f13
      rintro m fr M' ⟨k, f, hk, hk1, rfl, hf, f3, f4, f5, f6, f13, f29, f30⟩
      simp (disch := omega) only [f3, f4, f5, f6, f13, f29, f30, ↓SXd, SXu, slBounds, ↓sop, ↓aop, ↓reduceIte, LV.cells, AOp.dst, LV.I, LV.B, LV.U, LV.S, LV.nil, Nat.reduceEqDiff, Nat.reduceAdd, Nat.reduceMul, Nat.reduceSub, Nat.reduceLeDiff, Nat.reduceBEq, Nat.reduceDiv, Nat.reduceMod, Int.reduceToNat, Int.reduceLT, Int.reduceLE, Int.reduceAdd, Int.reduceSub, Int.reduceMul, Int.reduceEq, Int.reduceNeg, reduceCtorEq, resV, resAll, ARes.ev, LV.flat, ite_true, ite_false, exists_eq_left', exists_eq_left, keyOf, implies_true, fillC, capOf]
      refine condC_dec (fun hlt => ?_) (fun hlt => ?_)
      rotate_left
      · have : k = R.length + 1 := by omega
        subst this
        have hfe : f = e := by
          rw [Bool.eq_iff_iff, hf, hfit, hGR]
        subst hfe
        simp (disch := omega) only [f3, f4, f5, f6, f13, f29, f30, beq_self_eq_true, Bool.not_true, ↓SXd, SXu, slBounds, ↓sop, ↓aop, ↓reduceIte, LV.cells, AOp.dst, LV.I, LV.B, LV.U, LV.S, LV.nil, Nat.reduceEqDiff, Nat.reduceAdd, Nat.reduceMul, Nat.reduceSub, Nat.reduceLeDiff, Nat.reduceBEq, Nat.reduceDiv, Nat.reduceMod, Int.reduceToNat, Int.reduceLT, Int.reduceLE, Int.reduceAdd, Int.reduceSub, Int.reduceMul, Int.reduceEq, Int.reduceNeg, reduceCtorEq, resV, resAll, ARes.ev, LV.flat, ite_true, ite_false, exists_eq_left', exists_eq_left, keyOf, implies_true, fillC, capOf]
      have hkl : k ≤ R.length := by omega
      simp (disch := omega) only [f3, f4, f5, f6, f13, f29, f30, ↓SXd, SXu, slBounds, ↓sop, ↓aop, ↓reduceIte, LV.cells, AOp.dst, LV.I, LV.B, LV.U, LV.S, LV.nil, Nat.reduceEqDiff, Nat.reduceAdd, Nat.reduceMul, Nat.reduceSub, Nat.reduceLeDiff, Nat.reduceBEq, Nat.reduceDiv, Nat.reduceMod, Int.reduceToNat, Int.reduceLT, Int.reduceLE, Int.reduceAdd, Int.reduceSub, Int.reduceMul, Int.reduceEq, Int.reduceNeg, reduceCtorEq, resV, resAll, ARes.ev, LV.flat, ite_true, ite_false, exists_eq_left', exists_eq_left, keyOf, implies_true, fillC, capOf]
      refine ev_loop (fun m2 fr M2 => ∃ (q : Nat) (most : Int), q + m2 = PW ∧ M2 = M' ∧ (0 ≤ most ∧ most ≤ 16) ∧ (∀ m : Nat, m < q → (selM R m).length = k → litSum (selM R m) ≤ most) ∧ (most = 0 ∨ ∃ m : Nat, m < q ∧ (selM R m).length = k ∧ litSum (selM R m) = most) ∧
        fr 3 = .ref tr 0 R.length ∧ fr 4 = .ref tc 0 D.length ∧ fr 5 = w5 ∧ fr 6 = .B e ∧ fr 13 = .B e ∧ fr 29 = .B f ∧ fr 30 = .I k ∧ fr 31 = .I most ∧ fr 32 = .I q) PW
        ⟨0, 0, by omega, rfl, by omega, fun m h => by omega, .inl rfl, f3, f4, f5, f6, f13, f29, f30, rfl, rfl⟩ ?_
      clear f3 f4 f5 f6 f13 f29 f30 hlt
      rintro m2 fr M2 ⟨q, most, hq, rfl, hmb, hmu, hme, f3, f4, f5, f6, f13, f29, f30, f31, f32⟩
      simp (disch := omega) only [f3, f4, f5, f6, f13, f29, f30, f31, f32, hshl, ↓SXd, SXu, slBounds, ↓sop, ↓aop, ↓reduceIte, LV.cells, AOp.dst, LV.I, LV.B, LV.U, LV.S, LV.nil, Nat.reduceEqDiff, Nat.reduceAdd, Nat.reduceMul, Nat.reduceSub, Nat.reduceLeDiff, Nat.reduceBEq, Nat.reduceDiv, Nat.reduceMod, Int.reduceToNat, Int.reduceLT, Int.reduceLE, Int.reduceAdd, Int.reduceSub, Int.reduceMul, Int.reduceEq, Int.reduceNeg, reduceCtorEq, resV, resAll, ARes.ev, LV.flat, ite_true, ite_false, exists_eq_left', exists_eq_left, keyOf, implies_true, fillC, capOf]
      refine condC_dec (fun hlt => ?_) (fun hlt => ?_)
      · simp (disch := omega) only [f3, f4, f5, f6, f13, f29, f30, f31, f32, ↓SXd, SXu, slBounds, ↓sop, ↓aop, ↓reduceIte, LV.cells, AOp.dst, LV.I, LV.B, LV.U, LV.S, LV.nil, Nat.reduceEqDiff, Nat.reduceAdd, Nat.reduceMul, Nat.reduceSub, Nat.reduceLeDiff, Nat.reduceBEq, Nat.reduceDiv, Nat.reduceMod, Int.reduceToNat, Int.reduceLT, Int.reduceLE, Int.reduceAdd, Int.reduceSub, Int.reduceMul, Int.reduceEq, Int.reduceNeg, reduceCtorEq, resV, resAll, ARes.ev, LV.flat, ite_true, ite_false, exists_eq_left', exists_eq_left, keyOf, implies_true, fillC, capOf]
        refine ev_loop (fun m3 fr M3 => ∃ i : Nat, i + m3 = R.length ∧ M3 = M2 ∧
          fr 3 = .ref tr 0 R.length ∧ fr 4 = .ref tc 0 D.length ∧ fr 5 = w5 ∧ fr 6 = .B e ∧ fr 13 = .B e ∧ fr 29 = .B f ∧ fr 30 = .I k ∧ fr 31 = .I most ∧ fr 32 = .I q ∧ fr 33 = .I (litSum (selM (R.take i) q)) ∧ fr 34 = .I ((selM (R.take i) q).length : Nat) ∧ fr 35 = .I i) R.length
          ⟨0, by omega, rfl, f3, f4, f5, f6, f13, f29, f30, f31, f32, rfl, rfl, rfl⟩ ?_
        clear f3 f4 f5 f6 f13 f29 f30 f31 f32
        rintro m3 fr M3 ⟨i, hi, rfl, f3, f4, f5, f6, f13, f29, f30, f31, f32, f33, f34, f35⟩
        simp (disch := omega) only [f3, f4, f5, f6, f13, f29, f30, f31, f32, f33, f34, f35, ↓SXd, SXu, slBounds, ↓sop, ↓aop, ↓reduceIte, LV.cells, AOp.dst, LV.I, LV.B, LV.U, LV.S, LV.nil, Nat.reduceEqDiff, Nat.reduceAdd, Nat.reduceMul, Nat.reduceSub, Nat.reduceLeDiff, Nat.reduceBEq, Nat.reduceDiv, Nat.reduceMod, Int.reduceToNat, Int.reduceLT, Int.reduceLE, Int.reduceAdd, Int.reduceSub, Int.reduceMul, Int.reduceEq, Int.reduceNeg, reduceCtorEq, resV, resAll, ARes.ev, LV.flat, ite_true, ite_false, exists_eq_left', exists_eq_left, keyOf, implies_true, fillC, capOf]
        refine condC_dec (fun hlt3 => ?_) (fun hlt3 => ?_)
        · have hil : i < R.length := by omega
          have hts := take_snocL 0 hil
          have hgi := Ints.get bR.has hil
          rw [Nat.zero_add] at hgi
          have hri := hRb _ (getD_mem' (d := 0) hil)
          have hsn := selM_snoc (R.getD i 0) (R.take i) q
          rw [← hts, List.length_take, Nat.min_eq_left (by omega)] at hsn
          have hbi := bit_int (n := q) (i := i) (by omega)
          have htb := Nat.testBit_eq_decide_div_mod_eq (x := q) (i := i)
          have hb4 := litSum_four (l := selM (R.take i) q) fun a ha => hRb a (List.mem_of_mem_take (selM_mem ha))
          have hl4 := selM_len (R.take i) q
          rw [List.length_take] at hl4
          generalize R.getD i 0 = r at hgi hri hsn
          have hil' : (i : Int) < (R.length : Nat) := by omega
          by_cases hbit : q / 2 ^ i % 2 = 1
          · rw [if_pos hbit] at hsn
            rw [htb, decide_eq_true hbit, if_pos rfl] at hbi
            have e1 : litSum (selM (R.take (i + 1)) q) = litSum (selM (R.take i) q) + r := by rw [hsn, litSum_snoc]
            have e2 : (selM (R.take (i + 1)) q).length = (selM (R.take i) q).length + 1 := by rw [hsn]; simp
            simp (disch := omega) only [f3, f4, f5, f6, f13, f29, f30, f31, f32, f33, f34, f35, hbi, hgi, hil', Nat.mul_one, Nat.zero_add, ↓SXd, SXu, slBounds, ↓sop, ↓aop, ↓reduceIte, LV.cells, AOp.dst, LV.I, LV.B, LV.U, LV.S, LV.nil, Nat.reduceEqDiff, Nat.reduceAdd, Nat.reduceMul, Nat.reduceSub, Nat.reduceLeDiff, Nat.reduceBEq, Nat.reduceDiv, Nat.reduceMod, Int.reduceToNat, Int.reduceLT, Int.reduceLE, Int.reduceAdd, Int.reduceSub, Int.reduceMul, Int.reduceEq, Int.reduceNeg, reduceCtorEq, resV, resAll, ARes.ev, LV.flat, ite_true, ite_false, exists_eq_left', exists_eq_left, keyOf, implies_true, fillC, capOf]
            exact ⟨m3 - 1, by omega, i + 1, by omega, rfl, f3, f4, f5, f6, f13, f29, f30, f31, f32, by rw [e1]; rfl, by rw [e2]; exact eqI (natI _), eqI (natI _)⟩
          · rw [if_neg hbit, List.append_nil] at hsn
            rw [htb, decide_eq_false hbit, if_neg (by simp)] at hbi
            simp (disch := omega) only [f3, f4, f5, f6, f13, f29, f30, f31, f32, f33, f34, f35, hbi, ↓SXd, SXu, slBounds, ↓sop, ↓aop, ↓reduceIte, LV.cells, AOp.dst, LV.I, LV.B, LV.U, LV.S, LV.nil, Nat.reduceEqDiff, Nat.reduceAdd, Nat.reduceMul, Nat.reduceSub, Nat.reduceLeDiff, Nat.reduceBEq, Nat.reduceDiv, Nat.reduceMod, Int.reduceToNat, Int.reduceLT, Int.reduceLE, Int.reduceAdd, Int.reduceSub, Int.reduceMul, Int.reduceEq, Int.reduceNeg, reduceCtorEq, resV, resAll, ARes.ev, LV.flat, ite_true, ite_false, exists_eq_left', exists_eq_left, keyOf, implies_true, fillC, capOf]
            exact ⟨m3 - 1, by omega, i + 1, by omega, rfl, f3, f4, f5, f6, f13, f29, f30, f31, f32, by rw [hsn]; exact f33, by rw [hsn]; exact f34, eqI (natI _)⟩
        · have : i = R.length := by omega
          subst this
          rw [List.take_length] at f33 f34
          have hb4 := litSum_four (l := selM R q) fun a ha => hRb a (selM_mem ha)
          have hl4 := selM_len R q
          have hnext : ∀ {v : Int}, (∀ m : Nat, m < q → (selM R m).length = k → litSum (selM R m) ≤ v) → ((selM R q).length = k → litSum (selM R q) ≤ v) → ∀ m : Nat, m < q + 1 → (selM R m).length = k → litSum (selM R m) ≤ v := fun {v} h1 h2 m hm he => by
            rcases Nat.lt_or_ge m q with h | h
            · exact h1 m h he
            · have e : m = q := by omega
              subst e; exact h2 he
          by_cases hkk : (selM R q).length = k
          · have hkk' : (((selM R q).length : Nat) : Int) = (k : Nat) := by omega
            by_cases hgt : most < litSum (selM R q)
            · simp (disch := omega) only [f3, f4, f5, f6, f13, f29, f30, f31, f32, f33, f34, f35, hkk', hgt, ↓SXd, SXu, slBounds, ↓sop, ↓aop, ↓reduceIte, LV.cells, AOp.dst, LV.I, LV.B, LV.U, LV.S, LV.nil, Nat.reduceEqDiff, Nat.reduceAdd, Nat.reduceMul, Nat.reduceSub, Nat.reduceLeDiff, Nat.reduceBEq, Nat.reduceDiv, Nat.reduceMod, Int.reduceToNat, Int.reduceLT, Int.reduceLE, Int.reduceAdd, Int.reduceSub, Int.reduceMul, Int.reduceEq, Int.reduceNeg, reduceCtorEq, resV, resAll, ARes.ev, LV.flat, ite_true, ite_false, exists_eq_left', exists_eq_left, keyOf, implies_true, fillC, capOf]
              exact ⟨m2 - 1, by omega, q + 1, litSum (selM R q), by omega, rfl, by omega, hnext (fun m h1 h2 => by have := hmu m h1 h2; omega) (fun _ => Int.le_refl _), .inr ⟨q, by omega, hkk, rfl⟩, f3, f4, f5, f6, f13, f29, f30, rfl, eqI (natI _)⟩
            · simp (disch := omega) only [f3, f4, f5, f6, f13, f29, f30, f31, f32, f33, f34, f35, hkk', hgt, ↓SXd, SXu, slBounds, ↓sop, ↓aop, ↓reduceIte, LV.cells, AOp.dst, LV.I, LV.B, LV.U, LV.S, LV.nil, Nat.reduceEqDiff, Nat.reduceAdd, Nat.reduceMul, Nat.reduceSub, Nat.reduceLeDiff, Nat.reduceBEq, Nat.reduceDiv, Nat.reduceMod, Int.reduceToNat, Int.reduceLT, Int.reduceLE, Int.reduceAdd, Int.reduceSub, Int.reduceMul, Int.reduceEq, Int.reduceNeg, reduceCtorEq, resV, resAll, ARes.ev, LV.flat, ite_true, ite_false, exists_eq_left', exists_eq_left, keyOf, implies_true, fillC, capOf]
              exact ⟨m2 - 1, by omega, q + 1, most, by omega, rfl, hmb, hnext hmu (fun _ => by omega), hme.imp id fun ⟨m, h1, h2⟩ => ⟨m, by omega, h2⟩, f3, f4, f5, f6, f13, f29, f30, f31, eqI (natI _)⟩
          · have hkk' : ¬ (((selM R q).length : Nat) : Int) = (k : Nat) := by omega
            simp (disch := omega) only [f3, f4, f5, f6, f13, f29, f30, f31, f32, f33, f34, f35, hkk', ↓SXd, SXu, slBounds, ↓sop, ↓aop, ↓reduceIte, LV.cells, AOp.dst, LV.I, LV.B, LV.U, LV.S, LV.nil, Nat.reduceEqDiff, Nat.reduceAdd, Nat.reduceMul, Nat.reduceSub, Nat.reduceLeDiff, Nat.reduceBEq, Nat.reduceDiv, Nat.reduceMod, Int.reduceToNat, Int.reduceLT, Int.reduceLE, Int.reduceAdd, Int.reduceSub, Int.reduceMul, Int.reduceEq, Int.reduceNeg, reduceCtorEq, resV, resAll, ARes.ev, LV.flat, ite_true, ite_false, exists_eq_left', exists_eq_left, keyOf, implies_true, fillC, capOf]
            exact ⟨m2 - 1, by omega, q + 1, most, by omega, rfl, hmb, hnext hmu (fun h => absurd h hkk), hme.imp id fun ⟨m, h1, h2⟩ => ⟨m, by omega, h2⟩, f3, f4, f5, f6, f13, f29, f30, f31, eqI (natI _)⟩
      · have hqe : q = PW := by omega
        subst hqe
        simp (disch := omega) only [f3, f4, f5, f6, f13, f29, f30, f31, f32, ↓SXd, SXu, slBounds, ↓sop, ↓aop, ↓reduceIte, LV.cells, AOp.dst, LV.I, LV.B, LV.U, LV.S, LV.nil, Nat.reduceEqDiff, Nat.reduceAdd, Nat.reduceMul, Nat.reduceSub, Nat.reduceLeDiff, Nat.reduceBEq, Nat.reduceDiv, Nat.reduceMod, Int.reduceToNat, Int.reduceLT, Int.reduceLE, Int.reduceAdd, Int.reduceSub, Int.reduceMul, Int.reduceEq, Int.reduceNeg, reduceCtorEq, resV, resAll, ARes.ev, LV.flat, ite_true, ite_false, exists_eq_left', exists_eq_left, keyOf, implies_true, fillC, capOf]
        refine ev_loop (fun m3 fr M3 => ∃ i : Nat, i + m3 = D.length ∧ M3 = M2 ∧
          fr 3 = .ref tr 0 R.length ∧ fr 4 = .ref tc 0 D.length ∧ fr 5 = w5 ∧ fr 6 = .B e ∧ fr 13 = .B e ∧ fr 29 = .B f ∧ fr 30 = .I k ∧ fr 31 = .I most ∧ fr 36 = .I (sN i fun j => min (D.getD j 0) (k : Nat)) ∧ fr 37 = .I i) D.length
          ⟨0, by omega, rfl, f3, f4, f5, f6, f13, f29, f30, f31, rfl, rfl⟩ ?_
        clear f3 f4 f5 f6 f13 f29 f30 f31 f32
        rintro m3 fr M3 ⟨i, hi, rfl, f3, f4, f5, f6, f13, f29, f30, f31, f36, f37⟩
        simp (disch := omega) only [f3, f4, f5, f6, f13, f29, f30, f31, f36, f37, ↓SXd, SXu, slBounds, ↓sop, ↓aop, ↓reduceIte, LV.cells, AOp.dst, LV.I, LV.B, LV.U, LV.S, LV.nil, Nat.reduceEqDiff, Nat.reduceAdd, Nat.reduceMul, Nat.reduceSub, Nat.reduceLeDiff, Nat.reduceBEq, Nat.reduceDiv, Nat.reduceMod, Int.reduceToNat, Int.reduceLT, Int.reduceLE, Int.reduceAdd, Int.reduceSub, Int.reduceMul, Int.reduceEq, Int.reduceNeg, reduceCtorEq, resV, resAll, ARes.ev, LV.flat, ite_true, ite_false, exists_eq_left', exists_eq_left, keyOf, implies_true, fillC, capOf]
        have hb4 : ∀ i : Nat, i ≤ D.length → 0 ≤ sN i (fun j => min (D.getD j 0) (k : Nat)) ∧ sN i (fun j => min (D.getD j 0) (k : Nat)) ≤ 4 * (i : Nat) := fun i hi => sN_four fun j hj => by
          have := hDb _ (getD_mem' (d := 0) (show j < D.length by omega))
          omega
        refine condC_dec (fun hlt3 => ?_) (fun hlt3 => ?_)
        · have hil : i < D.length := by omega
          have hgi := Ints.get bC.has hil
          rw [Nat.zero_add] at hgi
          have hri := hDb _ (getD_mem' (d := 0) hil)
          have hb := hb4 i (by omega)
          have hsn : sN (i + 1) (fun j => min (D.getD j 0) (k : Nat)) = sN i (fun j => min (D.getD j 0) (k : Nat)) + min (D.getD i 0) (k : Nat) := rfl
          have hil' : (i : Int) < (D.length : Nat) := by omega
          generalize D.getD i 0 = r at hgi hri hsn
          by_cases hrk : r < (k : Int)
          · rw [show min r ((k : Nat) : Int) = r by omega] at hsn
            simp (disch := omega) only [f3, f4, f5, f6, f13, f29, f30, f31, f36, f37, hgi, hrk, hil', Nat.mul_one, Nat.zero_add, ↓SXd, SXu, slBounds, ↓sop, ↓aop, ↓reduceIte, LV.cells, AOp.dst, LV.I, LV.B, LV.U, LV.S, LV.nil, Nat.reduceEqDiff, Nat.reduceAdd, Nat.reduceMul, Nat.reduceSub, Nat.reduceLeDiff, Nat.reduceBEq, Nat.reduceDiv, Nat.reduceMod, Int.reduceToNat, Int.reduceLT, Int.reduceLE, Int.reduceAdd, Int.reduceSub, Int.reduceMul, Int.reduceEq, Int.reduceNeg, reduceCtorEq, resV, resAll, ARes.ev, LV.flat, ite_true, ite_false, exists_eq_left', exists_eq_left, keyOf, implies_true, fillC, capOf]
            exact ⟨m3 - 1, by omega, i + 1, by omega, rfl, f3, f4, f5, f6, f13, f29, f30, f31, by rw [hsn]; rfl, eqI (natI _)⟩
          · rw [show min r ((k : Nat) : Int) = (k : Nat) by omega] at hsn
            simp (disch := omega) only [f3, f4, f5, f6, f13, f29, f30, f31, f36, f37, hgi, hrk, hil', Nat.mul_one, Nat.zero_add, ↓SXd, SXu, slBounds, ↓sop, ↓aop, ↓reduceIte, LV.cells, AOp.dst, LV.I, LV.B, LV.U, LV.S, LV.nil, Nat.reduceEqDiff, Nat.reduceAdd, Nat.reduceMul, Nat.reduceSub, Nat.reduceLeDiff, Nat.reduceBEq, Nat.reduceDiv, Nat.reduceMod, Int.reduceToNat, Int.reduceLT, Int.reduceLE, Int.reduceAdd, Int.reduceSub, Int.reduceMul, Int.reduceEq, Int.reduceNeg, reduceCtorEq, resV, resAll, ARes.ev, LV.flat, ite_true, ite_false, exists_eq_left', exists_eq_left, keyOf, implies_true, fillC, capOf]
            exact ⟨m3 - 1, by omega, i + 1, by omega, rfl, f3, f4, f5, f6, f13, f29, f30, f31, by rw [hsn]; rfl, eqI (natI _)⟩
        · have : i = D.length := by omega
          subst this
          have hb := hb4 D.length (Nat.le_refl _)
          have hroom : most ≤ sN D.length (fun j => min (D.getD j 0) (k : Nat)) ↔ ∀ m : Nat, m < q → (selM R m).length = k → litSum (selM R m) ≤ sN D.length fun j => min (D.getD j 0) (k : Nat) := by
            constructor
            · intro h1 m h2 h3
              have := hmu m h2 h3; omega
            · intro h1
              rcases hme with h0 | ⟨m, h2, h3, h4⟩
              · omega
              · rw [← h4]; exact h1 m h2 h3
          have hnext : (litSum R = litSum D ∧ ∀ k' : Nat, 1 ≤ k' → k' < k + 1 → ∀ m : Nat, m < q → (selM R m).length = k' → litSum (selM R m) ≤ sN D.length fun j => min (D.getD j 0) (k' : Nat)) ↔ (f = true ∧ most ≤ sN D.length (fun j => min (D.getD j 0) (k : Nat))) := by
            rw [hf, hroom]
            constructor
            · rintro ⟨h1, h2⟩
              exact ⟨⟨h1, fun k' a b => h2 k' a (by omega)⟩, h2 k hk1 (by omega)⟩
            · rintro ⟨⟨h1, h2⟩, h3⟩
              refine ⟨h1, fun k' a b => ?_⟩
              rcases Nat.lt_or_ge k' k with h | h
              · exact h2 k' a h
              · have e : k' = k := by omega
                subst e; exact h3
          simp (disch := omega) only [f3, f4, f5, f6, f13, f29, f30, f31, f36, f37, ↓SXd, SXu, slBounds, ↓sop, ↓aop, ↓reduceIte, LV.cells, AOp.dst, LV.I, LV.B, LV.U, LV.S, LV.nil, Nat.reduceEqDiff, Nat.reduceAdd, Nat.reduceMul, Nat.reduceSub, Nat.reduceLeDiff, Nat.reduceBEq, Nat.reduceDiv, Nat.reduceMod, Int.reduceToNat, Int.reduceLT, Int.reduceLE, Int.reduceAdd, Int.reduceSub, Int.reduceMul, Int.reduceEq, Int.reduceNeg, reduceCtorEq, resV, resAll, ARes.ev, LV.flat, ite_true, ite_false, exists_eq_left', exists_eq_left, keyOf, implies_true, fillC, capOf]
          cases f with
          | false =>
            simp (disch := omega) only [f3, f4, f5, f6, f13, f29, f30, f31, f36, f37, ↓SXd, SXu, slBounds, ↓sop, ↓aop, ↓reduceIte, LV.cells, AOp.dst, LV.I, LV.B, LV.U, LV.S, LV.nil, Nat.reduceEqDiff, Nat.reduceAdd, Nat.reduceMul, Nat.reduceSub, Nat.reduceLeDiff, Nat.reduceBEq, Nat.reduceDiv, Nat.reduceMod, Int.reduceToNat, Int.reduceLT, Int.reduceLE, Int.reduceAdd, Int.reduceSub, Int.reduceMul, Int.reduceEq, Int.reduceNeg, reduceCtorEq, resV, resAll, ARes.ev, LV.flat, ite_true, ite_false, exists_eq_left', exists_eq_left, keyOf, implies_true, fillC, capOf]
            exact ⟨m - 1, by omega, k + 1, false, by omega, by omega, rfl, by rw [hnext]; simp, f3, f4, f5, f6, f13, rfl, eqI (natI _)⟩
          | true =>
            simp (disch := omega) only [f3, f4, f5, f6, f13, f29, f30, f31, f36, f37, ↓SXd, SXu, slBounds, ↓sop, ↓aop, ↓reduceIte, LV.cells, AOp.dst, LV.I, LV.B, LV.U, LV.S, LV.nil, Nat.reduceEqDiff, Nat.reduceAdd, Nat.reduceMul, Nat.reduceSub, Nat.reduceLeDiff, Nat.reduceBEq, Nat.reduceDiv, Nat.reduceMod, Int.reduceToNat, Int.reduceLT, Int.reduceLE, Int.reduceAdd, Int.reduceSub, Int.reduceMul, Int.reduceEq, Int.reduceNeg, reduceCtorEq, resV, resAll, ARes.ev, LV.flat, ite_true, ite_false, exists_eq_left', exists_eq_left, keyOf, implies_true, fillC, capOf]
            exact ⟨m - 1, by omega, k + 1, decide (most ≤ sN D.length fun j => min (D.getD j 0) (k : Nat)), by omega, by omega, rfl, by rw [hnext, decide_eq_true_iff]; simp, f3, f4, f5, f6, f13, rfl, eqI (natI _)⟩
  clear f3 f4 f5 f6 f10 f13
  rintro fr W4 ⟨rfl, f3, f4, f5, f6⟩
  cases e with
  | false =>
    simp (disch := omega) only [f3, f4, f5, f6, ↓SXd, SXu, slBounds, ↓sop, ↓aop, ↓reduceIte, LV.cells, AOp.dst, LV.I, LV.B, LV.U, LV.S, LV.nil, Nat.reduceEqDiff, Nat.reduceAdd, Nat.reduceMul, Nat.reduceSub, Nat.reduceLeDiff, Nat.reduceBEq, Nat.reduceDiv, Nat.reduceMod, Int.reduceToNat, Int.reduceLT, Int.reduceLE, Int.reduceAdd, Int.reduceSub, Int.reduceMul, Int.reduceEq, Int.reduceNeg, reduceCtorEq, resV, resAll, ARes.ev, LV.flat, ite_true, ite_false, exists_eq_left', exists_eq_left, keyOf, implies_true, fillC, capOf]
    rfl
  | true =>
  obtain ⟨hTR, hTC, hT01, hTlen⟩ := hE rfl
  have hT4 : T.length ≤ 4 := by omega
  simp (disch := omega) only [f3, f4, f5, f6, ↓SXd, SXu, slBounds, ↓sop, ↓aop, ↓reduceIte, LV.cells, AOp.dst, LV.I, LV.B, LV.U, LV.S, LV.nil, Nat.reduceEqDiff, Nat.reduceAdd, Nat.reduceMul, Nat.reduceSub, Nat.reduceLeDiff, Nat.reduceBEq, Nat.reduceDiv, Nat.reduceMod, Int.reduceToNat, Int.reduceLT, Int.reduceLE, Int.reduceAdd, Int.reduceSub, Int.reduceMul, Int.reduceEq, Int.reduceNeg, reduceCtorEq, resV, resAll, ARes.ev, LV.flat, ite_true, ite_false, exists_eq_left', exists_eq_left, keyOf, implies_true, fillC, capOf]
  rw [rep_ints]
  have hrep : colsE D.length [] = List.replicate D.length 0 := by
    refine List.ext_getElem (by simp [colsE]) fun j h1 h2 => ?_
    simp [colsE, litSum]
  have hw5 := T5.lenV
  refine ev_loop (fun m fr M' => ∃ i : Nat, i + m = T.length ∧ Pre W4 M' ∧ Live M' W4.length (.row (intL (colsE D.length (T.take i))) true 1) ∧
    fr 3 = .ref tr 0 R.length ∧ fr 4 = .ref tc 0 D.length ∧ fr 5 = w5 ∧ fr 38 = .ref W4.length 0 D.length ∧ fr 39 = .I i) T.length
    ⟨0, by omega, Pre.app _ _, by rw [List.take_zero, hrep]; exact Live.new, f3, f4, f5, rfl, rfl⟩ ?_
  clear f3 f4 f5 f6
  rintro m fr M' ⟨i, hi, hpre, bS, f3, f4, f5, f38, f39⟩
  simp (disch := omega) only [f3, f4, f5, f38, f39, hw5, ↓SXd, SXu, slBounds, ↓sop, ↓aop, ↓reduceIte, LV.cells, AOp.dst, LV.I, LV.B, LV.U, LV.S, LV.nil, Nat.reduceEqDiff, Nat.reduceAdd, Nat.reduceMul, Nat.reduceSub, Nat.reduceLeDiff, Nat.reduceBEq, Nat.reduceDiv, Nat.reduceMod, Int.reduceToNat, Int.reduceLT, Int.reduceLE, Int.reduceAdd, Int.reduceSub, Int.reduceMul, Int.reduceEq, Int.reduceNeg, reduceCtorEq, resV, resAll, ARes.ev, LV.flat, ite_true, ite_false, exists_eq_left', exists_eq_left, keyOf, implies_true, fillC, capOf]
  refine condC_dec (fun hlt => ?_) (fun hlt => ?_)
  rotate_left
  · have : i = T.length := by omega
    subst this
    rw [List.take_length, hTC] at bS
    simp (disch := omega) only [f3, f4, f5, f38, f39, ↓SXd, SXu, slBounds, ↓sop, ↓aop, ↓reduceIte, LV.cells, AOp.dst, LV.I, LV.B, LV.U, LV.S, LV.nil, Nat.reduceEqDiff, Nat.reduceAdd, Nat.reduceMul, Nat.reduceSub, Nat.reduceLeDiff, Nat.reduceBEq, Nat.reduceDiv, Nat.reduceMod, Int.reduceToNat, Int.reduceLT, Int.reduceLE, Int.reduceAdd, Int.reduceSub, Int.reduceMul, Int.reduceEq, Int.reduceNeg, reduceCtorEq, resV, resAll, ARes.ev, LV.flat, ite_true, ite_false, exists_eq_left', exists_eq_left, keyOf, implies_true, fillC, capOf]
    refine callK_of (k_rInts (.inr ⟨W4.length, 0, rfl, bS.has⟩) (.inr ⟨tc, 0, rfl, (bC.pre hpre).has⟩) (by omega)) ?_
    simp (disch := omega) only [f3, f4, f5, f38, f39, ↓SXd, SXu, slBounds, ↓sop, ↓aop, ↓reduceIte, LV.cells, AOp.dst, LV.I, LV.B, LV.U, LV.S, LV.nil, Nat.reduceEqDiff, Nat.reduceAdd, Nat.reduceMul, Nat.reduceSub, Nat.reduceLeDiff, Nat.reduceBEq, Nat.reduceDiv, Nat.reduceMod, Int.reduceToNat, Int.reduceLT, Int.reduceLE, Int.reduceAdd, Int.reduceSub, Int.reduceMul, Int.reduceEq, Int.reduceNeg, reduceCtorEq, resV, resAll, ARes.ev, LV.flat, ite_true, ite_false, exists_eq_left', exists_eq_left, keyOf, implies_true, fillC, capOf]
    rfl
  have hil : i < T.length := by omega
  have hts := take_snocL [] hil
  obtain ⟨t5, w, rfl, hgw0, hIw0⟩ := T5.at hil
  have ht5 : t5 < W4.length := by
    unfold getCell getRow at hgw0
    rcases Nat.lt_or_ge t5 W4.length with h | h
    · exact h
    · rw [List.getElem?_eq_none h] at hgw0; simp at hgw0
  have hcellP : ∀ {Z : Mem}, Pre W4 Z → getCell Z t5 i = some (.ref w 0 (T.getD i []).length) := fun {Z} hp => by
    unfold getCell getRow at hgw0 ⊢
    rw [hp.2 t5 ht5]; exact hgw0
  have hgw := hcellP hpre
  have hIw := hIw0.pre hpre
  have hrow := hT01 _ (getD_mem' (d := []) hil)
  have hBt : Tab01 D.length (T.take i) := fun r hr => hT01 r (List.mem_of_mem_take hr)
  have hcb := colsE_bound hBt
  have hcl := colsE_len (n := D.length) (T := T.take i)
  have hRi : R.getD i 0 = litSum (T.getD i []) := by
    rw [← hTR]
    simp only [List.getD_eq_getElem?_getD, List.getElem?_map, List.getElem?_eq_getElem hil]
    rfl
  have hgR := Ints.get (bR.pre hpre).has (k := i) (by omega)
  rw [Nat.zero_add, hRi] at hgR
  rw [List.length_take] at hcb
  generalize T.getD i [] = row at hts hgw hIw hrow hgR hIw0 hcellP
  obtain ⟨hrl, hrb⟩ := hrow
  have hstep : colsE D.length (T.take (i + 1)) = subR (colsE D.length (T.take i)) (row.map fun a => -a) := by rw [hts, colsE_snoc hrl]
  have hrm : (row.map fun a => -a).length = (colsE D.length (T.take i)).length := by rw [List.length_map, hrl, hcl]
  generalize colsE D.length (T.take i) = cols at bS hcb hcl hstep hrm
  have hpl := hpre.1
  have hil' : (i : Int) < (T.length : Nat) := by omega
  have hilR : (i : Int) < (R.length : Nat) := by omega
  have hrs : ∀ j, 0 ≤ row.getD j 0 ∧ row.getD j 0 ≤ 1000000 := fun j => by
    by_cases hj : j < row.length
    · have := hrb _ (getD_mem' (d := 0) hj); omega
    · rw [List.getD_eq_getElem?_getD, List.getElem?_eq_none (by omega)]; simp
  simp (disch := omega) only [f3, f4, f5, f38, f39, hgw, hil', hilR, hgR, Nat.mul_one, Nat.zero_add, ↓SXd, SXu, slBounds, ↓sop, ↓aop, ↓reduceIte, LV.cells, AOp.dst, LV.I, LV.B, LV.U, LV.S, LV.nil, Nat.reduceEqDiff, Nat.reduceAdd, Nat.reduceMul, Nat.reduceSub, Nat.reduceLeDiff, Nat.reduceBEq, Nat.reduceDiv, Nat.reduceMod, Int.reduceToNat, Int.reduceLT, Int.reduceLE, Int.reduceAdd, Int.reduceSub, Int.reduceMul, Int.reduceEq, Int.reduceNeg, reduceCtorEq, resV, resAll, ARes.ev, LV.flat, ite_true, ite_false, exists_eq_left', exists_eq_left, keyOf, implies_true, fillC, capOf]
  refine callK_of (k_rSum (.inr ⟨w, 0, rfl, hIw⟩) (by omega) hrs) ?_
  simp (disch := omega) only [f3, f4, f5, f38, f39, ↓SXd, SXu, slBounds, ↓sop, ↓aop, ↓reduceIte, LV.cells, AOp.dst, LV.I, LV.B, LV.U, LV.S, LV.nil, Nat.reduceEqDiff, Nat.reduceAdd, Nat.reduceMul, Nat.reduceSub, Nat.reduceLeDiff, Nat.reduceBEq, Nat.reduceDiv, Nat.reduceMod, Int.reduceToNat, Int.reduceLT, Int.reduceLE, Int.reduceAdd, Int.reduceSub, Int.reduceMul, Int.reduceEq, Int.reduceNeg, reduceCtorEq, resV, resAll, ARes.ev, LV.flat, ite_true, ite_false, exists_eq_left', exists_eq_left, keyOf, implies_true, fillC, capOf]
  refine ev_loop (fun m2 fr M2 => ∃ k : Nat, k + m2 = D.length ∧ Pre W4 M2 ∧ Live M2 W4.length (.row (intL (leftK cols (row.map fun a => -a) k)) true 1) ∧
    fr 3 = .ref tr 0 R.length ∧ fr 4 = .ref tc 0 D.length ∧ fr 5 = .ref t5 0 T.length ∧ fr 38 = .ref W4.length 0 D.length ∧ fr 39 = .I i ∧ fr 40 = .I k) D.length
    ⟨0, by omega, hpre, by rw [leftK_zero]; exact bS, f3, f4, f5, f38, f39, rfl⟩ ?_
  clear f3 f4 f5 f38 f39 bS hlt hgw hIw
  rintro m2 fr M2 ⟨k, hk, hp2, bS, f3, f4, f5, f38, f39, f40⟩
  have hgw2 := hcellP hp2
  simp (disch := omega) only [f3, f4, f5, f38, f39, f40, hgw2, hil', Nat.mul_one, Nat.zero_add, ↓SXd, SXu, slBounds, ↓sop, ↓aop, ↓reduceIte, LV.cells, AOp.dst, LV.I, LV.B, LV.U, LV.S, LV.nil, Nat.reduceEqDiff, Nat.reduceAdd, Nat.reduceMul, Nat.reduceSub, Nat.reduceLeDiff, Nat.reduceBEq, Nat.reduceDiv, Nat.reduceMod, Int.reduceToNat, Int.reduceLT, Int.reduceLE, Int.reduceAdd, Int.reduceSub, Int.reduceMul, Int.reduceEq, Int.reduceNeg, reduceCtorEq, resV, resAll, ARes.ev, LV.flat, ite_true, ite_false, exists_eq_left', exists_eq_left, keyOf, implies_true, fillC, capOf]
  refine condC_dec (fun hlt => ?_) (fun hlt => ?_)
  · have hkn : k < D.length := by omega
    have hkr : k < row.length := by omega
    have hgr := Ints.get (hIw0.pre hp2) hkr
    rw [Nat.zero_add] at hgr
    have hgc := Ints.get bS.has (k := k) (by rw [leftK_len hrm (by omega)]; omega)
    rw [Nat.zero_add, leftK_get hrm (by omega)] at hgc
    have hls := leftK_succ hrm (k := k) (by omega)
    have hneg : (row.map fun a => -a).getD k 0 = - row.getD k 0 := by
      simp only [List.getD_eq_getElem?_getD, List.getElem?_map, List.getElem?_eq_getElem hkr]; rfl
    rw [hneg] at hls
    have hcbk := hcb _ (getD_mem' (d := 0) (show k < cols.length by omega))
    have hrbk := hrb _ (getD_mem' (d := 0) hkr)
    generalize row.getD k 0 = b at hgr hls hrbk
    generalize cols.getD k 0 = a at hgc hls hcbk
    have hkn' : (k : Int) < (D.length : Nat) := by omega
    have hkr' : (k : Int) < (row.length : Nat) := by omega
    rw [show a - -b = a + b by omega] at hls
    simp (disch := omega) only [f3, f4, f5, f38, f39, f40, hgw2, hgr, hgc, hkn', hkr', hil', Nat.mul_one, Nat.zero_add, ↓SXd, SXu, slBounds, ↓sop, ↓aop, ↓reduceIte, LV.cells, AOp.dst, LV.I, LV.B, LV.U, LV.S, LV.nil, Nat.reduceEqDiff, Nat.reduceAdd, Nat.reduceMul, Nat.reduceSub, Nat.reduceLeDiff, Nat.reduceBEq, Nat.reduceDiv, Nat.reduceMod, Int.reduceToNat, Int.reduceLT, Int.reduceLE, Int.reduceAdd, Int.reduceSub, Int.reduceMul, Int.reduceEq, Int.reduceNeg, reduceCtorEq, resV, resAll, ARes.ev, LV.flat, ite_true, ite_false, exists_eq_left', exists_eq_left, keyOf, implies_true, fillC, capOf]
    refine memK_int bS (by rw [leftK_len hrm (by omega)]; omega) fun N3 k1 k3 k4 => ?_
    rw [← hls] at k3
    simp (disch := omega) only [f3, f4, f5, f38, f39, f40, ↓SXd, SXu, slBounds, ↓sop, ↓aop, ↓reduceIte, LV.cells, AOp.dst, LV.I, LV.B, LV.U, LV.S, LV.nil, Nat.reduceEqDiff, Nat.reduceAdd, Nat.reduceMul, Nat.reduceSub, Nat.reduceLeDiff, Nat.reduceBEq, Nat.reduceDiv, Nat.reduceMod, Int.reduceToNat, Int.reduceLT, Int.reduceLE, Int.reduceAdd, Int.reduceSub, Int.reduceMul, Int.reduceEq, Int.reduceNeg, reduceCtorEq, resV, resAll, ARes.ev, LV.flat, ite_true, ite_false, exists_eq_left', exists_eq_left, keyOf, implies_true, fillC, capOf]
    exact ⟨m2 - 1, by omega, k + 1, by omega, pre_step hp2 (Nat.le_refl _) (j := 0) k1 k4, k3, f3, f4, f5, f38, f39, eqI (natI _)⟩
  · have : k = D.length := by omega
    subst this
    rw [← hcl, leftK_all hrm, ← hstep] at bS
    simp (disch := omega) only [f3, f4, f5, f38, f39, f40, ↓SXd, SXu, slBounds, ↓sop, ↓aop, ↓reduceIte, LV.cells, AOp.dst, LV.I, LV.B, LV.U, LV.S, LV.nil, Nat.reduceEqDiff, Nat.reduceAdd, Nat.reduceMul, Nat.reduceSub, Nat.reduceLeDiff, Nat.reduceBEq, Nat.reduceDiv, Nat.reduceMod, Int.reduceToNat, Int.reduceLT, Int.reduceLE, Int.reduceAdd, Int.reduceSub, Int.reduceMul, Int.reduceEq, Int.reduceNeg, reduceCtorEq, resV, resAll, ARes.ev, LV.flat, ite_true, ite_false, exists_eq_left', exists_eq_left, keyOf, implies_true, fillC, capOf]
    exact ⟨m - 1, by omega, i + 1, by omega, hp2, bS, f3, f4, f5, f38, eqI (natI _)⟩
end Go.Ab

/- Bytes that came in, opened. -/
namespace Go.Ab
open Go Go.RowKit Go.Joins Go.ChangeShapes Go.WideShapes Go.Deep Go.WideElems Go.Maps

/-- What the abstract machine is told of a slice of bytes that came in. -/
def RowOfB (w : World) (a : Option Addr) (len cap : Nat) (xs : List Nat) : Prop :=
  xs.length = len ∧ len ≤ cap ∧ cap ≤ maxLen ∧ (∀ b ∈ xs, b ≤ 255) ∧ (cap = 0 ∨ ∃ b o c e fz, a = some ⟨b, o, none⟩ ∧ w.heap[b]? = some (.cells c e fz) ∧ ∀ i, i < len → c[o + i]? = some (.int .u8 ((xs.getD i 0 : Nat) : Int)))

section
variable {H : Type} {enc : TypeId × Value → H} {P : Program} {w : World} {held : Bool}
theorem open_bytesB {ts ti : TypeId} {fuel : Nat} {cs : List Value} {x : DataW H × List MemPlace} (hts : P.underlying ts = some (.slice ti)) (hti : P.underlying ti = some (.int .u8)) (hci : P.cellsOf ti = 1)
    (h : DataW.trod enc P w 0 (fun _ => true) held fuel ts cs = some x) : ∃ a len cap xs, cs = [.slice a len cap] ∧ RowOfB w a len cap xs := by
  rcases Go.ChangeShapes.open_ints hts hti hci h with ⟨rfl, _⟩ | ⟨a, len, cap, zs, rfl, _, hl, hm, hz, _, hel, hwf⟩
  · exact ⟨none, 0, 0, [], rfl, rfl, Nat.le_refl _, Nat.zero_le _, by simp, .inl rfl⟩
  · have hzl : zs.length = cap := by simpa using hz
    have hby : ∀ n ∈ zs, 0 ≤ n ∧ n ≤ 255 := fun n hn => by
      have h1 := hwf n hn
      unfold Lit.wf at h1
      rw [Bool.and_eq_true, decide_eq_true_iff, decide_eq_true_iff] at h1
      exact h1
    refine ⟨some a, len, cap, (zs.take len).map Int.toNat, rfl, by simp; omega, hl, hm, fun b hb => ?_, ?_⟩
    · obtain ⟨n, hn, rfl⟩ := List.mem_map.1 hb
      have := hby n (List.mem_of_mem_take hn)
      omega
    rcases Nat.eq_zero_or_pos cap with h0 | h0
    · exact .inl h0
    · refine .inr ?_
      have hc0 := hel 0 (by omega)
      obtain ⟨b, o, c, e, fz, ha, hh, _⟩ := cell_heap hc0
      have ha' : a = ⟨b, o, none⟩ := by simpa [Addr.add] using ha
      subst ha'
      refine ⟨b, o, c, e, fz, rfl, hh, fun i hi => ?_⟩
      have hcell := hel i (by omega)
      have hadd : (⟨b, o, none⟩ : Addr).add i = ⟨b, o + i, none⟩ := addr_add _ _ _
      rw [hadd] at hcell
      unfold World.cell? at hcell
      simp only [hh] at hcell
      have hil : i < zs.length := by omega
      have hbi := hby _ (getD_mem' (d := 0) hil)
      have hg : ((((zs.take len).map Int.toNat).getD i 0 : Nat) : Int) = zs.getD i 0 := by
        have e1 : ((zs.take len).map Int.toNat).getD i 0 = (zs.getD i 0).toNat := by simp [hi, hil]
        rw [e1]; omega
      rw [hg]
      simpa using hcell
end
theorem byL_get {bs : List Nat} {i : Nat} (h : i < bs.length) : (byL bs)[i]? = some (.val (.int .u8 ((bs.getD i 0 : Nat) : Int))) := by simp [byL, h]
theorem Inv.addBytes' {G : Gh} {M : Mem} {w : World} (hi : Inv G M w) (hno : NoOwn M) {a : Option Addr} {len cap : Nat} {xs : List Nat} (h : RowOfB w a len cap xs) :
    ∃ (G' : Gh) (N : Mem) (t : Nat), Ext G G' ∧ Inv G' N w ∧ NoOwn N ∧ Pre M N ∧ VR1 G' (.ref t 0 len) (.slice a len cap) ∧ Bytes N t 0 xs := by
  obtain ⟨h1, h2, h3, _, h4⟩ := h
  have key : ∃ G', Ext G G' ∧ Inv G' (M ++ [some (.row (byL xs) false 1)]) w ∧ NoOwn (M ++ [some (.row (byL xs) false 1)]) ∧ VR1 G' (.ref M.length 0 len) (.slice a len cap) := by
    refine hi.addRow hno h2 (by rw [byL_len]; omega) ?_
    rcases h4 with h0 | ⟨b, o, c, e, fz, ha, hh, hc⟩
    · refine .inl ⟨h0, ?_⟩
      have : xs = [] := List.eq_nil_of_length_eq_zero (by omega)
      rw [this]; rfl
    · refine .inr ⟨b, o, c, e, fz, ha, hh, fun j l hj => ?_⟩
      have hjl : j < xs.length := by
        rw [← byL_len]
        rcases Nat.lt_or_ge j (byL xs).length with h | h
        · exact h
        · rw [List.getElem?_eq_none h] at hj; cases hj
      rw [byL_get hjl] at hj
      cases hj
      exact ⟨_, hc j (by omega), rfl, rfl⟩
  obtain ⟨G', k1, k2, k3, k4⟩ := key
  exact ⟨G', _, _, k1, k2, k3, Pre.app _ _, k4, Has.new⟩
/-- Bytes whose block has elements of one cell. -/
def BytesZ (M : Mem) (t o : Nat) (bs : List Nat) : Prop := Bytes M t o bs ∧ getEsz M t = some 1
theorem RowOfB.le {w : World} {a : Option Addr} {len cap : Nat} {xs : List Nat} (h : RowOfB w a len cap xs) : xs.length ≤ 9223372036854775807 ∧ ∀ b ∈ xs, b ≤ 255 := by
  obtain ⟨h0, h1, h2, h3, _⟩ := h
  have := max63
  exact ⟨by omega, h3⟩
end Go.Ab
