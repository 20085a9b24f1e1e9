/- Parts of the proof of FnTopWalksSaid: Hf C_Hg K_Hg Hg Eh C_Ei K_Ei Ei LFnTopWalks Re. -/
import Derived.Test.YthgljdbfkojpeaaA9
import Derived.Test.YthgljdbfkojpeaaA4
import Derived.Test.YthgljdbfkojpeaaA10
import Derived.Test.YthgljdbfkojpeaaA5
import Derived.Test.YthgljdbfkojpeaaA3
import Derived.Test.YthgljdbfkojpeaaProg
import Derived.KernelRfl
import Derived.Test.YthgljdbfkojpeaaA7
import Derived.Test.YthgljdbfkojpeaaA8
set_option linter.all false
/- Contracts: the walks that a law draws. -/
namespace Go.Ab
open Go
set_option linter.unusedSimpArgs false
set_option linter.unusedVariables false
set_option maxRecDepth 20000

theorem d_DrawWalkClimb {t o : Nat} {bs : List Nat} {M : Mem} (hB : Bytes M t o bs) (h255 : ∀ b ∈ bs, b ≤ 255) (hl : bs.length ≤ 1000000000) :
    CallsR PG F.spec_DrawWalkClimb [.ref t o bs.length] M fun v N => (∃ (hv : LV) (u : Nat) (w : List Int), v = .tup [hv, .ref u 0 w.length] ∧ HeapR M hv N ∧ Live N u (.row (intL w) true 1) ∧ M.length ≤ u ∧ w.length ≤ 100) ∧ Pre M N := by
  have htM := hB.lt
  refine callsR_run K.spec_DrawWalkClimb rfl ?_
  simp (disch := omega) only [C.spec_DrawWalkClimb, splice, ↓SXd, SXu, slBounds, ↓sop, ↓aop, ↓reduceIte, LV.cells, AOp.dst, LV.I, LV.B, LV.U, LV.S, LV.nil, Nat.reduceEqDiff, Nat.reduceAdd, Nat.reduceMul, Nat.reduceSub, Nat.reduceLeDiff, Nat.reduceBEq, Nat.reduceDiv, Nat.reduceMod, Int.reduceToNat, Int.reduceLT, Int.reduceLE, Int.reduceAdd, Int.reduceSub, Int.reduceMul, Int.reduceEq, Int.reduceNeg, reduceCtorEq, resV, resAll, ARes.ev, LV.flat, ite_true, ite_false, exists_eq_left', exists_eq_left, keyOf, implies_true, fillC, capOf]
  have hc := CurAt.new2 (b := some (.row [.I 0, .I 0, .I 0, .nil] true 0)) hB h255 hl
  refine callR_of (d_heapR hc (by omega)) ?_
  rintro _ N1 ⟨⟨x, y, z, cs, u, ex, rfl, hu, hul, hcl⟩, hd1⟩
  rw [List.length_append] at hul
  simp only [List.length_cons, List.length_nil] at hul
  have b2 : Live N1 M.length (.row [.I 0, .I 0, .I 0, .nil] true 0) := hd1.live Live.new (by omega)
  have hP1 : Pre M N1 := hd1.pre (Pre.app _ _) (by omega)
  have hN1 := hP1.1
  have hull := hu.lt
  simp (disch := omega) only [splice, ↓SXd, SXu, slBounds, ↓sop, ↓aop, ↓reduceIte, LV.cells, AOp.dst, LV.I, LV.B, LV.U, LV.S, LV.nil, Nat.reduceEqDiff, Nat.reduceAdd, Nat.reduceMul, Nat.reduceSub, Nat.reduceLeDiff, Nat.reduceBEq, Nat.reduceDiv, Nat.reduceMod, Int.reduceToNat, Int.reduceLT, Int.reduceLE, Int.reduceAdd, Int.reduceSub, Int.reduceMul, Int.reduceEq, Int.reduceNeg, reduceCtorEq, resV, resAll, ARes.ev, LV.flat, ite_true, ite_false, exists_eq_left', exists_eq_left, keyOf, implies_true, fillC, capOf]
  have hd1' : CurAt (N1 ++ [some (.row [.I x, .I y, .I z, .ref u 0 cs.length] true 0)]) (M.length + 1) t o bs 160 := hd1.1.pre (Pre.app _ _)
  refine callR_of (d_columnOf hd1' (by omega)) ?_
  rintro _ N2 ⟨⟨p, rfl⟩, hd2⟩
  have b3 : Live N2 N1.length (.row [.I x, .I y, .I z, .ref u 0 cs.length] true 0) := hd2.live Live.new (by omega)
  have c2 := hd2.live b2.app (show M.length ≠ M.length + 1 by omega)
  have cu := hd2.live hu.app (show u ≠ M.length + 1 by omega)
  have hP2 : Pre M N2 := hd2.pre (hP1.trans (Pre.app _ _)) (by omega)
  have b3l := b3.lt
  simp (disch := omega) only [splice, ↓SXd, SXu, slBounds, ↓sop, ↓aop, ↓reduceIte, LV.cells, AOp.dst, LV.I, LV.B, LV.U, LV.S, LV.nil, Nat.reduceEqDiff, Nat.reduceAdd, Nat.reduceMul, Nat.reduceSub, Nat.reduceLeDiff, Nat.reduceBEq, Nat.reduceDiv, Nat.reduceMod, Int.reduceToNat, Int.reduceLT, Int.reduceLE, Int.reduceAdd, Int.reduceSub, Int.reduceMul, Int.reduceEq, Int.reduceNeg, reduceCtorEq, resV, resAll, ARes.ev, LV.flat, ite_true, ite_false, exists_eq_left', exists_eq_left, keyOf, implies_true, fillC, capOf]
  have hc2 : CurAt (N2 ++ [some (.row [.I p] true 1)]) (M.length + 1) t o bs 164 := hd2.1.pre (Pre.app _ _)
  have ham := d_amongNew (xs := [3, 5, 1, 0, 8]) hc2 (by omega) (by simp) (by simp)
  rw [List.append_assoc, List.length_append] at ham
  refine callR_of ham ?_
  rintro _ N3 ⟨⟨b, rfl, hb⟩, hd3⟩
  obtain ⟨n, rfl, hn8⟩ : ∃ n : Nat, b = (n : Int) ∧ n ≤ 8 := by
    simp only [List.mem_cons, List.not_mem_nil, or_false] at hb
    exact ⟨b.toNat, by omega, by omega⟩
  have d2 := hd3.live (c2.app (L := [some (.row [.I p] true 1)])) (show M.length ≠ M.length + 1 by omega)
  have du := hd3.live (cu.app (L := [some (.row [.I p] true 1)])) (show u ≠ M.length + 1 by omega)
  have d3 := hd3.live (b3.app (L := [some (.row [.I p] true 1)])) (show N1.length ≠ M.length + 1 by omega)
  have dw : Live N3 N2.length (.row (intL [p]) true 1) := hd3.live Live.new (by omega)
  have hP3 : Pre M N3 := hd3.pre (hP2.trans (Pre.app _ _)) (by omega)
  simp (disch := omega) only [↓SXd, SXu, slBounds, ↓sop, ↓aop, ↓reduceIte, LV.cells, AOp.dst, LV.I, LV.B, LV.U, LV.S, LV.nil, Nat.reduceEqDiff, Nat.reduceAdd, Nat.reduceMul, Nat.reduceSub, Nat.reduceLeDiff, Nat.reduceBEq, Nat.reduceDiv, Nat.reduceMod, Int.reduceToNat, Int.reduceLT, Int.reduceLE, Int.reduceAdd, Int.reduceSub, Int.reduceMul, Int.reduceEq, Int.reduceNeg, reduceCtorEq, resV, resAll, ARes.ev, LV.flat, ite_true, ite_false, exists_eq_left', exists_eq_left, keyOf, implies_true, fillC, capOf]
  refine ev_loop (fun m fr M' => ∃ (a uw : Nat) (w : List Int), a + 2 * m ≤ 300 ∧ CurAt M' (M.length + 1) t o bs a ∧ Pre M M' ∧ Live M' M.length (.row [.I 0, .I 0, .I 0, .nil] true 0) ∧ Live M' N1.length (.row [.I x, .I y, .I z, .ref u 0 cs.length] true 0) ∧ Live M' u (.row (triL (cs ++ ex)) true 3) ∧ Live M' uw (.row (intL w) true 1) ∧ N1.length < uw ∧ 0 < w.length ∧ w.length + m ≤ 10 ∧
    fr 2 = .ptr M.length 0 ∧ fr 4 = .ptr (M.length + 1) 0 ∧ fr 5 = .ptr N1.length 0 ∧ fr 6 = .ref uw 0 w.length ∧ fr 7 = .I m) n
    ⟨166, N2.length, [p], by omega, hd3.1, hP3, d2, d3, du, dw, by omega, by simp, by simp; omega, rfl, rfl, rfl, rfl, rfl⟩ ?_
  rintro m fr M' ⟨a, uw, w, ha, hcur, hpre, e2, e3, eu, ew, huw, hw0, hwm, f2, f4, f5, f6, f7⟩
  simp (disch := omega) only [f2, f4, f5, f6, f7, ↓SXd, SXu, slBounds, ↓sop, ↓aop, ↓reduceIte, LV.cells, AOp.dst, LV.I, LV.B, LV.U, LV.S, LV.nil, Nat.reduceEqDiff, Nat.reduceAdd, Nat.reduceMul, Nat.reduceSub, Nat.reduceLeDiff, Nat.reduceBEq, Nat.reduceDiv, Nat.reduceMod, Int.reduceToNat, Int.reduceLT, Int.reduceLE, Int.reduceAdd, Int.reduceSub, Int.reduceMul, Int.reduceEq, Int.reduceNeg, reduceCtorEq, resV, resAll, ARes.ev, LV.flat, ite_true, ite_false, exists_eq_left', exists_eq_left, keyOf, implies_true, fillC, capOf]
  refine condC_dec (fun hlt => ?_) (fun hlt => ?_)
  · obtain ⟨m, rfl⟩ : ∃ k, m = k + 1 := ⟨m - 1, by omega⟩
    have hgl := Ints.get ew.has (k := w.length - 1) (by omega)
    have hwi : (w.length : Int) - 1 = ((w.length - 1 : Nat) : Int) := by omega
    have hm1 : ((m + 1 : Nat) : Int) - 1 = (m : Int) := by omega
    rw [Nat.zero_add] at hgl
    simp (disch := omega) only [f2, f4, f5, f6, f7, hwi, hgl, Nat.mul_one, Nat.zero_add, e3.cells, ↓SXd, SXu, slBounds, ↓sop, ↓aop, ↓reduceIte, LV.cells, AOp.dst, LV.I, LV.B, LV.U, LV.S, LV.nil, Nat.reduceEqDiff, Nat.reduceAdd, Nat.reduceMul, Nat.reduceSub, Nat.reduceLeDiff, Nat.reduceBEq, Nat.reduceDiv, Nat.reduceMod, Int.reduceToNat, Int.reduceLT, Int.reduceLE, Int.reduceAdd, Int.reduceSub, Int.reduceMul, Int.reduceEq, Int.reduceNeg, reduceCtorEq, resV, resAll, ARes.ev, LV.flat, ite_true, ite_false, exists_eq_left', exists_eq_left, keyOf, implies_true, fillC, capOf]
    have hT : Tri M' u 0 cs := by
      have := eu
      rw [triL_append] at this
      exact this.hasL
    refine callK_of (h_l10Column (p := w.getD (w.length - 1) 0) hT (by omega)) ?_
    simp (disch := omega) only [f2, f4, f5, f6, f7, ↓SXd, SXu, slBounds, ↓sop, ↓aop, ↓reduceIte, LV.cells, AOp.dst, LV.I, LV.B, LV.U, LV.S, LV.nil, Nat.reduceEqDiff, Nat.reduceAdd, Nat.reduceMul, Nat.reduceSub, Nat.reduceLeDiff, Nat.reduceBEq, Nat.reduceDiv, Nat.reduceMod, Int.reduceToNat, Int.reduceLT, Int.reduceLE, Int.reduceAdd, Int.reduceSub, Int.reduceMul, Int.reduceEq, Int.reduceNeg, reduceCtorEq, resV, resAll, ARes.ev, LV.flat, ite_true, ite_false, exists_eq_left', exists_eq_left, keyOf, implies_true, fillC, capOf]
    by_cases hv : HeapOK x y z cs ∧ (0 ≤ w.getD (w.length - 1) 0 ∧ w.getD (w.length - 1) 0 ≤ x * y - 1)
    · have hb := mul_bound hv.1.1.1 hv.1.1.2.1
      have hnl := nexts_len (x := x) (y := y) (p := w.getD (w.length - 1) 0) hb.2
      simp (disch := omega) only [f2, f4, f5, f6, f7, hv, e3.cells, ↓SXd, SXu, slBounds, ↓sop, ↓aop, ↓reduceIte, LV.cells, AOp.dst, LV.I, LV.B, LV.U, LV.S, LV.nil, Nat.reduceEqDiff, Nat.reduceAdd, Nat.reduceMul, Nat.reduceSub, Nat.reduceLeDiff, Nat.reduceBEq, Nat.reduceDiv, Nat.reduceMod, Int.reduceToNat, Int.reduceLT, Int.reduceLE, Int.reduceAdd, Int.reduceSub, Int.reduceMul, Int.reduceEq, Int.reduceNeg, reduceCtorEq, resV, resAll, ARes.ev, LV.flat, ite_true, ite_false, exists_eq_left', exists_eq_left, keyOf, implies_true, fillC, capOf]
      refine callN_of (h_l10Next hv.1.1 hv.2) ?_
      intro tn N0 htn hp0 hnx0
      simp (disch := omega) only [f2, f4, f5, f6, f7, ↓SXd, SXu, slBounds, ↓sop, ↓aop, ↓reduceIte, LV.cells, AOp.dst, LV.I, LV.B, LV.U, LV.S, LV.nil, Nat.reduceEqDiff, Nat.reduceAdd, Nat.reduceMul, Nat.reduceSub, Nat.reduceLeDiff, Nat.reduceBEq, Nat.reduceDiv, Nat.reduceMod, Int.reduceToNat, Int.reduceLT, Int.reduceLE, Int.reduceAdd, Int.reduceSub, Int.reduceMul, Int.reduceEq, Int.reduceNeg, reduceCtorEq, resV, resAll, ARes.ev, LV.flat, ite_true, ite_false, exists_eq_left', exists_eq_left, keyOf, implies_true, fillC, capOf]
      generalize nexts x y (w.getD (w.length - 1) 0) = ns at hnl hnx0 ⊢
      by_cases h0 : (ns.length : Int) > 0
      · simp (disch := omega) only [f2, f4, f5, f6, f7, h0, ↓SXd, SXu, slBounds, ↓sop, ↓aop, ↓reduceIte, LV.cells, AOp.dst, LV.I, LV.B, LV.U, LV.S, LV.nil, Nat.reduceEqDiff, Nat.reduceAdd, Nat.reduceMul, Nat.reduceSub, Nat.reduceLeDiff, Nat.reduceBEq, Nat.reduceDiv, Nat.reduceMod, Int.reduceToNat, Int.reduceLT, Int.reduceLE, Int.reduceAdd, Int.reduceSub, Int.reduceMul, Int.reduceEq, Int.reduceNeg, reduceCtorEq, resV, resAll, ARes.ev, LV.flat, ite_true, ite_false, exists_eq_left', exists_eq_left, keyOf, implies_true, fillC, capOf]
        have ht0 := hnx0.lt
        have hM'l := e2.lt
        refine callR_of (d_pick (hcur.pre hp0) (by omega)) ?_
        rintro _ N4 ⟨⟨b, rfl, hb⟩, hd4⟩
        have hbl : b < ns.length := by omega
        have g4 := hd4.live hnx0 (by have := hp0.1; have := e3.lt; omega)
        have hgb := Ints.get g4.has hbl
        have k2 := hd4.live (e2.pre hp0) (show M.length ≠ M.length + 1 by omega)
        have k3 := hd4.live (e3.pre hp0) (show N1.length ≠ M.length + 1 by omega)
        have ku := hd4.live (eu.pre hp0) (show u ≠ M.length + 1 by omega)
        have kw := hd4.live (ew.pre hp0) (show uw ≠ M.length + 1 by omega)
        have hP4 : Pre M N4 := hd4.pre (hpre.trans hp0) (by omega)
        rw [Nat.zero_add] at hgb
        simp (disch := omega) only [f2, f4, f5, f6, f7, hgb, Nat.mul_one, Nat.zero_add, splice, ↓SXd, SXu, slBounds, ↓sop, ↓aop, ↓reduceIte, LV.cells, AOp.dst, LV.I, LV.B, LV.U, LV.S, LV.nil, Nat.reduceEqDiff, Nat.reduceAdd, Nat.reduceMul, Nat.reduceSub, Nat.reduceLeDiff, Nat.reduceBEq, Nat.reduceDiv, Nat.reduceMod, Int.reduceToNat, Int.reduceLT, Int.reduceLE, Int.reduceAdd, Int.reduceSub, Int.reduceMul, Int.reduceEq, Int.reduceNeg, reduceCtorEq, resV, resAll, ARes.ev, LV.flat, ite_true, ite_false, exists_eq_left', exists_eq_left, keyOf, implies_true, fillC, capOf]
        have kwl := kw.lt
        have k2l := k2.lt
        have k3l := k3.lt
        have kul := ku.lt
        refine appendK_int kw (by omega) fun N5 l1 l2 l3 => ?_
        simp (disch := omega) only [f2, f4, f5, f6, f7, hm1, ↓SXd, SXu, slBounds, ↓sop, ↓aop, ↓reduceIte, LV.cells, AOp.dst, LV.I, LV.B, LV.U, LV.S, LV.nil, Nat.reduceEqDiff, Nat.reduceAdd, Nat.reduceMul, Nat.reduceSub, Nat.reduceLeDiff, Nat.reduceBEq, Nat.reduceDiv, Nat.reduceMod, Int.reduceToNat, Int.reduceLT, Int.reduceLE, Int.reduceAdd, Int.reduceSub, Int.reduceMul, Int.reduceEq, Int.reduceNeg, reduceCtorEq, resV, resAll, ARes.ev, LV.flat, ite_true, ite_false, exists_eq_left', exists_eq_left, keyOf, implies_true, fillC, capOf]
        refine ⟨m, by omega, a + 2, _, w ++ [ns.getD b 0], by omega, hd4.1.stepped (by omega) (by omega) l3, pre_step hP4 (by omega) l1 l3, live_step k2 (by omega) l3, live_step k3 (by omega) l3, live_step ku (by omega) l3, l2, by omega, by simp, by simp; omega, f2, f4, f5, rfl, rfl⟩
      · simp (disch := omega) only [f2, f4, f5, f6, f7, h0, hm1, ↓SXd, SXu, slBounds, ↓sop, ↓aop, ↓reduceIte, LV.cells, AOp.dst, LV.I, LV.B, LV.U, LV.S, LV.nil, Nat.reduceEqDiff, Nat.reduceAdd, Nat.reduceMul, Nat.reduceSub, Nat.reduceLeDiff, Nat.reduceBEq, Nat.reduceDiv, Nat.reduceMod, Int.reduceToNat, Int.reduceLT, Int.reduceLE, Int.reduceAdd, Int.reduceSub, Int.reduceMul, Int.reduceEq, Int.reduceNeg, reduceCtorEq, resV, resAll, ARes.ev, LV.flat, ite_true, ite_false, exists_eq_left', exists_eq_left, keyOf, implies_true, fillC, capOf]
        exact ⟨m, by omega, a, uw, w, by omega, hcur.pre hp0, hpre.trans hp0, e2.pre hp0, e3.pre hp0, eu.pre hp0, ew.pre hp0, huw, hw0, by omega, f2, f4, f5, f6, rfl⟩
    · simp (disch := omega) only [f2, f4, f5, f6, f7, hv, hm1, ↓SXd, SXu, slBounds, ↓sop, ↓aop, ↓reduceIte, LV.cells, AOp.dst, LV.I, LV.B, LV.U, LV.S, LV.nil, Nat.reduceEqDiff, Nat.reduceAdd, Nat.reduceMul, Nat.reduceSub, Nat.reduceLeDiff, Nat.reduceBEq, Nat.reduceDiv, Nat.reduceMod, Int.reduceToNat, Int.reduceLT, Int.reduceLE, Int.reduceAdd, Int.reduceSub, Int.reduceMul, Int.reduceEq, Int.reduceNeg, reduceCtorEq, resV, resAll, ARes.ev, LV.flat, ite_true, ite_false, exists_eq_left', exists_eq_left, keyOf, implies_true, fillC, capOf]
      exact ⟨m, by omega, a, uw, w, by omega, hcur, hpre, e2, e3, eu, ew, huw, hw0, by omega, f2, f4, f5, f6, rfl⟩
  · have hm0 : m = 0 := by omega
    subst hm0
    simp (disch := omega) only [f2, f4, f5, f6, f7, ↓SXd, SXu, slBounds, ↓sop, ↓aop, ↓reduceIte, LV.cells, AOp.dst, LV.I, LV.B, LV.U, LV.S, LV.nil, Nat.reduceEqDiff, Nat.reduceAdd, Nat.reduceMul, Nat.reduceSub, Nat.reduceLeDiff, Nat.reduceBEq, Nat.reduceDiv, Nat.reduceMod, Int.reduceToNat, Int.reduceLT, Int.reduceLE, Int.reduceAdd, Int.reduceSub, Int.reduceMul, Int.reduceEq, Int.reduceNeg, reduceCtorEq, resV, resAll, ARes.ev, LV.flat, ite_true, ite_false, exists_eq_left', exists_eq_left, keyOf, implies_true, fillC, capOf]
    refine callR_of (d_pick hcur (by omega)) ?_
    rintro _ N4 ⟨⟨b, rfl, hb⟩, hd4⟩
    have k2 := hd4.live e2 (show M.length ≠ M.length + 1 by omega)
    have k3 := hd4.live e3 (show N1.length ≠ M.length + 1 by omega)
    have ku := hd4.live eu (show u ≠ M.length + 1 by omega)
    have kw := hd4.live ew (show uw ≠ M.length + 1 by omega)
    have hP4 : Pre M N4 := hd4.pre hpre (by omega)
    have fin : ∀ {N6 : Mem} {uv : Nat} {w' : List Int}, Pre M N6 → Live N6 M.length (.row [.I 0, .I 0, .I 0, .nil] true 0) → Live N6 u (.row (triL (cs ++ ex)) true 3) → Live N6 uv (.row (intL w') true 1) → w'.length ≤ 100 → M.length < uv → ∀ N7 : Mem, N7.length = N6.length → (∀ q, q ≠ M.length → q < N6.length → N7[q]? = N6[q]?) →
      (∃ (hv : LV) (u' : Nat) (w : List Int), LV.tup [.agg [.I x, .I y, .I z, .ref u 0 cs.length], .ref uv 0 w'.length] = .tup [hv, .ref u' 0 w.length] ∧ HeapR M hv N7 ∧ Live N7 u' (.row (intL w) true 1) ∧ M.length ≤ u' ∧ w.length ≤ 100) ∧ Pre M N7 := fun {N6 uv w'} a1 a2 a3 a4 a5 a6 N7 a7 a8 =>
      ⟨⟨_, _, _, rfl, ⟨x, y, z, cs, u, ex, rfl, live_step a3 (by omega) a8, by omega, hcl⟩, live_step a4 (by omega) a8, by omega, a5⟩, pre_step a1 (by omega) (j := 0) a7 a8⟩
    by_cases b0 : (b : Int) = 0
    · simp (disch := omega) only [f2, f4, f5, f6, f7, b0, k3.cells, ↓SXd, SXu, slBounds, ↓sop, ↓aop, ↓reduceIte, LV.cells, AOp.dst, LV.I, LV.B, LV.U, LV.S, LV.nil, Nat.reduceEqDiff, Nat.reduceAdd, Nat.reduceMul, Nat.reduceSub, Nat.reduceLeDiff, Nat.reduceBEq, Nat.reduceDiv, Nat.reduceMod, Int.reduceToNat, Int.reduceLT, Int.reduceLE, Int.reduceAdd, Int.reduceSub, Int.reduceMul, Int.reduceEq, Int.reduceNeg, reduceCtorEq, resV, resAll, ARes.ev, LV.flat, ite_true, ite_false, exists_eq_left', exists_eq_left, keyOf, implies_true, fillC, capOf]
      refine callR_of (d_columnOf hd4.1 (by omega)) ?_
      rintro _ N5 ⟨⟨p5, rfl⟩, hd5⟩
      have j2 := hd5.live k2 (show M.length ≠ M.length + 1 by omega)
      have j3 := hd5.live k3 (show N1.length ≠ M.length + 1 by omega)
      have ju := hd5.live ku (show u ≠ M.length + 1 by omega)
      have jw := hd5.live kw (show uw ≠ M.length + 1 by omega)
      have hP5 : Pre M N5 := hd5.pre hP4 (by omega)
      have jwl := jw.lt
      have j2l := j2.lt
      have j3l := j3.lt
      have jul := ju.lt
      simp (disch := omega) only [f2, f4, f5, f6, f7, splice, ↓SXd, SXu, slBounds, ↓sop, ↓aop, ↓reduceIte, LV.cells, AOp.dst, LV.I, LV.B, LV.U, LV.S, LV.nil, Nat.reduceEqDiff, Nat.reduceAdd, Nat.reduceMul, Nat.reduceSub, Nat.reduceLeDiff, Nat.reduceBEq, Nat.reduceDiv, Nat.reduceMod, Int.reduceToNat, Int.reduceLT, Int.reduceLE, Int.reduceAdd, Int.reduceSub, Int.reduceMul, Int.reduceEq, Int.reduceNeg, reduceCtorEq, resV, resAll, ARes.ev, LV.flat, ite_true, ite_false, exists_eq_left', exists_eq_left, keyOf, implies_true, fillC, capOf]
      refine appendK_int jw (by omega) fun N6 l1 l2 l3 => ?_
      have i2 := live_step j2 (by omega) l3
      simp (disch := omega) only [f2, f4, f5, f6, f7, (live_step j3 (by omega) l3).cells, ↓SXd, SXu, slBounds, ↓sop, ↓aop, ↓reduceIte, LV.cells, AOp.dst, LV.I, LV.B, LV.U, LV.S, LV.nil, Nat.reduceEqDiff, Nat.reduceAdd, Nat.reduceMul, Nat.reduceSub, Nat.reduceLeDiff, Nat.reduceBEq, Nat.reduceDiv, Nat.reduceMod, Int.reduceToNat, Int.reduceLT, Int.reduceLE, Int.reduceAdd, Int.reduceSub, Int.reduceMul, Int.reduceEq, Int.reduceNeg, reduceCtorEq, resV, resAll, ARes.ev, LV.flat, ite_true, ite_false, exists_eq_left', exists_eq_left, keyOf, implies_true, fillC, capOf]
      refine memK_box i2 (by simp) fun N7 m1 m2 m3 => ?_
      simp (disch := omega) only [f2, f4, f5, f6, f7, m2.cells, ↓SXd, SXu, slBounds, ↓sop, ↓aop, ↓reduceIte, LV.cells, AOp.dst, LV.I, LV.B, LV.U, LV.S, LV.nil, Nat.reduceEqDiff, Nat.reduceAdd, Nat.reduceMul, Nat.reduceSub, Nat.reduceLeDiff, Nat.reduceBEq, Nat.reduceDiv, Nat.reduceMod, Int.reduceToNat, Int.reduceLT, Int.reduceLE, Int.reduceAdd, Int.reduceSub, Int.reduceMul, Int.reduceEq, Int.reduceNeg, reduceCtorEq, resV, resAll, ARes.ev, LV.flat, ite_true, ite_false, exists_eq_left', exists_eq_left, keyOf, implies_true, fillC, capOf]
      exact fin (pre_step hP5 (by omega) l1 l3) i2 (live_step ju (by omega) l3) l2 (by simp; omega) (by omega) N7 m1 m3
    · by_cases b1 : (b : Int) = 1
      · simp (disch := omega) only [f2, f4, f5, f6, f7, b0, b1, splice, k3.app.cells, ↓SXd, SXu, slBounds, ↓sop, ↓aop, ↓reduceIte, LV.cells, AOp.dst, LV.I, LV.B, LV.U, LV.S, LV.nil, Nat.reduceEqDiff, Nat.reduceAdd, Nat.reduceMul, Nat.reduceSub, Nat.reduceLeDiff, Nat.reduceBEq, Nat.reduceDiv, Nat.reduceMod, Int.reduceToNat, Int.reduceLT, Int.reduceLE, Int.reduceAdd, Int.reduceSub, Int.reduceMul, Int.reduceEq, Int.reduceNeg, reduceCtorEq, resV, resAll, ARes.ev, LV.flat, ite_true, ite_false, exists_eq_left', exists_eq_left, keyOf, implies_true, fillC, capOf]
        refine memK_box k2.app (by simp) fun N7 m1 m2 m3 => ?_
        simp (disch := omega) only [f2, f4, f5, f6, f7, m2.cells, ↓SXd, SXu, slBounds, ↓sop, ↓aop, ↓reduceIte, LV.cells, AOp.dst, LV.I, LV.B, LV.U, LV.S, LV.nil, Nat.reduceEqDiff, Nat.reduceAdd, Nat.reduceMul, Nat.reduceSub, Nat.reduceLeDiff, Nat.reduceBEq, Nat.reduceDiv, Nat.reduceMod, Int.reduceToNat, Int.reduceLT, Int.reduceLE, Int.reduceAdd, Int.reduceSub, Int.reduceMul, Int.reduceEq, Int.reduceNeg, reduceCtorEq, resV, resAll, ARes.ev, LV.flat, ite_true, ite_false, exists_eq_left', exists_eq_left, keyOf, implies_true, fillC, capOf]
        exact fin (w' := []) (hP4.trans (Pre.app _ _)) k2.app ku.app Live.new (by simp) (by have := k2.lt; omega) N7 m1 m3
      · simp (disch := omega) only [f2, f4, f5, f6, f7, b0, b1, k3.cells, ↓SXd, SXu, slBounds, ↓sop, ↓aop, ↓reduceIte, LV.cells, AOp.dst, LV.I, LV.B, LV.U, LV.S, LV.nil, Nat.reduceEqDiff, Nat.reduceAdd, Nat.reduceMul, Nat.reduceSub, Nat.reduceLeDiff, Nat.reduceBEq, Nat.reduceDiv, Nat.reduceMod, Int.reduceToNat, Int.reduceLT, Int.reduceLE, Int.reduceAdd, Int.reduceSub, Int.reduceMul, Int.reduceEq, Int.reduceNeg, reduceCtorEq, resV, resAll, ARes.ev, LV.flat, ite_true, ite_false, exists_eq_left', exists_eq_left, keyOf, implies_true, fillC, capOf]
        refine memK_box k2 (by simp) fun N7 m1 m2 m3 => ?_
        simp (disch := omega) only [f2, f4, f5, f6, f7, m2.cells, ↓SXd, SXu, slBounds, ↓sop, ↓aop, ↓reduceIte, LV.cells, AOp.dst, LV.I, LV.B, LV.U, LV.S, LV.nil, Nat.reduceEqDiff, Nat.reduceAdd, Nat.reduceMul, Nat.reduceSub, Nat.reduceLeDiff, Nat.reduceBEq, Nat.reduceDiv, Nat.reduceMod, Int.reduceToNat, Int.reduceLT, Int.reduceLE, Int.reduceAdd, Int.reduceSub, Int.reduceMul, Int.reduceEq, Int.reduceNeg, reduceCtorEq, resV, resAll, ARes.ev, LV.flat, ite_true, ite_false, exists_eq_left', exists_eq_left, keyOf, implies_true, fillC, capOf]
        exact fin hP4 k2 ku kw (by omega) (by omega) N7 m1 m3
end Go.Ab

/- The abstract code of some functions (written by a program of mine from the translation, by way of prepF). -/
namespace Go.Ab.C
open Go.Ab
def laws_rBig : AFn :=
  ⟨1, 6, [.tmp 2],
    .seq (.ops [(none, .mv 2 (.c (.B false)))])
    (.seq (.ops [(none, .mv 3 (.t 0)),
        (none, .len 4 (.t 3)),
        (none, .bin 5 .gtr (.t 4) (.c (.I 65536))),
        (none, .mv 2 (.t 5))])
     (.ret))⟩
def laws_rInts : AFn :=
  ⟨2, 26, [.tmp 4],
    .seq (.ops [(none, .mv 4 (.c (.B false)))])
    (.seq (.seq (.ops [(none, .mv 6 (.t 0)),
         (none, .len 7 (.t 6)),
         (none, .mv 8 (.t 1)),
         (none, .len 9 (.t 8)),
         (none, .bin 10 .neq (.t 7) (.t 9))])
      (.cond (.t 10) (.seq (.ops [(none, .mv 4 (.c (.B false)))])
        (.ret))
       (.skip)))
     (.seq (.seq (.ops [(none, .mv 5 (.c (.I 0)))])
       (.block 0 (.loop (.seq (.seq (.ops [(none, .mv 11 (.t 5)),
              (none, .mv 12 (.t 0)),
              (none, .len 13 (.t 12)),
              (none, .bin 14 .lss (.t 11) (.t 13))])
           (.cond (.t 14) (.skip)
            (.exit 0)))
          (.seq (.block 1 (.seq (.draw [⟨(none, .mv 17 (.t 0)), [], []⟩,
                ⟨(none, .mv 18 (.t 5)), [], []⟩,
                ⟨(none, .idxS 19 1 (.t 17) (.t 18)), [], []⟩,
                ⟨(none, .load1 20 (.t 19)), [], []⟩,
                ⟨(none, .mv 21 (.t 1)), [], []⟩,
                ⟨(none, .mv 22 (.t 5)), [], []⟩,
                ⟨(none, .idxS 23 1 (.t 21) (.t 22)), [], []⟩,
                ⟨(none, .load1 24 (.t 23)), [], []⟩,
                ⟨(none, .bin 25 .neq (.t 20) (.t 24)), [], []⟩])
             (.cond (.t 25) (.seq (.ops [(none, .mv 4 (.c (.B false)))])
               (.ret))
              (.skip))))
           (.ops [(none, .mv 15 (.t 5)),
              (none, .bin 16 .add (.t 15) (.c (.I 1))),
              (none, .mv 5 (.t 16))]))))))
      (.seq (.ops [(none, .mv 4 (.c (.B true)))])
       (.ret))))⟩
def laws_rHas : AFn :=
  ⟨2, 18, [.tmp 4],
    .seq (.ops [(none, .mv 4 (.c (.B false)))])
    (.seq (.seq (.ops [(none, .mv 5 (.c (.I 0)))])
      (.block 0 (.loop (.seq (.seq (.ops [(none, .mv 6 (.t 5)),
             (none, .mv 7 (.t 0)),
             (none, .len 8 (.t 7)),
             (none, .bin 9 .lss (.t 6) (.t 8))])
          (.cond (.t 9) (.skip)
           (.exit 0)))
         (.seq (.block 1 (.seq (.ops [(none, .mv 12 (.t 0)),
               (none, .mv 13 (.t 5)),
               (none, .idxS 14 1 (.t 12) (.t 13)),
               (none, .load1 15 (.t 14)),
               (none, .mv 16 (.t 1)),
               (none, .bin 17 .eql (.t 15) (.t 16))])
            (.cond (.t 17) (.seq (.ops [(none, .mv 4 (.c (.B true)))])
              (.ret))
             (.skip))))
          (.ops [(none, .mv 10 (.t 5)),
             (none, .bin 11 .add (.t 10) (.c (.I 1))),
             (none, .mv 5 (.t 11))]))))))
     (.seq (.ops [(none, .mv 4 (.c (.B false)))])
      (.ret)))⟩
end Go.Ab.C

/- That the program has this code. -/
namespace Go.Ab.K
open Go Go.Ab
theorem laws_rBig : prepF Go.Proofs.Try.prog F.laws_rBig = some C.laws_rBig := by kernel_rfl
theorem laws_rInts : prepF Go.Proofs.Try.prog F.laws_rInts = some C.laws_rInts := by kernel_rfl
theorem laws_rHas : prepF Go.Proofs.Try.prog F.laws_rHas = some C.laws_rHas := by kernel_rfl
end Go.Ab.K

/- Contracts: the laws' helpers on lists of numbers; cuts at an if. -/
namespace Go.Ab
open Go
set_option linter.unusedSimpArgs false
set_option linter.unusedVariables false
set_option maxRecDepth 20000

/-- An if, and then the rest: the rest is shown once. -/
theorem cond_cut {P : Program} {v : LV} {a b c : ACode} {fr : Fr} {M : Mem} {Q : AExit → Fr → Mem → Prop} (I : Fr → Mem → Prop) (h : condC v P a b fr M (thenK I Q)) (hb : ∀ fr M, I fr M → EvC P c fr M Q) : condC v P a b fr M (seqK P c Q) := by
  have hm : ∀ e fr M, thenK I Q e fr M → seqK P c Q e fr M := fun e fr M hh => by
    cases e with
    | normal => exact hb _ _ hh
    | exit i => exact hh
    | ret => exact hh
  have key : ∀ {A A' B B' : Prop}, (A → A') → (B → B') → condV v A B → condV v A' B' := fun {A A' B B'} h1 h2 h => by
    unfold condV at *
    split
    · exact ⟨fun e => h1 (h.1 e), fun e => h2 (h.2 e)⟩
    · rename_i hne
      split at h
      · exact (hne _ rfl).elim
      · exact h
  exact key (evc_mono hm) (evc_mono hm) h
theorem put_cut {P : Program} {r : List GOp} {b c : ACode} {fr : Fr} {d : Option Nat} {v : LV} {N : Mem} {Q : AExit → Fr → Mem → Prop} (I : Fr → Mem → Prop) (h : putK (opsK P r (seqK P b (thenK I Q) .normal)) fr d v N) (hb : ∀ fr M, I fr M → EvC P c fr M Q) : putK (opsK P r (seqK P b (seqK P c Q) .normal)) fr d v N := by
  have hm : ∀ e fr M, thenK I Q e fr M → seqK P c Q e fr M := fun e fr M hh => by
    cases e with
    | normal => exact hb _ _ hh
    | exit i => exact hh
    | ret => exact hh
  exact evops_mono (fun fr M hh => evc_mono hm hh) h
theorem k_rBig {t o : Nat} {n : Nat} {M : Mem} (hn : n ≤ 9223372036854775807) : CallsTo PG F.laws_rBig [.ref t o n] M (.B (decide ((65536 : Int) < n))) M := by
  refine calls_run K.laws_rBig rfl ?_
  simp (disch := omega) only [C.laws_rBig, ↓SXd, SXu, slBounds, ↓sop, ↓aop, ↓reduceIte, LV.cells, AOp.dst, LV.I, LV.B, LV.U, LV.S, LV.nil, Nat.reduceEqDiff, Nat.reduceAdd, Nat.reduceMul, Nat.reduceSub, Nat.reduceLeDiff, Nat.reduceBEq, Nat.reduceDiv, Nat.reduceMod, Int.reduceToNat, Int.reduceLT, Int.reduceLE, Int.reduceAdd, Int.reduceSub, Int.reduceMul, Int.reduceEq, Int.reduceNeg, reduceCtorEq, resV, resAll, ARes.ev, LV.flat, ite_true, ite_false, exists_eq_left', exists_eq_left, keyOf, implies_true, fillC, capOf]
  exact cmp_drop0 rfl
theorem IntsV.lenV {N : Mem} {v : LV} {l : List Int} (h : IntsV N v l) : lenV v = some (l.length : Int) := by
  rcases h with ⟨rfl, rfl⟩ | ⟨t, o, rfl, _⟩ <;> rfl
theorem IntsV.at {N : Mem} {v : LV} {l : List Int} {k : Nat} (h : IntsV N v l) (hk : k < l.length) : ∃ t o, v = .ref t o l.length ∧ getCell N t (o + k) = some (.I (l.getD k 0)) := by
  rcases h with ⟨rfl, rfl⟩ | ⟨t, o, rfl, h⟩
  · simp at hk
  · exact ⟨t, o, rfl, Ints.get h hk⟩
theorem k_rInts {l : List Int} {v v' : LV} {M : Mem} (h : IntsV M v l) (h' : IntsV M v' l) (hn : l.length ≤ 1000000000) : CallsTo PG F.laws_rInts [v, v'] M (.B true) M := by
  refine calls_run K.laws_rInts rfl ?_
  have hv := h.lenV
  have hv' := h'.lenV
  simp (disch := omega) only [C.laws_rInts, hv, hv', ↓SXd, SXu, slBounds, ↓sop, ↓aop, ↓reduceIte, LV.cells, AOp.dst, LV.I, LV.B, LV.U, LV.S, LV.nil, Nat.reduceEqDiff, Nat.reduceAdd, Nat.reduceMul, Nat.reduceSub, Nat.reduceLeDiff, Nat.reduceBEq, Nat.reduceDiv, Nat.reduceMod, Int.reduceToNat, Int.reduceLT, Int.reduceLE, Int.reduceAdd, Int.reduceSub, Int.reduceMul, Int.reduceEq, Int.reduceNeg, reduceCtorEq, resV, resAll, ARes.ev, LV.flat, ite_true, ite_false, exists_eq_left', exists_eq_left, keyOf, implies_true, fillC, capOf]
  refine ev_loop (fun m fr M' => ∃ k : Nat, k + m = l.length ∧ M' = M ∧ fr 0 = v ∧ fr 1 = v' ∧ fr 5 = .I k) l.length ⟨0, by omega, rfl, rfl, rfl, rfl⟩ ?_
  rintro m fr M' ⟨k, hk, rfl, h0, h1, h5⟩
  simp (disch := omega) only [h0, h1, h5, hv, ↓SXd, SXu, slBounds, ↓sop, ↓aop, ↓reduceIte, LV.cells, AOp.dst, LV.I, LV.B, LV.U, LV.S, LV.nil, Nat.reduceEqDiff, Nat.reduceAdd, Nat.reduceMul, Nat.reduceSub, Nat.reduceLeDiff, Nat.reduceBEq, Nat.reduceDiv, Nat.reduceMod, Int.reduceToNat, Int.reduceLT, Int.reduceLE, Int.reduceAdd, Int.reduceSub, Int.reduceMul, Int.reduceEq, Int.reduceNeg, reduceCtorEq, resV, resAll, ARes.ev, LV.flat, ite_true, ite_false, exists_eq_left', exists_eq_left, keyOf, implies_true, fillC, capOf]
  refine condC_dec (fun hlt => ?_) (fun hlt => ?_)
  · obtain ⟨t, o, rfl, hg⟩ := h.at (k := k) (by omega)
    obtain ⟨t', o', rfl, hg'⟩ := h'.at (k := k) (by omega)
    simp (disch := omega) only [h0, h1, h5, hg, hg', Nat.mul_one, ↓SXd, SXu, slBounds, ↓sop, ↓aop, ↓reduceIte, LV.cells, AOp.dst, LV.I, LV.B, LV.U, LV.S, LV.nil, Nat.reduceEqDiff, Nat.reduceAdd, Nat.reduceMul, Nat.reduceSub, Nat.reduceLeDiff, Nat.reduceBEq, Nat.reduceDiv, Nat.reduceMod, Int.reduceToNat, Int.reduceLT, Int.reduceLE, Int.reduceAdd, Int.reduceSub, Int.reduceMul, Int.reduceEq, Int.reduceNeg, reduceCtorEq, resV, resAll, ARes.ev, LV.flat, ite_true, ite_false, exists_eq_left', exists_eq_left, keyOf, implies_true, fillC, capOf]
    exact ⟨m - 1, by omega, k + 1, by omega, rfl, h0, h1, eqI (natI _)⟩
  · simp (disch := omega) only [h0, h1, h5, ↓SXd, SXu, slBounds, ↓sop, ↓aop, ↓reduceIte, LV.cells, AOp.dst, LV.I, LV.B, LV.U, LV.S, LV.nil, Nat.reduceEqDiff, Nat.reduceAdd, Nat.reduceMul, Nat.reduceSub, Nat.reduceLeDiff, Nat.reduceBEq, Nat.reduceDiv, Nat.reduceMod, Int.reduceToNat, Int.reduceLT, Int.reduceLE, Int.reduceAdd, Int.reduceSub, Int.reduceMul, Int.reduceEq, Int.reduceNeg, reduceCtorEq, resV, resAll, ARes.ev, LV.flat, ite_true, ite_false, exists_eq_left', exists_eq_left, keyOf, implies_true, fillC, capOf]
    exact cmp_drop0 rfl
theorem k_rHas {l : List Int} {v : LV} {n : Int} {M : Mem} (h : IntsV M v l) (hn : l.length ≤ 1000000000) (hm : n ∈ l) : CallsTo PG F.laws_rHas [v, .I n] M (.B true) M := by
  refine calls_run K.laws_rHas rfl ?_
  have hv := h.lenV
  simp (disch := omega) only [C.laws_rHas, ↓SXd, SXu, slBounds, ↓sop, ↓aop, ↓reduceIte, LV.cells, AOp.dst, LV.I, LV.B, LV.U, LV.S, LV.nil, Nat.reduceEqDiff, Nat.reduceAdd, Nat.reduceMul, Nat.reduceSub, Nat.reduceLeDiff, Nat.reduceBEq, Nat.reduceDiv, Nat.reduceMod, Int.reduceToNat, Int.reduceLT, Int.reduceLE, Int.reduceAdd, Int.reduceSub, Int.reduceMul, Int.reduceEq, Int.reduceNeg, reduceCtorEq, resV, resAll, ARes.ev, LV.flat, ite_true, ite_false, exists_eq_left', exists_eq_left, keyOf, implies_true, fillC, capOf]
  refine ev_loop (fun m fr M' => ∃ k : Nat, k + m = l.length ∧ M' = M ∧ fr 0 = v ∧ fr 1 = .I n ∧ fr 5 = .I k ∧ n ∉ l.take k) l.length ⟨0, by omega, rfl, rfl, rfl, rfl, by simp⟩ ?_
  rintro m fr M' ⟨k, hk, rfl, h0, h1, h5, hno⟩
  simp (disch := omega) only [h0, h1, h5, hv, ↓SXd, SXu, slBounds, ↓sop, ↓aop, ↓reduceIte, LV.cells, AOp.dst, LV.I, LV.B, LV.U, LV.S, LV.nil, Nat.reduceEqDiff, Nat.reduceAdd, Nat.reduceMul, Nat.reduceSub, Nat.reduceLeDiff, Nat.reduceBEq, Nat.reduceDiv, Nat.reduceMod, Int.reduceToNat, Int.reduceLT, Int.reduceLE, Int.reduceAdd, Int.reduceSub, Int.reduceMul, Int.reduceEq, Int.reduceNeg, reduceCtorEq, resV, resAll, ARes.ev, LV.flat, ite_true, ite_false, exists_eq_left', exists_eq_left, keyOf, implies_true, fillC, capOf]
  refine condC_dec (fun hlt => ?_) (fun hlt => ?_)
  · obtain ⟨t, o, rfl, hg⟩ := h.at (k := k) (by omega)
    by_cases he : l.getD k 0 = n
    · simp (disch := omega) only [h0, h1, h5, hg, Nat.mul_one, he, ↓SXd, SXu, slBounds, ↓sop, ↓aop, ↓reduceIte, LV.cells, AOp.dst, LV.I, LV.B, LV.U, LV.S, LV.nil, Nat.reduceEqDiff, Nat.reduceAdd, Nat.reduceMul, Nat.reduceSub, Nat.reduceLeDiff, Nat.reduceBEq, Nat.reduceDiv, Nat.reduceMod, Int.reduceToNat, Int.reduceLT, Int.reduceLE, Int.reduceAdd, Int.reduceSub, Int.reduceMul, Int.reduceEq, Int.reduceNeg, reduceCtorEq, resV, resAll, ARes.ev, LV.flat, ite_true, ite_false, exists_eq_left', exists_eq_left, keyOf, implies_true, fillC, capOf]
      exact cmp_drop0 rfl
    · simp (disch := omega) only [h0, h1, h5, hg, Nat.mul_one, he, ↓SXd, SXu, slBounds, ↓sop, ↓aop, ↓reduceIte, LV.cells, AOp.dst, LV.I, LV.B, LV.U, LV.S, LV.nil, Nat.reduceEqDiff, Nat.reduceAdd, Nat.reduceMul, Nat.reduceSub, Nat.reduceLeDiff, Nat.reduceBEq, Nat.reduceDiv, Nat.reduceMod, Int.reduceToNat, Int.reduceLT, Int.reduceLE, Int.reduceAdd, Int.reduceSub, Int.reduceMul, Int.reduceEq, Int.reduceNeg, reduceCtorEq, resV, resAll, ARes.ev, LV.flat, ite_true, ite_false, exists_eq_left', exists_eq_left, keyOf, implies_true, fillC, capOf]
      refine ⟨m - 1, by omega, k + 1, by omega, rfl, h0, h1, eqI (natI _), fun hin => ?_⟩
      rw [List.take_succ, List.getElem?_eq_getElem (show k < l.length by omega), List.mem_append] at hin
      rcases hin with hin | hin
      · exact hno hin
      · simp only [Option.toList, List.mem_singleton] at hin
        exact he (by rw [hin]; simp [show k < l.length by omega])
  · rw [List.take_of_length_le (by omega)] at hno
    exact absurd hm hno
end Go.Ab

/- Contracts: TopRegion, both sides, as lists that are one's own. -/
namespace Go.Ab
open Go
set_option linter.unusedVariables false
theorem topRegionOf_len {x y z : Int} {cs : List Cell} {p s : Int} : ((topRegionOf x y z cs p s).getD []).length ≤ 1000000000 := by
  unfold topRegionOf
  split
  · rename_i h
    have := regionOf_len (cs := cs) (p := p) (s := s) (mul_bound h.1.1.1 h.1.1.2.1).2
    simp only [Option.getD_some]; omega
  · simp
theorem h_sTopRegionR {x y z p s : Int} {t o : Nat} {cs : List Cell} {M : Mem} (h : Tri M t o cs) (hn : cs.length ≤ 1000000000) :
    CallsR PG F.spec_TopRegion [.agg [.I x, .I y, .I z, .ref t o cs.length], .I p, .I s] M (IntsRes M (topRegionOf x y z cs p s)) :=
  (h_sTopRegion (x := x) (y := y) (z := z) (p := p) (s := s) h hn).mono fun v N e => by
    rw [e.1, e.2]; exact ⟨_, rfl, SlI.of Live.new, Newer.of (Nat.le_refl _), Pre.app _ _⟩
theorem g_TopRegionR {x y z p s : Int} {t o : Nat} {cs : List Cell} {M : Mem} (h : Tri M t o cs) (hn : cs.length ≤ 1000000000) :
    CallsR PG F.impl_TopRegion [.agg [.I x, .I y, .I z, .ref t o cs.length], .I p, .I s] M (IntsRes M (topRegionOf x y z cs p s)) := by
  unfold topRegionOf
  split
  · rename_i hV
    exact CallsTo.ints1 (ex := []) (by simpa using g_TopRegion_ok h hn hV.1 hV.2.1 hV.2.2)
  · rename_i hV
    exact CallsTo.intsN (g_TopRegion_no h hn hV)
end Go.Ab

/- The abstract code of some functions (written by a program of mine from the translation, by way of prepF). -/
namespace Go.Ab.C
open Go.Ab
def spec_FirstTopWalk : AFn :=
  ⟨4, 70, [.tmp 8, .tmp 9],
    .seq (.ops [(none, .box 4 (.t 0)),
       (none, .mv 8 (.c .nil)),
       (none, .mv 9 (.c (.B false)))])
    (.seq (.seq (.ops [(none, .loadN 16 4 (.t 4)),
         (none, .mv 17 (.t 1)),
         (none, .mv 18 (.t 2)),
         (none, .mv 19 (.t 3)),
         (none, .call (some 20) F.spec_l10Both [(.t 16), (.t 17), (.t 18), (.t 19)]),
         (none, .un 21 .not (.t 20))])
      (.cond (.t 21) (.seq (.ops [(none, .buildSl 22 0 1 [] []),
           (none, .mv 8 (.t 22)),
           (none, .mv 9 (.c (.B false)))])
        (.ret))
       (.skip)))
     (.seq (.ops [(none, .loadN 23 4 (.t 4)),
         (none, .mv 24 (.t 2)),
         (none, .mv 25 (.t 3)),
         (none, .call (some 26) F.spec_l10Spread [(.t 23), (.t 24), (.t 25)]),
         (none, .mv 10 (.t 26))])
      (.seq (.seq (.ops [(none, .mv 27 (.t 10)),
           (none, .mv 28 (.t 1)),
           (none, .idxS 29 1 (.t 27) (.t 28)),
           (none, .load1 30 (.t 29)),
           (none, .bin 31 .lss (.t 30) (.c (.I 0)))])
        (.cond (.t 31) (.seq (.ops [(none, .buildSl 32 0 1 [] []),
             (none, .mv 8 (.t 32)),
             (none, .mv 9 (.c (.B false)))])
          (.ret))
         (.skip)))
       (.seq (.ops [(none, .mv 33 (.t 1)),
           (none, .buildSl 34 1 1 [(.I 0)] [(0, 1, (.t 33))]),
           (none, .mv 35 (.t 1)),
           (none, .loadN 36 4 (.t 4)),
           (none, .call (some 37) F.spec_l2Tops [(.t 36)]),
           (none, .mv 11 (.t 34)),
           (none, .mv 12 (.t 35)),
           (none, .mv 13 (.t 37))])
        (.seq (.block 0 (.loop (.seq (.seq (.ops [(none, .mv 38 (.t 12)),
                (none, .mv 39 (.t 2)),
                (none, .bin 40 .neq (.t 38) (.t 39))])
             (.cond (.t 40) (.skip)
              (.exit 0)))
            (.block 1 (.seq (.ops [(none, .loadN 41 4 (.t 4)),
                 (none, .mv 42 (.t 13)),
                 (none, .mv 43 (.t 12)),
                 (none, .mv 44 (.t 3)),
                 (none, .call (some 45) F.spec_l10Steps [(.t 41), (.t 42), (.t 43), (.t 44)]),
                 (none, .mv 14 (.t 45)),
                 (none, .mv 15 (.c (.I 0)))])
              (.seq (.block 2 (.loop (.seq (.seq (.draw [⟨(none, .mv 46 (.t 10)), [], []⟩,
                      ⟨(none, .mv 47 (.t 14)), [], []⟩,
                      ⟨(none, .mv 48 (.t 15)), [], []⟩,
                      ⟨(none, .idxS 49 1 (.t 47) (.t 48)), [], []⟩,
                      ⟨(none, .load1 50 (.t 49)), [], []⟩,
                      ⟨(none, .idxS 51 1 (.t 46) (.t 50)), [], []⟩,
                      ⟨(none, .load1 52 (.t 51)), [], []⟩,
                      ⟨(none, .mv 53 (.t 10)), [], []⟩,
                      ⟨(none, .mv 54 (.t 12)), [], []⟩,
                      ⟨(none, .idxS 55 1 (.t 53) (.t 54)), [], []⟩,
                      ⟨(none, .load1 56 (.t 55)), [], []⟩,
                      ⟨(none, .bin 57 .sub (.t 56) (.c (.I 1))), [], []⟩,
                      ⟨(none, .bin 58 .neq (.t 52) (.t 57)), [], []⟩])
                   (.cond (.t 58) (.skip)
                    (.exit 2)))
                  (.block 3 (.ops [(none, .mv 59 (.t 15)),
                      (none, .bin 60 .add (.t 59) (.c (.I 1))),
                      (none, .mv 15 (.t 60))])))))
               (.seq (.ops [(none, .mv 61 (.t 14)),
                   (none, .mv 62 (.t 15)),
                   (none, .idxS 63 1 (.t 61) (.t 62)),
                   (none, .load1 64 (.t 63)),
                   (none, .mv 12 (.t 64))])
                (.ops [(none, .mv 65 (.t 11)),
                   (none, .mv 66 (.t 12)),
                   (none, .buildSl 67 1 1 [(.I 0)] [(0, 1, (.t 66))]),
                   (none, .append 68 1 8 (.t 65) (.t 67)),
                   (none, .mv 11 (.t 68))]))))))))
         (.seq (.ops [(none, .mv 69 (.t 11)),
             (none, .mv 8 (.t 69)),
             (none, .mv 9 (.c (.B true)))])
          (.ret)))))))⟩
def impl_FirstTopWalk_1 : AFn :=
  ⟨3, 15, [.tmp 4],
    .seq (.ops [(none, .mv 4 (.c (.B false)))])
    (.seq (.draw [⟨(none, .load1 5 (.t 1)), [], []⟩,
        ⟨(none, .mv 6 (.t 0)), [], []⟩,
        ⟨(none, .idxS 7 1 (.t 5) (.t 6)), [], []⟩,
        ⟨(none, .load1 8 (.t 7)), [], []⟩,
        ⟨(none, .load1 9 (.t 1)), [], []⟩,
        ⟨(none, .load1 10 (.t 2)), [], []⟩,
        ⟨(none, .idxS 11 1 (.t 9) (.t 10)), [], []⟩,
        ⟨(none, .load1 12 (.t 11)), [], []⟩,
        ⟨(none, .bin 13 .sub (.t 12) (.c (.I 1))), [], []⟩,
        ⟨(none, .bin 14 .eql (.t 8) (.t 13)), [], []⟩,
        ⟨(none, .mv 4 (.t 14)), [], []⟩])
     (.ret))⟩
def impl_FirstTopWalk : AFn :=
  ⟨4, 52, [.tmp 8, .tmp 9],
    .seq (.ops [(none, .box 4 (.t 0)),
       (none, .box 5 (.t 1)),
       (none, .mv 8 (.c .nil)),
       (none, .mv 9 (.c (.B false)))])
    (.seq (.seq (.ops [(none, .loadN 14 4 (.t 4)),
         (none, .mv 15 (.t 3)),
         (none, .load1 16 (.t 5)),
         (none, .mv 17 (.t 2)),
         (none, .buildSl 18 2 1 [(.I 0), (.I 0)] [(0, 1, (.t 16)), (1, 1, (.t 17))]),
         (none, .call (some 19) F.impl_isTop [(.t 14), (.t 15), (.t 18)]),
         (none, .un 20 .not (.t 19))])
      (.cond (.t 20) (.seq (.ops [(none, .mv 8 (.c .nil)),
           (none, .mv 9 (.c (.B false)))])
        (.ret))
       (.skip)))
     (.seq (.ops [(none, .loadN 21 4 (.t 4)),
         (none, .call (some 22) F.impl_Heap_top [(.t 21)]),
         (none, .alloc 10 [.nil, (.I 0)]),
         (none, .store 2 (.t 10) (.t 22))])
      (.seq (.ops [(none, .loadN 23 2 (.t 10)),
          (none, .mv 24 (.t 2)),
          (none, .mv 25 (.t 3)),
          (none, .call (some 26) F.impl_top_distances [(.t 23), (.t 24), (.t 25)]),
          (none, .alloc 11 [.nil]),
          (none, .store 1 (.t 11) (.t 26))])
       (.seq (.seq (.ops [(none, .load1 27 (.t 11)),
            (none, .load1 28 (.t 5)),
            (none, .idxS 29 1 (.t 27) (.t 28)),
            (none, .load1 30 (.t 29)),
            (none, .bin 31 .lss (.t 30) (.c (.I 0)))])
         (.cond (.t 31) (.seq (.ops [(none, .mv 8 (.c .nil)),
              (none, .mv 9 (.c (.B false)))])
           (.ret))
          (.skip)))
        (.seq (.ops [(none, .load1 32 (.t 5)),
            (none, .buildSl 33 1 1 [(.I 0)] [(0, 1, (.t 32))]),
            (none, .mv 12 (.t 33))])
         (.seq (.block 0 (.loop (.seq (.seq (.ops [(none, .load1 34 (.t 5)),
                 (none, .mv 35 (.t 2)),
                 (none, .bin 36 .neq (.t 34) (.t 35))])
              (.cond (.t 36) (.skip)
               (.exit 0)))
             (.block 1 (.seq (.ops [(none, .loadN 37 2 (.t 10)),
                  (none, .load1 38 (.t 5)),
                  (none, .mv 39 (.t 3)),
                  (none, .call (some 40) F.impl_top_steps [(.t 37), (.t 38), (.t 39)]),
                  (none, .mv 13 (.t 40))])
               (.seq (.ops [(none, .mv 41 (.t 13)),
                   (none, .mv 42 (.t 13)),
                   (none, .mkf 43 F.impl_FirstTopWalk_1 [(.t 11), (.t 5)]),
                   (none, .call (some 44) F.slices_IndexFunc_Sint_int [(.t 42), (.t 43)]),
                   (none, .idxS 45 1 (.t 41) (.t 44)),
                   (none, .load1 46 (.t 45)),
                   (none, .store 1 (.t 5) (.t 46))])
                (.ops [(none, .mv 47 (.t 12)),
                   (none, .load1 48 (.t 5)),
                   (none, .buildSl 49 1 1 [(.I 0)] [(0, 1, (.t 48))]),
                   (none, .append 50 1 8 (.t 47) (.t 49)),
                   (none, .mv 12 (.t 50))])))))))
          (.seq (.ops [(none, .mv 51 (.t 12)),
              (none, .mv 8 (.t 51)),
              (none, .mv 9 (.c (.B true)))])
           (.ret))))))))⟩
end Go.Ab.C

/- That the program has this code. -/
namespace Go.Ab.K
open Go Go.Ab
theorem spec_FirstTopWalk : prepF Go.Proofs.Try.prog F.spec_FirstTopWalk = some C.spec_FirstTopWalk := by kernel_rfl
theorem impl_FirstTopWalk_1 : prepF Go.Proofs.Try.prog F.impl_FirstTopWalk_1 = some C.impl_FirstTopWalk_1 := by kernel_rfl
theorem impl_FirstTopWalk : prepF Go.Proofs.Try.prog F.impl_FirstTopWalk = some C.impl_FirstTopWalk := by kernel_rfl
end Go.Ab.K

/- Contracts: first walks, both sides. -/
namespace Go.Ab
open Go
set_option linter.unusedSimpArgs false
set_option linter.unusedVariables false

theorem h_sFirstTopWalk {x y z p q s : Int} {t o : Nat} {cs : List Cell} {M : Mem} (h : Tri M t o cs) (hn : cs.length ≤ 1000000000) :
    CallsR PG F.spec_FirstTopWalk [.agg [.I x, .I y, .I z, .ref t o cs.length], .I p, .I q, .I s] M (IntsRes M (walkOf x y z cs p q s)) := by
  refine callsR_run K.spec_FirstTopWalk rfl ?_
  simp (disch := omega) only [C.spec_FirstTopWalk, ↓SXd, SXu, slBounds, ↓sop, ↓aop, ↓reduceIte, LV.cells, AOp.dst, LV.I, LV.B, LV.U, LV.S, LV.nil, Nat.reduceEqDiff, Nat.reduceAdd, Nat.reduceMul, Nat.reduceSub, Nat.reduceLeDiff, Nat.reduceBEq, Nat.reduceDiv, Nat.reduceMod, Int.reduceToNat, Int.reduceLT, Int.reduceLE, Int.reduceAdd, Int.reduceSub, Int.reduceMul, Int.reduceEq, Int.reduceNeg, reduceCtorEq, resV, resAll, ARes.ev, LV.flat, ite_true, ite_false, exists_eq_left', exists_eq_left, keyOf, implies_true, fillC, capOf]
  refine callK_of (h_l10Both h.app hn) ?_
  simp (disch := omega) only [↓SXd, SXu, slBounds, ↓sop, ↓aop, ↓reduceIte, LV.cells, AOp.dst, LV.I, LV.B, LV.U, LV.S, LV.nil, Nat.reduceEqDiff, Nat.reduceAdd, Nat.reduceMul, Nat.reduceSub, Nat.reduceLeDiff, Nat.reduceBEq, Nat.reduceDiv, Nat.reduceMod, Int.reduceToNat, Int.reduceLT, Int.reduceLE, Int.reduceAdd, Int.reduceSub, Int.reduceMul, Int.reduceEq, Int.reduceNeg, reduceCtorEq, resV, resAll, ARes.ev, LV.flat, ite_true, ite_false, exists_eq_left', exists_eq_left, keyOf, implies_true, fillC, capOf]
  unfold walkOf
  by_cases hV : (HeapOK x y z cs ∧ (0 ≤ p ∧ p ≤ x * y - 1)) ∧ (0 ≤ q ∧ q ≤ x * y - 1) ∧ 0 ≤ s
  · obtain ⟨⟨hH, hp⟩, hq, hs⟩ := id hV
    have hb := mul_bound hH.1.1 hH.1.2.1
    have hsl := spreadOf_len (cs := cs) (s := s) hq
    have htl := topsOf_len x y cs
    have hval := spreadOf_val (cs := cs) (s := s) hq (k := p.toNat) (by omega)
    simp (disch := omega) only [hV, ↓SXd, SXu, slBounds, ↓sop, ↓aop, ↓reduceIte, LV.cells, AOp.dst, LV.I, LV.B, LV.U, LV.S, LV.nil, Nat.reduceEqDiff, Nat.reduceAdd, Nat.reduceMul, Nat.reduceSub, Nat.reduceLeDiff, Nat.reduceBEq, Nat.reduceDiv, Nat.reduceMod, Int.reduceToNat, Int.reduceLT, Int.reduceLE, Int.reduceAdd, Int.reduceSub, Int.reduceMul, Int.reduceEq, Int.reduceNeg, reduceCtorEq, resV, resAll, ARes.ev, LV.flat, ite_true, ite_false, exists_eq_left', exists_eq_left, keyOf, implies_true, fillC, capOf]
    refine callK_of (h_l10Spread h.app hn hH hq) ?_
    simp (disch := omega) only [intL_get, ↓SXd, SXu, slBounds, ↓sop, ↓aop, ↓reduceIte, LV.cells, AOp.dst, LV.I, LV.B, LV.U, LV.S, LV.nil, Nat.reduceEqDiff, Nat.reduceAdd, Nat.reduceMul, Nat.reduceSub, Nat.reduceLeDiff, Nat.reduceBEq, Nat.reduceDiv, Nat.reduceMod, Int.reduceToNat, Int.reduceLT, Int.reduceLE, Int.reduceAdd, Int.reduceSub, Int.reduceMul, Int.reduceEq, Int.reduceNeg, reduceCtorEq, resV, resAll, ARes.ev, LV.flat, ite_true, ite_false, exists_eq_left', exists_eq_left, keyOf, implies_true, fillC, capOf]
    refine condC_dec (fun hneg => ?_) (fun hneg => ?_)
    · rw [if_neg (fun e => by omega)]
      simp (disch := omega) only [↓SXd, SXu, slBounds, ↓sop, ↓aop, ↓reduceIte, LV.cells, AOp.dst, LV.I, LV.B, LV.U, LV.S, LV.nil, Nat.reduceEqDiff, Nat.reduceAdd, Nat.reduceMul, Nat.reduceSub, Nat.reduceLeDiff, Nat.reduceBEq, Nat.reduceDiv, Nat.reduceMod, Int.reduceToNat, Int.reduceLT, Int.reduceLE, Int.reduceAdd, Int.reduceSub, Int.reduceMul, Int.reduceEq, Int.reduceNeg, reduceCtorEq, resV, resAll, ARes.ev, LV.flat, ite_true, ite_false, exists_eq_left', exists_eq_left, keyOf, implies_true, fillC, capOf]
      exact ⟨_, rfl, SlI.of (l := []) (Live.newj (j := 2) rfl), Newer.of (by omega), Pre.app _ _⟩
    · rw [if_pos (show 0 ≤ (spreadOf x y cs q s).getD p.toNat 0 by omega)]
      simp (disch := omega) only [↓SXd, SXu, slBounds, ↓sop, ↓aop, ↓reduceIte, LV.cells, AOp.dst, LV.I, LV.B, LV.U, LV.S, LV.nil, Nat.reduceEqDiff, Nat.reduceAdd, Nat.reduceMul, Nat.reduceSub, Nat.reduceLeDiff, Nat.reduceBEq, Nat.reduceDiv, Nat.reduceMod, Int.reduceToNat, Int.reduceLT, Int.reduceLE, Int.reduceAdd, Int.reduceSub, Int.reduceMul, Int.reduceEq, Int.reduceNeg, reduceCtorEq, resV, resAll, ARes.ev, LV.flat, ite_true, ite_false, exists_eq_left', exists_eq_left, keyOf, implies_true, fillC, capOf]
      refine callK_of (h_l2Tops h.app hn hH) ?_
      simp (disch := omega) only [↓SXd, SXu, slBounds, ↓sop, ↓aop, ↓reduceIte, LV.cells, AOp.dst, LV.I, LV.B, LV.U, LV.S, LV.nil, Nat.reduceEqDiff, Nat.reduceAdd, Nat.reduceMul, Nat.reduceSub, Nat.reduceLeDiff, Nat.reduceBEq, Nat.reduceDiv, Nat.reduceMod, Int.reduceToNat, Int.reduceLT, Int.reduceLE, Int.reduceAdd, Int.reduceSub, Int.reduceMul, Int.reduceEq, Int.reduceNeg, reduceCtorEq, resV, resAll, ARes.ev, LV.flat, ite_true, ite_false, exists_eq_left', exists_eq_left, keyOf, implies_true, fillC, capOf]
      generalize hD : spreadOf x y cs q s = D at hsl hval hneg ⊢
      generalize hT : topsOf x y cs = ts at htl ⊢
      obtain ⟨n, hn0⟩ : ∃ n : Nat, D.getD p.toNat 0 = n := ⟨(D.getD p.toNat 0).toNat, by omega⟩
      refine ev_loop (fun m fr M' => ∃ (now : Int) (u : Nat) (acc : List Int), (0 ≤ now ∧ now ≤ x * y - 1) ∧ D.getD now.toNat 0 = m ∧ acc.length + m = n + 1 ∧ acc ++ (walkW D (fun r => stepsOf x y ts r s) m now).tail = walkW D (fun r => stepsOf x y ts r s) n p ∧
        Pre M M' ∧ Live M' M.length (.row [.I x, .I y, .I z, .ref t o cs.length] true 0) ∧ Live M' (M.length + 1) (.row (intL D) true 1) ∧ Live M' (M.length + 3) (.row (intL ts) true 1) ∧ M.length + 2 ≤ u ∧ u ≠ M.length + 3 ∧ Live M' u (.row (intL acc) true 1) ∧
        fr 2 = .I q ∧ fr 3 = .I s ∧ fr 4 = .ptr M.length 0 ∧ fr 10 = .ref (M.length + 1) 0 (x * y).toNat ∧ fr 11 = .ref u 0 acc.length ∧ fr 12 = .I now ∧ fr 13 = .ref (M.length + 3) 0 (x * y).toNat) n
        ⟨p, M.length + 2, [p], hp, hn0, by simp; omega, by rw [walkW_head D _ n p]; rfl, Pre.app _ _, Live.new, Live.newj rfl, Live.newj rfl, by omega, by omega, Live.newj rfl, rfl, rfl, rfl, rfl, rfl, rfl, rfl⟩ ?_
      rintro m fr M' ⟨now, u, acc, hnow, hm, hal, hw, hpre, hbox, hleft, htop, hu, hu3, hout, f2, f3, f4, f10, f11, f12, f13⟩
      have hz := spread_zero (s := s) (cs := cs) hq hnow
      rw [hD, hm] at hz
      simp (disch := omega) only [f2, f3, f4, f10, f11, f12, f13, ↓SXd, SXu, slBounds, ↓sop, ↓aop, ↓reduceIte, LV.cells, AOp.dst, LV.I, LV.B, LV.U, LV.S, LV.nil, Nat.reduceEqDiff, Nat.reduceAdd, Nat.reduceMul, Nat.reduceSub, Nat.reduceLeDiff, Nat.reduceBEq, Nat.reduceDiv, Nat.reduceMod, Int.reduceToNat, Int.reduceLT, Int.reduceLE, Int.reduceAdd, Int.reduceSub, Int.reduceMul, Int.reduceEq, Int.reduceNeg, reduceCtorEq, resV, resAll, ARes.ev, LV.flat, ite_true, ite_false, exists_eq_left', exists_eq_left, keyOf, implies_true, fillC, capOf]
      refine condC_dec (fun he => ?_) (fun he => ?_)
      · simp (disch := omega) only [f2, f3, f4, f10, f11, f12, f13, ↓SXd, SXu, slBounds, ↓sop, ↓aop, ↓reduceIte, LV.cells, AOp.dst, LV.I, LV.B, LV.U, LV.S, LV.nil, Nat.reduceEqDiff, Nat.reduceAdd, Nat.reduceMul, Nat.reduceSub, Nat.reduceLeDiff, Nat.reduceBEq, Nat.reduceDiv, Nat.reduceMod, Int.reduceToNat, Int.reduceLT, Int.reduceLE, Int.reduceAdd, Int.reduceSub, Int.reduceMul, Int.reduceEq, Int.reduceNeg, reduceCtorEq, resV, resAll, ARes.ev, LV.flat, ite_true, ite_false, exists_eq_left', exists_eq_left, keyOf, implies_true, fillC, capOf]
        have hm0 := hz.2 he
        have : m = 0 := by omega
        subst this
        simp only [walkW, List.tail_cons, List.append_nil] at hw
        have hnn : (((D.getD p.toNat 0).toNat)) = n := by omega
        refine ⟨_, rfl, ?_, Newer.of (by omega), hpre⟩
        simp only [Option.getD_some, hnn, ← hw]
        exact SlI.of hout
      · obtain ⟨f, rfl⟩ : ∃ f, m = f + 1 := ⟨m - 1, by
          have : m ≠ 0 := fun e => he (hz.1 (by omega))
          omega⟩
        obtain ⟨k, hk, _, hbef, hat, hnx, hin⟩ := spread_next hq hnow (by rw [hD]; exact hm)
        rw [hD, hT] at hbef hat hnx
        rw [hT] at hk hin
        have hlow : Low ts := by rw [← hT]; exact topsOf_low hH
        simp (disch := omega) only [f2, f3, f4, f10, f11, f12, f13, hbox.cells, ↓SXd, SXu, slBounds, ↓sop, ↓aop, ↓reduceIte, LV.cells, AOp.dst, LV.I, LV.B, LV.U, LV.S, LV.nil, Nat.reduceEqDiff, Nat.reduceAdd, Nat.reduceMul, Nat.reduceSub, Nat.reduceLeDiff, Nat.reduceBEq, Nat.reduceDiv, Nat.reduceMod, Int.reduceToNat, Int.reduceLT, Int.reduceLE, Int.reduceAdd, Int.reduceSub, Int.reduceMul, Int.reduceEq, Int.reduceNeg, reduceCtorEq, resV, resAll, ARes.ev, LV.flat, ite_true, ite_false, exists_eq_left', exists_eq_left, keyOf, implies_true, fillC, capOf]
        refine callN_of (h_l10Steps hH.1 hnow htop.has htl hlow) ?_
        intro tn N0 htn hp0 hnx0
        simp (disch := omega) only [f2, f3, f4, f10, f11, f12, f13, ↓SXd, SXu, slBounds, ↓sop, ↓aop, ↓reduceIte, LV.cells, AOp.dst, LV.I, LV.B, LV.U, LV.S, LV.nil, Nat.reduceEqDiff, Nat.reduceAdd, Nat.reduceMul, Nat.reduceSub, Nat.reduceLeDiff, Nat.reduceBEq, Nat.reduceDiv, Nat.reduceMod, Int.reduceToNat, Int.reduceLT, Int.reduceLE, Int.reduceAdd, Int.reduceSub, Int.reduceMul, Int.reduceEq, Int.reduceNeg, reduceCtorEq, resV, resAll, ARes.ev, LV.flat, ite_true, ite_false, exists_eq_left', exists_eq_left, keyOf, implies_true, fillC, capOf]
        have hnl := stepsOf_len (p := now) (s := s) (ts := ts) hb.2
        have hmem : ∀ j, j < (stepsOf x y ts now s).length → 0 ≤ (stepsOf x y ts now s).getD j 0 ∧ (stepsOf x y ts now s).getD j 0 < x * y := fun j hj => stepsOf_mem (getD_mem hj)
        have hbox0 := hbox.pre hp0
        have hleft0 := hleft.pre hp0
        have htop0 := htop.pre hp0
        have hout0 := hout.pre hp0
        have hl1 := hout.lt
        have hl3 := htop.lt
        generalize hnxt : stepsOf x y ts now s = nx at hk hbef hat hnx hin hnl hmem hnx0 ⊢
        refine ev_loop (fun m2 fr N => ∃ j : Nat, j + m2 = k ∧ N = N0 ∧ fr 2 = .I q ∧ fr 3 = .I s ∧ fr 4 = .ptr M.length 0 ∧ fr 10 = .ref (M.length + 1) 0 (x * y).toNat ∧ fr 11 = .ref u 0 acc.length ∧ fr 12 = .I now ∧ fr 13 = .ref (M.length + 3) 0 (x * y).toNat ∧
          fr 14 = .ref tn 0 nx.length ∧ fr 15 = .I j) k ⟨0, by omega, rfl, f2, f3, f4, f10, f11, f12, f13, rfl, rfl⟩ ?_
        rintro m2 fr N ⟨j, hj, rfl, f2, f3, f4, f10, f11, f12, f13, f14, f15⟩
        have hmj := hmem j (by omega)
        simp (disch := omega) only [f2, f3, f4, f10, f11, f12, f13, f14, f15, intL_get, hleft0.cell, hnx0.cell, ↓SXd, SXu, slBounds, ↓sop, ↓aop, ↓reduceIte, LV.cells, AOp.dst, LV.I, LV.B, LV.U, LV.S, LV.nil, Nat.reduceEqDiff, Nat.reduceAdd, Nat.reduceMul, Nat.reduceSub, Nat.reduceLeDiff, Nat.reduceBEq, Nat.reduceDiv, Nat.reduceMod, Int.reduceToNat, Int.reduceLT, Int.reduceLE, Int.reduceAdd, Int.reduceSub, Int.reduceMul, Int.reduceEq, Int.reduceNeg, reduceCtorEq, resV, resAll, ARes.ev, LV.flat, ite_true, ite_false, exists_eq_left', exists_eq_left, keyOf, implies_true, fillC, capOf]
        refine condC_dec (fun hd => ?_) (fun hd => ?_)
        · have : j = k := by
            rcases Nat.lt_or_ge j k with h1 | h1
            · exact absurd (hd.trans (by omega)) (hbef j h1)
            · omega
          subst this
          simp (disch := omega) only [f2, f3, f4, f10, f11, f12, f13, f14, f15, intL_get, hnx0.cell, ↓SXd, SXu, slBounds, ↓sop, ↓aop, ↓reduceIte, LV.cells, AOp.dst, LV.I, LV.B, LV.U, LV.S, LV.nil, Nat.reduceEqDiff, Nat.reduceAdd, Nat.reduceMul, Nat.reduceSub, Nat.reduceLeDiff, Nat.reduceBEq, Nat.reduceDiv, Nat.reduceMod, Int.reduceToNat, Int.reduceLT, Int.reduceLE, Int.reduceAdd, Int.reduceSub, Int.reduceMul, Int.reduceEq, Int.reduceNeg, reduceCtorEq, resV, resAll, ARes.ev, LV.flat, ite_true, ite_false, exists_eq_left', exists_eq_left, keyOf, implies_true, fillC, capOf]
          refine appendK_int hout0 (by have := hval.2; omega) fun N' l1 l2 l3 => ?_
          simp (disch := omega) only [f2, f3, f4, f10, f11, f12, f13, f14, f15, ↓SXd, SXu, slBounds, ↓sop, ↓aop, ↓reduceIte, LV.cells, AOp.dst, LV.I, LV.B, LV.U, LV.S, LV.nil, Nat.reduceEqDiff, Nat.reduceAdd, Nat.reduceMul, Nat.reduceSub, Nat.reduceLeDiff, Nat.reduceBEq, Nat.reduceDiv, Nat.reduceMod, Int.reduceToNat, Int.reduceLT, Int.reduceLE, Int.reduceAdd, Int.reduceSub, Int.reduceMul, Int.reduceEq, Int.reduceNeg, reduceCtorEq, resV, resAll, ARes.ev, LV.flat, ite_true, ite_false, exists_eq_left', exists_eq_left, keyOf, implies_true, fillC, capOf]
          have hlN := hp0.1
          refine ⟨f, by omega, nx.getD j 0, _, acc ++ [nx.getD j 0], hin, hat, by simp; omega, ?_, pre_step (hpre.trans hp0) (by omega) l1 l3, live_step hbox0 (by omega) l3, live_step hleft0 (by omega) l3, live_step htop0 (by omega) l3, by omega, by omega, l2, f2, f3, f4, f10, rfl, rfl, f13⟩
          rw [← hw]
          simp only [walkW, List.tail_cons, hnxt, hnx]
          rw [walkW_head D _ f (nx.getD j 0), List.append_assoc]; rfl
        · simp (disch := omega) only [f2, f3, f4, f10, f11, f12, f13, f14, f15, ↓SXd, SXu, slBounds, ↓sop, ↓aop, ↓reduceIte, LV.cells, AOp.dst, LV.I, LV.B, LV.U, LV.S, LV.nil, Nat.reduceEqDiff, Nat.reduceAdd, Nat.reduceMul, Nat.reduceSub, Nat.reduceLeDiff, Nat.reduceBEq, Nat.reduceDiv, Nat.reduceMod, Int.reduceToNat, Int.reduceLT, Int.reduceLE, Int.reduceAdd, Int.reduceSub, Int.reduceMul, Int.reduceEq, Int.reduceNeg, reduceCtorEq, resV, resAll, ARes.ev, LV.flat, ite_true, ite_false, exists_eq_left', exists_eq_left, keyOf, implies_true, fillC, capOf]
          have hjk : j < k := by
            rcases Nat.lt_or_ge j k with h1 | h1
            · exact h1
            · have : j = k := by omega
              subst this
              exact absurd (hat.trans (by omega)) hd
          exact ⟨m2 - 1, by omega, j + 1, by omega, rfl, f2, f3, f4, f10, f11, f12, f13, f14, eqI (natI _)⟩
  · rw [if_neg (fun e => hV e.1)]
    simp (disch := omega) only [hV, ↓SXd, SXu, slBounds, ↓sop, ↓aop, ↓reduceIte, LV.cells, AOp.dst, LV.I, LV.B, LV.U, LV.S, LV.nil, Nat.reduceEqDiff, Nat.reduceAdd, Nat.reduceMul, Nat.reduceSub, Nat.reduceLeDiff, Nat.reduceBEq, Nat.reduceDiv, Nat.reduceMod, Int.reduceToNat, Int.reduceLT, Int.reduceLE, Int.reduceAdd, Int.reduceSub, Int.reduceMul, Int.reduceEq, Int.reduceNeg, reduceCtorEq, resV, resAll, ARes.ev, LV.flat, ite_true, ite_false, exists_eq_left', exists_eq_left, keyOf, implies_true, fillC, capOf]
    exact ⟨_, rfl, SlI.of (l := []) (Live.newj (j := 1) rfl), Newer.of (by omega), Pre.app _ _⟩

theorem g_FirstTopWalk_1 {q : Int} {b1 b2 t o : Nat} {D : List Int} {p : Int} {M : Mem} (h1 : getCell M b1 0 = some (.ref t o D.length)) (h2 : getCell M b2 0 = some (.I p)) (hD : Ints M t o D) (hq : 0 ≤ q ∧ q < (D.length : Int)) (hp : 0 ≤ p ∧ p < (D.length : Int))
    (hv : -1000 ≤ D.getD p.toNat 0 ∧ D.getD p.toNat 0 ≤ 1000) :
    CallsTo PG F.impl_FirstTopWalk_1 [.I q, .ptr b1 0, .ptr b2 0] M (.B (decide (D.getD q.toNat 0 = D.getD p.toNat 0 - 1))) M := by
  refine calls_run K.impl_FirstTopWalk_1 rfl ?_
  simp (disch := omega) only [C.impl_FirstTopWalk_1, h1, h2, Ints.get, hD, ↓SXd, SXu, slBounds, ↓sop, ↓aop, ↓reduceIte, LV.cells, AOp.dst, LV.I, LV.B, LV.U, LV.S, LV.nil, Nat.reduceEqDiff, Nat.reduceAdd, Nat.reduceMul, Nat.reduceSub, Nat.reduceLeDiff, Nat.reduceBEq, Nat.reduceDiv, Nat.reduceMod, Int.reduceToNat, Int.reduceLT, Int.reduceLE, Int.reduceAdd, Int.reduceSub, Int.reduceMul, Int.reduceEq, Int.reduceNeg, reduceCtorEq, resV, resAll, ARes.ev, LV.flat, ite_true, ite_false, exists_eq_left', exists_eq_left, keyOf, implies_true, fillC, capOf]
  exact cmp_drop0 rfl

theorem g_FirstTopWalk {x y z p q s : Int} {t o : Nat} {cs : List Cell} {M : Mem} (h : Tri M t o cs) (hn : cs.length ≤ 1000000000) :
    CallsR PG F.impl_FirstTopWalk [.agg [.I x, .I y, .I z, .ref t o cs.length], .I p, .I q, .I s] M (IntsRes M (walkOf x y z cs p q s)) := by
  refine callsR_run K.impl_FirstTopWalk rfl ?_
  simp (disch := omega) only [C.impl_FirstTopWalk, splice, ↓SXd, SXu, slBounds, ↓sop, ↓aop, ↓reduceIte, LV.cells, AOp.dst, LV.I, LV.B, LV.U, LV.S, LV.nil, Nat.reduceEqDiff, Nat.reduceAdd, Nat.reduceMul, Nat.reduceSub, Nat.reduceLeDiff, Nat.reduceBEq, Nat.reduceDiv, Nat.reduceMod, Int.reduceToNat, Int.reduceLT, Int.reduceLE, Int.reduceAdd, Int.reduceSub, Int.reduceMul, Int.reduceEq, Int.reduceNeg, reduceCtorEq, resV, resAll, ARes.ev, LV.flat, ite_true, ite_false, exists_eq_left', exists_eq_left, keyOf, implies_true, fillC, capOf]
  refine callK_of (g_isTop2 h.app hn (Live.newj (j := 2) rfl)) ?_
  simp (disch := omega) only [↓SXd, SXu, slBounds, ↓sop, ↓aop, ↓reduceIte, LV.cells, AOp.dst, LV.I, LV.B, LV.U, LV.S, LV.nil, Nat.reduceEqDiff, Nat.reduceAdd, Nat.reduceMul, Nat.reduceSub, Nat.reduceLeDiff, Nat.reduceBEq, Nat.reduceDiv, Nat.reduceMod, Int.reduceToNat, Int.reduceLT, Int.reduceLE, Int.reduceAdd, Int.reduceSub, Int.reduceMul, Int.reduceEq, Int.reduceNeg, reduceCtorEq, resV, resAll, ARes.ev, LV.flat, ite_true, ite_false, exists_eq_left', exists_eq_left, keyOf, implies_true, fillC, capOf]
  unfold walkOf
  by_cases hV : (HeapOK x y z cs ∧ (0 ≤ p ∧ p ≤ x * y - 1)) ∧ (0 ≤ q ∧ q ≤ x * y - 1) ∧ 0 ≤ s
  · obtain ⟨⟨hH, hp⟩, hq, hs⟩ := id hV
    have hb := mul_bound hH.1.1 hH.1.2.1
    have hsl := spreadOf_len (cs := cs) (s := s) hq
    have htl := topsOf_len x y cs
    have hval := fun k (hk : k < (x * y).toNat) => spreadOf_val (cs := cs) (s := s) hq hk
    have hvp := hval p.toNat (by omega)
    simp (disch := omega) only [hV, ↓SXd, SXu, slBounds, ↓sop, ↓aop, ↓reduceIte, LV.cells, AOp.dst, LV.I, LV.B, LV.U, LV.S, LV.nil, Nat.reduceEqDiff, Nat.reduceAdd, Nat.reduceMul, Nat.reduceSub, Nat.reduceLeDiff, Nat.reduceBEq, Nat.reduceDiv, Nat.reduceMod, Int.reduceToNat, Int.reduceLT, Int.reduceLE, Int.reduceAdd, Int.reduceSub, Int.reduceMul, Int.reduceEq, Int.reduceNeg, reduceCtorEq, resV, resAll, ARes.ev, LV.flat, ite_true, ite_false, exists_eq_left', exists_eq_left, keyOf, implies_true, fillC, capOf]
    refine callK_of (g_top h.app hn hH) ?_
    simp (disch := omega) only [↓SXd, SXu, slBounds, ↓sop, ↓aop, ↓reduceIte, LV.cells, AOp.dst, LV.I, LV.B, LV.U, LV.S, LV.nil, Nat.reduceEqDiff, Nat.reduceAdd, Nat.reduceMul, Nat.reduceSub, Nat.reduceLeDiff, Nat.reduceBEq, Nat.reduceDiv, Nat.reduceMod, Int.reduceToNat, Int.reduceLT, Int.reduceLE, Int.reduceAdd, Int.reduceSub, Int.reduceMul, Int.reduceEq, Int.reduceNeg, reduceCtorEq, resV, resAll, ARes.ev, LV.flat, ite_true, ite_false, exists_eq_left', exists_eq_left, keyOf, implies_true, fillC, capOf]
    refine callK_of (g_distances hH.1.1 hH.1.2.1 hq (Live.newj (j := 3) rfl).has htl (topsOf_low hH)) ?_
    simp (disch := omega) only [↓SXd, SXu, slBounds, ↓sop, ↓aop, ↓reduceIte, LV.cells, AOp.dst, LV.I, LV.B, LV.U, LV.S, LV.nil, Nat.reduceEqDiff, Nat.reduceAdd, Nat.reduceMul, Nat.reduceSub, Nat.reduceLeDiff, Nat.reduceBEq, Nat.reduceDiv, Nat.reduceMod, Int.reduceToNat, Int.reduceLT, Int.reduceLE, Int.reduceAdd, Int.reduceSub, Int.reduceMul, Int.reduceEq, Int.reduceNeg, reduceCtorEq, resV, resAll, ARes.ev, LV.flat, ite_true, ite_false, exists_eq_left', exists_eq_left, keyOf, implies_true, fillC, capOf]
    rw [show farFrom (x * y).toNat (fun r => stepsOf x y (topsOf x y cs) r s) q = spreadOf x y cs q s from rfl]
    simp (disch := omega) only [intL_get, ↓SXd, SXu, slBounds, ↓sop, ↓aop, ↓reduceIte, LV.cells, AOp.dst, LV.I, LV.B, LV.U, LV.S, LV.nil, Nat.reduceEqDiff, Nat.reduceAdd, Nat.reduceMul, Nat.reduceSub, Nat.reduceLeDiff, Nat.reduceBEq, Nat.reduceDiv, Nat.reduceMod, Int.reduceToNat, Int.reduceLT, Int.reduceLE, Int.reduceAdd, Int.reduceSub, Int.reduceMul, Int.reduceEq, Int.reduceNeg, reduceCtorEq, resV, resAll, ARes.ev, LV.flat, ite_true, ite_false, exists_eq_left', exists_eq_left, keyOf, implies_true, fillC, capOf]
    refine condC_dec (fun hneg => ?_) (fun hneg => ?_)
    · rw [if_neg (fun e => by omega)]
      simp (disch := omega) only [↓SXd, SXu, slBounds, ↓sop, ↓aop, ↓reduceIte, LV.cells, AOp.dst, LV.I, LV.B, LV.U, LV.S, LV.nil, Nat.reduceEqDiff, Nat.reduceAdd, Nat.reduceMul, Nat.reduceSub, Nat.reduceLeDiff, Nat.reduceBEq, Nat.reduceDiv, Nat.reduceMod, Int.reduceToNat, Int.reduceLT, Int.reduceLE, Int.reduceAdd, Int.reduceSub, Int.reduceMul, Int.reduceEq, Int.reduceNeg, reduceCtorEq, resV, resAll, ARes.ev, LV.flat, ite_true, ite_false, exists_eq_left', exists_eq_left, keyOf, implies_true, fillC, capOf]
      exact ⟨_, rfl, SlI.nil, Newer.nil, Pre.app _ _⟩
    · rw [if_pos (show 0 ≤ (spreadOf x y cs q s).getD p.toNat 0 by omega)]
      simp (disch := omega) only [↓SXd, SXu, slBounds, ↓sop, ↓aop, ↓reduceIte, LV.cells, AOp.dst, LV.I, LV.B, LV.U, LV.S, LV.nil, Nat.reduceEqDiff, Nat.reduceAdd, Nat.reduceMul, Nat.reduceSub, Nat.reduceLeDiff, Nat.reduceBEq, Nat.reduceDiv, Nat.reduceMod, Int.reduceToNat, Int.reduceLT, Int.reduceLE, Int.reduceAdd, Int.reduceSub, Int.reduceMul, Int.reduceEq, Int.reduceNeg, reduceCtorEq, resV, resAll, ARes.ev, LV.flat, ite_true, ite_false, exists_eq_left', exists_eq_left, keyOf, implies_true, fillC, capOf]
      generalize hD : spreadOf x y cs q s = D at hsl hval hvp hneg ⊢
      generalize hT : topsOf x y cs = ts at htl ⊢
      have hlow : Low ts := by rw [← hT]; exact topsOf_low hH
      obtain ⟨n, hn0⟩ : ∃ n : Nat, D.getD p.toNat 0 = n := ⟨(D.getD p.toNat 0).toNat, by omega⟩
      refine ev_loop (fun m fr M' => ∃ (now : Int) (u : Nat) (acc : List Int), (0 ≤ now ∧ now ≤ x * y - 1) ∧ D.getD now.toNat 0 = m ∧ acc.length + m = n + 1 ∧ acc ++ (walkW D (fun r => stepsOf x y ts r s) m now).tail = walkW D (fun r => stepsOf x y ts r s) n p ∧
        Pre M M' ∧ Live M' (M.length + 1) (.row [.I now] true 0) ∧ Live M' (M.length + 3) (.row (intL ts) true 1) ∧ Live M' (M.length + 4) (.row [.ref (M.length + 3) 0 (x * y).toNat, .I y] true 0) ∧ Live M' (M.length + 5) (.row (intL D) true 1) ∧ Live M' (M.length + 6) (.row [.ref (M.length + 5) 0 (x * y).toNat] true 0) ∧
        M.length + 7 ≤ u ∧ Live M' u (.row (intL acc) true 1) ∧
        fr 2 = .I q ∧ fr 3 = .I s ∧ fr 5 = .ptr (M.length + 1) 0 ∧ fr 10 = .ptr (M.length + 4) 0 ∧ fr 11 = .ptr (M.length + 6) 0 ∧ fr 12 = .ref u 0 acc.length) n
        ⟨p, M.length + 7, [p], hp, hn0, by simp; omega, by rw [walkW_head D _ n p]; rfl, Pre.app _ _, Live.newj rfl, Live.newj rfl, Live.newj rfl, Live.newj rfl, Live.newj rfl, by omega, Live.newj rfl, rfl, rfl, rfl, rfl, rfl, rfl⟩ ?_
      rintro m fr M' ⟨now, u, acc, hnow, hm, hal, hw, hpre, b1, b3, b4, b5, b6, hu, hout, f2, f3, f5, f10, f11, f12⟩
      have hz := spread_zero (s := s) (cs := cs) hq hnow
      rw [hD, hm] at hz
      simp (disch := omega) only [f2, f3, f5, f10, f11, f12, b1.cell, ↓SXd, SXu, slBounds, ↓sop, ↓aop, ↓reduceIte, LV.cells, AOp.dst, LV.I, LV.B, LV.U, LV.S, LV.nil, Nat.reduceEqDiff, Nat.reduceAdd, Nat.reduceMul, Nat.reduceSub, Nat.reduceLeDiff, Nat.reduceBEq, Nat.reduceDiv, Nat.reduceMod, Int.reduceToNat, Int.reduceLT, Int.reduceLE, Int.reduceAdd, Int.reduceSub, Int.reduceMul, Int.reduceEq, Int.reduceNeg, reduceCtorEq, resV, resAll, ARes.ev, LV.flat, ite_true, ite_false, exists_eq_left', exists_eq_left, keyOf, implies_true, fillC, capOf]
      refine condC_dec (fun he => ?_) (fun he => ?_)
      · simp (disch := omega) only [f2, f3, f5, f10, f11, f12, ↓SXd, SXu, slBounds, ↓sop, ↓aop, ↓reduceIte, LV.cells, AOp.dst, LV.I, LV.B, LV.U, LV.S, LV.nil, Nat.reduceEqDiff, Nat.reduceAdd, Nat.reduceMul, Nat.reduceSub, Nat.reduceLeDiff, Nat.reduceBEq, Nat.reduceDiv, Nat.reduceMod, Int.reduceToNat, Int.reduceLT, Int.reduceLE, Int.reduceAdd, Int.reduceSub, Int.reduceMul, Int.reduceEq, Int.reduceNeg, reduceCtorEq, resV, resAll, ARes.ev, LV.flat, ite_true, ite_false, exists_eq_left', exists_eq_left, keyOf, implies_true, fillC, capOf]
        have hm0 := hz.2 he
        have : m = 0 := by omega
        subst this
        simp only [walkW, List.tail_cons, List.append_nil] at hw
        have hnn : (((D.getD p.toNat 0).toNat)) = n := by omega
        refine ⟨_, rfl, ?_, Newer.of (by omega), hpre⟩
        simp only [Option.getD_some, hnn, ← hw]
        exact SlI.of hout
      · obtain ⟨f, rfl⟩ : ∃ f, m = f + 1 := ⟨m - 1, by
          have : m ≠ 0 := fun e => he (hz.1 (by omega))
          omega⟩
        obtain ⟨k, hk, hix, hbef, hat, hnx, hin⟩ := spread_next hq hnow (by rw [hD]; exact hm)
        rw [hD, hT] at hbef hat hnx hix
        rw [hT] at hk hin
        simp (disch := omega) only [f2, f3, f5, f10, f11, f12, b1.cell, b4.cells, ↓SXd, SXu, slBounds, ↓sop, ↓aop, ↓reduceIte, LV.cells, AOp.dst, LV.I, LV.B, LV.U, LV.S, LV.nil, Nat.reduceEqDiff, Nat.reduceAdd, Nat.reduceMul, Nat.reduceSub, Nat.reduceLeDiff, Nat.reduceBEq, Nat.reduceDiv, Nat.reduceMod, Int.reduceToNat, Int.reduceLT, Int.reduceLE, Int.reduceAdd, Int.reduceSub, Int.reduceMul, Int.reduceEq, Int.reduceNeg, reduceCtorEq, resV, resAll, ARes.ev, LV.flat, ite_true, ite_false, exists_eq_left', exists_eq_left, keyOf, implies_true, fillC, capOf]
        refine callN_of (g_steps hH.1.1 hH.1.2.1 hnow b3.has htl hlow) ?_
        intro tn N0 htn hp0 hnx0
        simp (disch := omega) only [f2, f3, f5, f10, f11, f12, ↓SXd, SXu, slBounds, ↓sop, ↓aop, ↓reduceIte, LV.cells, AOp.dst, LV.I, LV.B, LV.U, LV.S, LV.nil, Nat.reduceEqDiff, Nat.reduceAdd, Nat.reduceMul, Nat.reduceSub, Nat.reduceLeDiff, Nat.reduceBEq, Nat.reduceDiv, Nat.reduceMod, Int.reduceToNat, Int.reduceLT, Int.reduceLE, Int.reduceAdd, Int.reduceSub, Int.reduceMul, Int.reduceEq, Int.reduceNeg, reduceCtorEq, resV, resAll, ARes.ev, LV.flat, ite_true, ite_false, exists_eq_left', exists_eq_left, keyOf, implies_true, fillC, capOf]
        have hnl := stepsOf_len (p := now) (s := s) (ts := ts) hb.2
        have hmem : ∀ j, j < (stepsOf x y ts now s).length → 0 ≤ (stepsOf x y ts now s).getD j 0 ∧ (stepsOf x y ts now s).getD j 0 < x * y := fun j hj => stepsOf_mem (getD_mem hj)
        have c1 := b1.pre hp0
        have c5 := b5.pre hp0
        have c6 := b6.pre hp0
        have hnxI : Ints N0 tn 0 (stepsOf x y ts now s) := by
          have := hnx0.has
          unfold stepRow at hnx0
          rw [intL_append] at hnx0
          exact hnx0.hasL
        have hIF := g_IndexFunc (f := F.impl_FirstTopWalk_1) (caps := [(M.length + 6, 0), (M.length + 1, 0)]) (pr := fun r => decide (D.getD r.toNat 0 = (f : Int))) hnxI (by omega) (fun j hj => by
          have hmj := hmem j hj
          have := g_FirstTopWalk_1 (q := (stepsOf x y ts now s).getD j 0) (b1 := M.length + 6) (b2 := M.length + 1) (t := M.length + 5) (o := 0) (D := D) (p := now) (M := N0) (by rw [c6.cell, hsl]; rfl) (by rw [c1.cell]; rfl) c5.has (by omega) (by omega) (by omega)
          rw [show decide (D.getD ((stepsOf x y ts now s).getD j 0).toNat 0 = D.getD now.toNat 0 - 1) = decide (D.getD ((stepsOf x y ts now s).getD j 0).toNat 0 = (f : Int)) from decide_eq_decide.2 (by rw [hm]; omega)] at this
          exact this)
        rw [hix] at hIF
        refine callK_of hIF ?_
        have hgc := Ints.get hnxI hk
        rw [Nat.zero_add] at hgc
        simp (disch := omega) only [f2, f3, f5, f10, f11, f12, hgc, ↓SXd, SXu, slBounds, ↓sop, ↓aop, ↓reduceIte, LV.cells, AOp.dst, LV.I, LV.B, LV.U, LV.S, LV.nil, Nat.reduceEqDiff, Nat.reduceAdd, Nat.reduceMul, Nat.reduceSub, Nat.reduceLeDiff, Nat.reduceBEq, Nat.reduceDiv, Nat.reduceMod, Int.reduceToNat, Int.reduceLT, Int.reduceLE, Int.reduceAdd, Int.reduceSub, Int.reduceMul, Int.reduceEq, Int.reduceNeg, reduceCtorEq, resV, resAll, ARes.ev, LV.flat, ite_true, ite_false, exists_eq_left', exists_eq_left, keyOf, implies_true, fillC, capOf]
        rw [c1.setC, if_pos (by simp)]
        have hl3 := b6.lt
        have hlN := hp0.1
        have d1 : Live (N0.set (M.length + 1) (some (.row [.I ((stepsOf x y ts now s).getD k 0)] true 0))) (M.length + 1) _ := c1.set_eq
        have hou : Live (N0.set (M.length + 1) (some (.row [.I ((stepsOf x y ts now s).getD k 0)] true 0))) u (.row (intL acc) true 1) := (hout.pre hp0).set_ne (by omega)
        have hpN : Pre M (N0.set (M.length + 1) (some (.row [.I ((stepsOf x y ts now s).getD k 0)] true 0))) := (hpre.trans hp0).set (by omega)
        have d3 := (b3.pre hp0).set_ne (t := M.length + 1) (x := some (.row [.I ((stepsOf x y ts now s).getD k 0)] true 0)) (by omega)
        have d4 := (b4.pre hp0).set_ne (t := M.length + 1) (x := some (.row [.I ((stepsOf x y ts now s).getD k 0)] true 0)) (by omega)
        have d5 := c5.set_ne (t := M.length + 1) (x := some (.row [.I ((stepsOf x y ts now s).getD k 0)] true 0)) (by omega)
        have d6 := c6.set_ne (t := M.length + 1) (x := some (.row [.I ((stepsOf x y ts now s).getD k 0)] true 0)) (by omega)
        rw [show splice [LV.I now] 0 [LV.val (.int .i64 ((stepsOf x y ts now s).getD k 0))] = [.I ((stepsOf x y ts now s).getD k 0)] from rfl]
        have hNl : (N0.set (M.length + 1) (some (.row [.I ((stepsOf x y ts now s).getD k 0)] true 0))).length = N0.length := by simp
        generalize hNN : N0.set (M.length + 1) (some (.row [.I ((stepsOf x y ts now s).getD k 0)] true 0)) = NN at d1 hou hpN d3 d4 d5 d6 hNl ⊢
        simp (disch := omega) only [memK, f2, f3, f5, f10, f11, f12, d1.cell, ↓SXd, SXu, slBounds, ↓sop, ↓aop, ↓reduceIte, LV.cells, AOp.dst, LV.I, LV.B, LV.U, LV.S, LV.nil, Nat.reduceEqDiff, Nat.reduceAdd, Nat.reduceMul, Nat.reduceSub, Nat.reduceLeDiff, Nat.reduceBEq, Nat.reduceDiv, Nat.reduceMod, Int.reduceToNat, Int.reduceLT, Int.reduceLE, Int.reduceAdd, Int.reduceSub, Int.reduceMul, Int.reduceEq, Int.reduceNeg, reduceCtorEq, resV, resAll, ARes.ev, LV.flat, ite_true, ite_false, exists_eq_left', exists_eq_left, keyOf, implies_true, fillC, capOf]
        refine appendK_int hou (by omega) fun N' l1 l2 l3 => ?_
        simp (disch := omega) only [f2, f3, f5, f10, f11, f12, ↓SXd, SXu, slBounds, ↓sop, ↓aop, ↓reduceIte, LV.cells, AOp.dst, LV.I, LV.B, LV.U, LV.S, LV.nil, Nat.reduceEqDiff, Nat.reduceAdd, Nat.reduceMul, Nat.reduceSub, Nat.reduceLeDiff, Nat.reduceBEq, Nat.reduceDiv, Nat.reduceMod, Int.reduceToNat, Int.reduceLT, Int.reduceLE, Int.reduceAdd, Int.reduceSub, Int.reduceMul, Int.reduceEq, Int.reduceNeg, reduceCtorEq, resV, resAll, ARes.ev, LV.flat, ite_true, ite_false, exists_eq_left', exists_eq_left, keyOf, implies_true, fillC, capOf]
        refine ⟨f, by omega, (stepsOf x y ts now s).getD k 0, _, acc ++ [(stepsOf x y ts now s).getD k 0], hin, hat, by simp; omega, ?_, pre_step hpN (by omega) l1 l3, live_step d1 (by omega) l3, live_step d3 (by omega) l3, live_step d4 (by omega) l3, live_step d5 (by omega) l3, live_step d6 (by omega) l3, by omega, l2, f2, f3, f5, f10, f11, rfl⟩
        rw [← hw]
        simp only [walkW, List.tail_cons, hnx]
        rw [walkW_head D _ f ((stepsOf x y ts now s).getD k 0), List.append_assoc]; rfl
  · rw [if_neg (fun e => hV e.1)]
    simp (disch := omega) only [hV, ↓SXd, SXu, slBounds, ↓sop, ↓aop, ↓reduceIte, LV.cells, AOp.dst, LV.I, LV.B, LV.U, LV.S, LV.nil, Nat.reduceEqDiff, Nat.reduceAdd, Nat.reduceMul, Nat.reduceSub, Nat.reduceLeDiff, Nat.reduceBEq, Nat.reduceDiv, Nat.reduceMod, Int.reduceToNat, Int.reduceLT, Int.reduceLE, Int.reduceAdd, Int.reduceSub, Int.reduceMul, Int.reduceEq, Int.reduceNeg, reduceCtorEq, resV, resAll, ARes.ev, LV.flat, ite_true, ite_false, exists_eq_left', exists_eq_left, keyOf, implies_true, fillC, capOf]
    exact ⟨_, rfl, SlI.nil, Newer.nil, Pre.app _ _⟩
end Go.Ab

/- The law of the walks. -/
namespace Go.Ab
open Go
set_option linter.unusedSimpArgs false
set_option linter.unusedVariables false
set_option maxRecDepth 20000

theorem HeapR.tri {M N : Mem} {u : Nat} {cs ex : List Cell} (h : Live N u (.row (triL (cs ++ ex)) true 3)) : Tri N u 0 cs := by
  rw [triL_append] at h
  exact h.hasL
theorem IntsRes.len {l : List Int} {x y z : Int} (h : x * y ≤ 16) : True := trivial
theorem stepRes_len {x y z : Int} {cs : List Cell} {p s : Int} : ((stepRes x y z cs p s).getD []).length ≤ 1000000000 := by
  unfold stepRes
  split
  · rename_i h
    have := stepsOf_len (p := p) (s := s) (ts := topsOf x y cs) (mul_bound h.1.1.1 h.1.1.2.1).2
    simp only [Option.getD_some]; omega
  · simp
theorem walkOf_len16 {x y z : Int} {cs : List Cell} {p q s : Int} {W : List Int} (h : walkOf x y z cs p q s = some W) : W.length ≤ 17 := by
  unfold walkOf at h
  split at h
  · rename_i h1
    have hb := mul_bound h1.1.1.1.1.1 h1.1.1.1.1.2.1
    have := (spreadOf_val (cs := cs) (s := s) h1.1.2.1 (k := p.toNat) (by omega)).2
    cases h
    simp only [walkW_len]; omega
  · cases h
theorem l_FnTopWalks {t : Nat} {bs : List Nat} {M : Mem} (h : Bytes M t 0 bs) (hn : bs.length ≤ 9223372036854775807 ∧ ∀ b ∈ bs, b ≤ 255) :
    CallsR PG F.laws_FnTopWalks [.ref t 0 bs.length] M fun v _ => v = .B true := by
  refine callsR_run K.laws_FnTopWalks rfl ?_
  simp (disch := omega) only [C.laws_FnTopWalks, ↓SXd, SXu, slBounds, ↓sop, ↓aop, ↓reduceIte, LV.cells, AOp.dst, LV.I, LV.B, LV.U, LV.S, LV.nil, Nat.reduceEqDiff, Nat.reduceAdd, Nat.reduceMul, Nat.reduceSub, Nat.reduceLeDiff, Nat.reduceBEq, Nat.reduceDiv, Nat.reduceMod, Int.reduceToNat, Int.reduceLT, Int.reduceLE, Int.reduceAdd, Int.reduceSub, Int.reduceMul, Int.reduceEq, Int.reduceNeg, reduceCtorEq, resV, resAll, ARes.ev, LV.flat, ite_true, ite_false, exists_eq_left', exists_eq_left, keyOf, implies_true, fillC, capOf]
  refine callK_of (k_rBig hn.1) ?_
  simp (disch := omega) only [↓SXd, SXu, slBounds, ↓sop, ↓aop, ↓reduceIte, LV.cells, AOp.dst, LV.I, LV.B, LV.U, LV.S, LV.nil, Nat.reduceEqDiff, Nat.reduceAdd, Nat.reduceMul, Nat.reduceSub, Nat.reduceLeDiff, Nat.reduceBEq, Nat.reduceDiv, Nat.reduceMod, Int.reduceToNat, Int.reduceLT, Int.reduceLE, Int.reduceAdd, Int.reduceSub, Int.reduceMul, Int.reduceEq, Int.reduceNeg, reduceCtorEq, resV, resAll, ARes.ev, LV.flat, ite_true, ite_false, exists_eq_left', exists_eq_left, keyOf, implies_true, fillC, capOf]
  by_cases hbig : (65536 : Int) < (bs.length : Nat)
  · simp (disch := omega) only [hbig, ↓SXd, SXu, slBounds, ↓sop, ↓aop, ↓reduceIte, LV.cells, AOp.dst, LV.I, LV.B, LV.U, LV.S, LV.nil, Nat.reduceEqDiff, Nat.reduceAdd, Nat.reduceMul, Nat.reduceSub, Nat.reduceLeDiff, Nat.reduceBEq, Nat.reduceDiv, Nat.reduceMod, Int.reduceToNat, Int.reduceLT, Int.reduceLE, Int.reduceAdd, Int.reduceSub, Int.reduceMul, Int.reduceEq, Int.reduceNeg, reduceCtorEq, resV, resAll, ARes.ev, LV.flat, ite_true, ite_false, exists_eq_left', exists_eq_left, keyOf, implies_true, fillC, capOf]
    rfl
  have hl : bs.length ≤ 1000000000 := by omega
  simp (disch := omega) only [hbig, ↓SXd, SXu, slBounds, ↓sop, ↓aop, ↓reduceIte, LV.cells, AOp.dst, LV.I, LV.B, LV.U, LV.S, LV.nil, Nat.reduceEqDiff, Nat.reduceAdd, Nat.reduceMul, Nat.reduceSub, Nat.reduceLeDiff, Nat.reduceBEq, Nat.reduceDiv, Nat.reduceMod, Int.reduceToNat, Int.reduceLT, Int.reduceLE, Int.reduceAdd, Int.reduceSub, Int.reduceMul, Int.reduceEq, Int.reduceNeg, reduceCtorEq, resV, resAll, ARes.ev, LV.flat, ite_true, ite_false, exists_eq_left', exists_eq_left, keyOf, implies_true, fillC, capOf]
  refine callR_of (d_DrawFirstTopWalk h hn.2 hl) ?_
  rintro _ N1 ⟨⟨_, p, q, s, rfl, x, y, z, cs, u, ex, rfl, hu, hul, hcl⟩, hp1⟩
  simp (disch := omega) only [splice, ↓SXd, SXu, slBounds, ↓sop, ↓aop, ↓reduceIte, LV.cells, AOp.dst, LV.I, LV.B, LV.U, LV.S, LV.nil, Nat.reduceEqDiff, Nat.reduceAdd, Nat.reduceMul, Nat.reduceSub, Nat.reduceLeDiff, Nat.reduceBEq, Nat.reduceDiv, Nat.reduceMod, Int.reduceToNat, Int.reduceLT, Int.reduceLE, Int.reduceAdd, Int.reduceSub, Int.reduceMul, Int.reduceEq, Int.reduceNeg, reduceCtorEq, resV, resAll, ARes.ev, LV.flat, ite_true, ite_false, exists_eq_left', exists_eq_left, keyOf, implies_true, fillC, capOf]
  have hcn : cs.length ≤ 1000000000 := by omega
  have b3 : Live (N1 ++ [some (.row [.I x, .I y, .I z, .ref u 0 cs.length] true 0)]) N1.length (.row [.I x, .I y, .I z, .ref u 0 cs.length] true 0) := Live.new
  have T1 : Tri (N1 ++ [some (.row [.I x, .I y, .I z, .ref u 0 cs.length] true 0)]) u 0 cs := HeapR.tri (M := M) hu.app
  have hP1 : Pre M (N1 ++ [some (.row [.I x, .I y, .I z, .ref u 0 cs.length] true 0)]) := hp1.trans (Pre.app _ _)
  generalize hm3 : N1.length = m3 at b3 ⊢
  generalize N1 ++ [some (Blk.row [.I x, .I y, .I z, .ref u 0 cs.length] true 0)] = N1' at b3 T1 hP1 ⊢
  refine callR_of (g_FirstTopWalk T1 hcn) ?_
  rintro _ N2 ⟨w, rfl, hw, hwn, hp2⟩
  simp (disch := omega) only [(b3.pre hp2).cells, ↓SXd, SXu, slBounds, ↓sop, ↓aop, ↓reduceIte, LV.cells, AOp.dst, LV.I, LV.B, LV.U, LV.S, LV.nil, Nat.reduceEqDiff, Nat.reduceAdd, Nat.reduceMul, Nat.reduceSub, Nat.reduceLeDiff, Nat.reduceBEq, Nat.reduceDiv, Nat.reduceMod, Int.reduceToNat, Int.reduceLT, Int.reduceLE, Int.reduceAdd, Int.reduceSub, Int.reduceMul, Int.reduceEq, Int.reduceNeg, reduceCtorEq, resV, resAll, ARes.ev, LV.flat, ite_true, ite_false, exists_eq_left', exists_eq_left, keyOf, implies_true, fillC, capOf]
  refine callR_of (h_sFirstTopWalk (T1.pre hp2) hcn) ?_
  rintro _ N3 ⟨w', rfl, hw', hwn', hp3⟩
  have b33 := b3.pre (hp2.trans hp3)
  have T3 := T1.pre (hp2.trans hp3)
  have hw3 := hw.pre hp3
  simp (disch := omega) only [beq_self_eq_true, Bool.not_true, ↓SXd, SXu, slBounds, ↓sop, ↓aop, ↓reduceIte, LV.cells, AOp.dst, LV.I, LV.B, LV.U, LV.S, LV.nil, Nat.reduceEqDiff, Nat.reduceAdd, Nat.reduceMul, Nat.reduceSub, Nat.reduceLeDiff, Nat.reduceBEq, Nat.reduceDiv, Nat.reduceMod, Int.reduceToNat, Int.reduceLT, Int.reduceLE, Int.reduceAdd, Int.reduceSub, Int.reduceMul, Int.reduceEq, Int.reduceNeg, reduceCtorEq, resV, resAll, ARes.ev, LV.flat, ite_true, ite_false, exists_eq_left', exists_eq_left, keyOf, implies_true, fillC, capOf]
  refine callK_of (k_rInts hw3.v hw'.v walkOf_len) ?_
  simp (disch := omega) only [b33.cells, ↓SXd, SXu, slBounds, ↓sop, ↓aop, ↓reduceIte, LV.cells, AOp.dst, LV.I, LV.B, LV.U, LV.S, LV.nil, Nat.reduceEqDiff, Nat.reduceAdd, Nat.reduceMul, Nat.reduceSub, Nat.reduceLeDiff, Nat.reduceBEq, Nat.reduceDiv, Nat.reduceMod, Int.reduceToNat, Int.reduceLT, Int.reduceLE, Int.reduceAdd, Int.reduceSub, Int.reduceMul, Int.reduceEq, Int.reduceNeg, reduceCtorEq, resV, resAll, ARes.ev, LV.flat, ite_true, ite_false, exists_eq_left', exists_eq_left, keyOf, implies_true, fillC, capOf]
  refine callK_of (g_TopDistance T3 hcn) ?_
  simp (disch := omega) only [b33.cells, ↓SXd, SXu, slBounds, ↓sop, ↓aop, ↓reduceIte, LV.cells, AOp.dst, LV.I, LV.B, LV.U, LV.S, LV.nil, Nat.reduceEqDiff, Nat.reduceAdd, Nat.reduceMul, Nat.reduceSub, Nat.reduceLeDiff, Nat.reduceBEq, Nat.reduceDiv, Nat.reduceMod, Int.reduceToNat, Int.reduceLT, Int.reduceLE, Int.reduceAdd, Int.reduceSub, Int.reduceMul, Int.reduceEq, Int.reduceNeg, reduceCtorEq, resV, resAll, ARes.ev, LV.flat, ite_true, ite_false, exists_eq_left', exists_eq_left, keyOf, implies_true, fillC, capOf]
  refine callK_of (h_sTopDistance T3 hcn) ?_
  obtain ⟨hk1, hk2⟩ := walk_some (x := x) (y := y) (z := z) (cs := cs) (p := p) (q := q) (s := s)
  simp (disch := omega) only [b33.cells, hk1, beq_self_eq_true, Bool.not_true, ↓SXd, SXu, slBounds, ↓sop, ↓aop, ↓reduceIte, LV.cells, AOp.dst, LV.I, LV.B, LV.U, LV.S, LV.nil, Nat.reduceEqDiff, Nat.reduceAdd, Nat.reduceMul, Nat.reduceSub, Nat.reduceLeDiff, Nat.reduceBEq, Nat.reduceDiv, Nat.reduceMod, Int.reduceToNat, Int.reduceLT, Int.reduceLE, Int.reduceAdd, Int.reduceSub, Int.reduceMul, Int.reduceEq, Int.reduceNeg, reduceCtorEq, resV, resAll, ARes.ev, LV.flat, ite_true, ite_false, exists_eq_left', exists_eq_left, keyOf, implies_true, fillC, capOf]
  refine callK_of (g_LeastClimb T3 hcn) ?_
  simp (disch := omega) only [b33.cells, ↓SXd, SXu, slBounds, ↓sop, ↓aop, ↓reduceIte, LV.cells, AOp.dst, LV.I, LV.B, LV.U, LV.S, LV.nil, Nat.reduceEqDiff, Nat.reduceAdd, Nat.reduceMul, Nat.reduceSub, Nat.reduceLeDiff, Nat.reduceBEq, Nat.reduceDiv, Nat.reduceMod, Int.reduceToNat, Int.reduceLT, Int.reduceLE, Int.reduceAdd, Int.reduceSub, Int.reduceMul, Int.reduceEq, Int.reduceNeg, reduceCtorEq, resV, resAll, ARes.ev, LV.flat, ite_true, ite_false, exists_eq_left', exists_eq_left, keyOf, implies_true, fillC, capOf]
  refine callK_of (h_sLeastClimb T3 hcn) ?_
  simp (disch := omega) only [b33.cells, hk1, hk2, beq_self_eq_true, Bool.not_true, ↓SXd, SXu, slBounds, ↓sop, ↓aop, ↓reduceIte, LV.cells, AOp.dst, LV.I, LV.B, LV.U, LV.S, LV.nil, Nat.reduceEqDiff, Nat.reduceAdd, Nat.reduceMul, Nat.reduceSub, Nat.reduceLeDiff, Nat.reduceBEq, Nat.reduceDiv, Nat.reduceMod, Int.reduceToNat, Int.reduceLT, Int.reduceLE, Int.reduceAdd, Int.reduceSub, Int.reduceMul, Int.reduceEq, Int.reduceNeg, reduceCtorEq, resV, resAll, ARes.ev, LV.flat, ite_true, ite_false, exists_eq_left', exists_eq_left, keyOf, implies_true, fillC, capOf]
  refine callK_of (g_LeastReach T3 hcn) ?_
  simp (disch := omega) only [b33.cells, ↓SXd, SXu, slBounds, ↓sop, ↓aop, ↓reduceIte, LV.cells, AOp.dst, LV.I, LV.B, LV.U, LV.S, LV.nil, Nat.reduceEqDiff, Nat.reduceAdd, Nat.reduceMul, Nat.reduceSub, Nat.reduceLeDiff, Nat.reduceBEq, Nat.reduceDiv, Nat.reduceMod, Int.reduceToNat, Int.reduceLT, Int.reduceLE, Int.reduceAdd, Int.reduceSub, Int.reduceMul, Int.reduceEq, Int.reduceNeg, reduceCtorEq, resV, resAll, ARes.ev, LV.flat, ite_true, ite_false, exists_eq_left', exists_eq_left, keyOf, implies_true, fillC, capOf]
  refine callK_of (h_sLeastReach T3 hcn) ?_
  refine put_cut (fun fr M' => M' = N3 ∧ fr 0 = .ref t 0 bs.length ∧ fr 3 = .ptr m3 0 ∧ fr 4 = .I p ∧ fr 5 = .I q ∧ fr 6 = .I s ∧ fr 7 = w ∧ fr 8 = .B (decide (0 ≤ tdOf x y z cs p q s)) ∧ fr 11 = .I (max (tdOf x y z cs p q s) 0) ∧ fr 15 = .I ((climbOf x y z cs p q s).getD 0) ∧ fr 19 = .I ((reachOf x y z cs p q).getD 0 : Nat) ∧ fr 20 = .B (reachOf x y z cs p q).isSome) ?_ ?_
  · by_cases hd : 0 ≤ tdOf x y z cs p q s
    · have hr := (reach_some hd).1
      simp (disch := omega) only [hd, hr, beq_self_eq_true, Bool.not_true, ↓SXd, SXu, slBounds, ↓sop, ↓aop, ↓reduceIte, LV.cells, AOp.dst, LV.I, LV.B, LV.U, LV.S, LV.nil, Nat.reduceEqDiff, Nat.reduceAdd, Nat.reduceMul, Nat.reduceSub, Nat.reduceLeDiff, Nat.reduceBEq, Nat.reduceDiv, Nat.reduceMod, Int.reduceToNat, Int.reduceLT, Int.reduceLE, Int.reduceAdd, Int.reduceSub, Int.reduceMul, Int.reduceEq, Int.reduceNeg, reduceCtorEq, resV, resAll, ARes.ev, LV.flat, ite_true, ite_false, exists_eq_left', exists_eq_left, keyOf, implies_true, fillC, capOf]
    · simp (disch := omega) only [hd, beq_self_eq_true, Bool.not_true, ↓SXd, SXu, slBounds, ↓sop, ↓aop, ↓reduceIte, LV.cells, AOp.dst, LV.I, LV.B, LV.U, LV.S, LV.nil, Nat.reduceEqDiff, Nat.reduceAdd, Nat.reduceMul, Nat.reduceSub, Nat.reduceLeDiff, Nat.reduceBEq, Nat.reduceDiv, Nat.reduceMod, Int.reduceToNat, Int.reduceLT, Int.reduceLE, Int.reduceAdd, Int.reduceSub, Int.reduceMul, Int.reduceEq, Int.reduceNeg, reduceCtorEq, resV, resAll, ARes.ev, LV.flat, ite_true, ite_false, exists_eq_left', exists_eq_left, keyOf, implies_true, fillC, capOf]
  rintro fr N3 ⟨rfl, f0, f3, f4, f5, f6, f7, f8, f11, f15, f19, f20⟩
  have hP3 : Pre M N3 := hP1.trans (hp2.trans hp3)
  simp (disch := omega) only [f0, f3, f4, f5, f6, f7, f8, f11, f15, f19, f20, ↓SXd, SXu, slBounds, ↓sop, ↓aop, ↓reduceIte, LV.cells, AOp.dst, LV.I, LV.B, LV.U, LV.S, LV.nil, Nat.reduceEqDiff, Nat.reduceAdd, Nat.reduceMul, Nat.reduceSub, Nat.reduceLeDiff, Nat.reduceBEq, Nat.reduceDiv, Nat.reduceMod, Int.reduceToNat, Int.reduceLT, Int.reduceLE, Int.reduceAdd, Int.reduceSub, Int.reduceMul, Int.reduceEq, Int.reduceNeg, reduceCtorEq, resV, resAll, ARes.ev, LV.flat, ite_true, ite_false, exists_eq_left', exists_eq_left, keyOf, implies_true, fillC, capOf]
  refine callR_of (d_DrawTopRegion (h.pre hP3) hn.2 hl) ?_
  rintro _ N4 ⟨⟨_, p', s', rfl, x', y', z', cs', u', ex', rfl, hu', hul', hcl'⟩, hp4⟩
  simp (disch := omega) only [f0, f3, f4, f5, f6, f7, f8, f11, f15, f19, f20, splice, ↓SXd, SXu, slBounds, ↓sop, ↓aop, ↓reduceIte, LV.cells, AOp.dst, LV.I, LV.B, LV.U, LV.S, LV.nil, Nat.reduceEqDiff, Nat.reduceAdd, Nat.reduceMul, Nat.reduceSub, Nat.reduceLeDiff, Nat.reduceBEq, Nat.reduceDiv, Nat.reduceMod, Int.reduceToNat, Int.reduceLT, Int.reduceLE, Int.reduceAdd, Int.reduceSub, Int.reduceMul, Int.reduceEq, Int.reduceNeg, reduceCtorEq, resV, resAll, ARes.ev, LV.flat, ite_true, ite_false, exists_eq_left', exists_eq_left, keyOf, implies_true, fillC, capOf]
  have hcn' : cs'.length ≤ 1000000000 := by omega
  have e3 : Live (N4 ++ [some (.row [.I x', .I y', .I z', .ref u' 0 cs'.length] true 0)]) N4.length (.row [.I x', .I y', .I z', .ref u' 0 cs'.length] true 0) := Live.new
  have T4 : Tri (N4 ++ [some (.row [.I x', .I y', .I z', .ref u' 0 cs'.length] true 0)]) u' 0 cs' := HeapR.tri (M := M) hu'.app
  have hP4 : Pre N3 (N4 ++ [some (.row [.I x', .I y', .I z', .ref u' 0 cs'.length] true 0)]) := hp4.trans (Pre.app _ _)
  generalize hm4 : N4.length = m4 at e3 ⊢
  generalize N4 ++ [some (Blk.row [.I x', .I y', .I z', .ref u' 0 cs'.length] true 0)] = N4' at e3 T4 hP4 ⊢
  refine callR_of (g_TopRegionR T4 hcn') ?_
  rintro _ N5 ⟨rg, rfl, hrg, hrgn, hp5⟩
  simp (disch := omega) only [f0, f3, f4, f5, f6, f7, f8, f11, f15, f19, f20, (e3.pre hp5).cells, ↓SXd, SXu, slBounds, ↓sop, ↓aop, ↓reduceIte, LV.cells, AOp.dst, LV.I, LV.B, LV.U, LV.S, LV.nil, Nat.reduceEqDiff, Nat.reduceAdd, Nat.reduceMul, Nat.reduceSub, Nat.reduceLeDiff, Nat.reduceBEq, Nat.reduceDiv, Nat.reduceMod, Int.reduceToNat, Int.reduceLT, Int.reduceLE, Int.reduceAdd, Int.reduceSub, Int.reduceMul, Int.reduceEq, Int.reduceNeg, reduceCtorEq, resV, resAll, ARes.ev, LV.flat, ite_true, ite_false, exists_eq_left', exists_eq_left, keyOf, implies_true, fillC, capOf]
  refine callR_of (h_sTopRegionR (T4.pre hp5) hcn') ?_
  rintro _ N6 ⟨rg', rfl, hrg', hrgn', hp6⟩
  simp (disch := omega) only [f0, f3, f4, f5, f6, f7, f8, f11, f15, f19, f20, beq_self_eq_true, Bool.not_true, ↓SXd, SXu, slBounds, ↓sop, ↓aop, ↓reduceIte, LV.cells, AOp.dst, LV.I, LV.B, LV.U, LV.S, LV.nil, Nat.reduceEqDiff, Nat.reduceAdd, Nat.reduceMul, Nat.reduceSub, Nat.reduceLeDiff, Nat.reduceBEq, Nat.reduceDiv, Nat.reduceMod, Int.reduceToNat, Int.reduceLT, Int.reduceLE, Int.reduceAdd, Int.reduceSub, Int.reduceMul, Int.reduceEq, Int.reduceNeg, reduceCtorEq, resV, resAll, ARes.ev, LV.flat, ite_true, ite_false, exists_eq_left', exists_eq_left, keyOf, implies_true, fillC, capOf]
  refine callK_of (k_rInts (hrg.pre hp6).v hrg'.v topRegionOf_len) ?_
  simp (disch := omega) only [f0, f3, f4, f5, f6, f7, f8, f11, f15, f19, f20, (e3.pre (hp5.trans hp6)).cells, ↓SXd, SXu, slBounds, ↓sop, ↓aop, ↓reduceIte, LV.cells, AOp.dst, LV.I, LV.B, LV.U, LV.S, LV.nil, Nat.reduceEqDiff, Nat.reduceAdd, Nat.reduceMul, Nat.reduceSub, Nat.reduceLeDiff, Nat.reduceBEq, Nat.reduceDiv, Nat.reduceMod, Int.reduceToNat, Int.reduceLT, Int.reduceLE, Int.reduceAdd, Int.reduceSub, Int.reduceMul, Int.reduceEq, Int.reduceNeg, reduceCtorEq, resV, resAll, ARes.ev, LV.flat, ite_true, ite_false, exists_eq_left', exists_eq_left, keyOf, implies_true, fillC, capOf]
  refine callR_of (g_StepColumns (T4.pre (hp5.trans hp6)) hcn') ?_
  rintro _ N7 ⟨st, rfl, hst, hstn, hp7⟩
  simp (disch := omega) only [f0, f3, f4, f5, f6, f7, f8, f11, f15, f19, f20, (e3.pre ((hp5.trans hp6).trans hp7)).cells, ↓SXd, SXu, slBounds, ↓sop, ↓aop, ↓reduceIte, LV.cells, AOp.dst, LV.I, LV.B, LV.U, LV.S, LV.nil, Nat.reduceEqDiff, Nat.reduceAdd, Nat.reduceMul, Nat.reduceSub, Nat.reduceLeDiff, Nat.reduceBEq, Nat.reduceDiv, Nat.reduceMod, Int.reduceToNat, Int.reduceLT, Int.reduceLE, Int.reduceAdd, Int.reduceSub, Int.reduceMul, Int.reduceEq, Int.reduceNeg, reduceCtorEq, resV, resAll, ARes.ev, LV.flat, ite_true, ite_false, exists_eq_left', exists_eq_left, keyOf, implies_true, fillC, capOf]
  refine callR_of (h_sStepColumns (T4.pre ((hp5.trans hp6).trans hp7)) hcn') ?_
  rintro _ N8 ⟨st', rfl, hst', hstn', hp8⟩
  have hk4 : (topRegionOf x' y' z' cs' p' s').isSome = (stepRes x' y' z' cs' p' s').isSome := by
    unfold topRegionOf stepRes
    split <;> rfl
  simp (disch := omega) only [f0, f3, f4, f5, f6, f7, f8, f11, f15, f19, f20, hk4, beq_self_eq_true, Bool.not_true, ↓SXd, SXu, slBounds, ↓sop, ↓aop, ↓reduceIte, LV.cells, AOp.dst, LV.I, LV.B, LV.U, LV.S, LV.nil, Nat.reduceEqDiff, Nat.reduceAdd, Nat.reduceMul, Nat.reduceSub, Nat.reduceLeDiff, Nat.reduceBEq, Nat.reduceDiv, Nat.reduceMod, Int.reduceToNat, Int.reduceLT, Int.reduceLE, Int.reduceAdd, Int.reduceSub, Int.reduceMul, Int.reduceEq, Int.reduceNeg, reduceCtorEq, resV, resAll, ARes.ev, LV.flat, ite_true, ite_false, exists_eq_left', exists_eq_left, keyOf, implies_true, fillC, capOf]
  refine callK_of (k_rInts (hst.pre hp8).v hst'.v stepRes_len) ?_
  simp (disch := omega) only [f0, f3, f4, f5, f6, f7, f8, f11, f15, f19, f20, ↓SXd, SXu, slBounds, ↓sop, ↓aop, ↓reduceIte, LV.cells, AOp.dst, LV.I, LV.B, LV.U, LV.S, LV.nil, Nat.reduceEqDiff, Nat.reduceAdd, Nat.reduceMul, Nat.reduceSub, Nat.reduceLeDiff, Nat.reduceBEq, Nat.reduceDiv, Nat.reduceMod, Int.reduceToNat, Int.reduceLT, Int.reduceLE, Int.reduceAdd, Int.reduceSub, Int.reduceMul, Int.reduceEq, Int.reduceNeg, reduceCtorEq, resV, resAll, ARes.ev, LV.flat, ite_true, ite_false, exists_eq_left', exists_eq_left, keyOf, implies_true, fillC, capOf]
  have hP8 : Pre M N8 := hP3.trans (hP4.trans (((hp5.trans hp6).trans hp7).trans hp8))
  refine callR_of (d_DrawWalkClimb (h.pre hP8) hn.2 hl) ?_
  rintro _ N9 ⟨⟨_, uw, wk, rfl, ⟨x2, y2, z2, cs2, u2, ex2, rfl, hu2, hul2, hcl2⟩, hwk, hwkn, hwl⟩, hp9⟩
  simp (disch := omega) only [f0, f3, f4, f5, f6, f7, f8, f11, f15, f19, f20, splice, ↓SXd, SXu, slBounds, ↓sop, ↓aop, ↓reduceIte, LV.cells, AOp.dst, LV.I, LV.B, LV.U, LV.S, LV.nil, Nat.reduceEqDiff, Nat.reduceAdd, Nat.reduceMul, Nat.reduceSub, Nat.reduceLeDiff, Nat.reduceBEq, Nat.reduceDiv, Nat.reduceMod, Int.reduceToNat, Int.reduceLT, Int.reduceLE, Int.reduceAdd, Int.reduceSub, Int.reduceMul, Int.reduceEq, Int.reduceNeg, reduceCtorEq, resV, resAll, ARes.ev, LV.flat, ite_true, ite_false, exists_eq_left', exists_eq_left, keyOf, implies_true, fillC, capOf]
  have hcn2 : cs2.length ≤ 1000000000 := by omega
  have e34 : Live (N9 ++ [some (.row [.I x2, .I y2, .I z2, .ref u2 0 cs2.length] true 0)]) N9.length (.row [.I x2, .I y2, .I z2, .ref u2 0 cs2.length] true 0) := Live.new
  have T9 : Tri (N9 ++ [some (.row [.I x2, .I y2, .I z2, .ref u2 0 cs2.length] true 0)]) u2 0 cs2 := HeapR.tri (M := M) hu2.app
  have hW9 : Live (N9 ++ [some (.row [.I x2, .I y2, .I z2, .ref u2 0 cs2.length] true 0)]) uw (.row (intL wk) true 1) := hwk.app
  have hP9 : Pre N8 (N9 ++ [some (.row [.I x2, .I y2, .I z2, .ref u2 0 cs2.length] true 0)]) := hp9.trans (Pre.app _ _)
  generalize hm9 : N9.length = m9 at e34 ⊢
  generalize N9 ++ [some (Blk.row [.I x2, .I y2, .I z2, .ref u2 0 cs2.length] true 0)] = N9' at e34 T9 hW9 hP9 ⊢
  refine callR_of (g_WalkClimb T9 hcn2 hW9.has (by omega)) ?_
  rintro _ N10 ⟨rfl, hp10⟩
  simp (disch := omega) only [f0, f3, f4, f5, f6, f7, f8, f11, f15, f19, f20, (e34.pre hp10).cells, ↓SXd, SXu, slBounds, ↓sop, ↓aop, ↓reduceIte, LV.cells, AOp.dst, LV.I, LV.B, LV.U, LV.S, LV.nil, Nat.reduceEqDiff, Nat.reduceAdd, Nat.reduceMul, Nat.reduceSub, Nat.reduceLeDiff, Nat.reduceBEq, Nat.reduceDiv, Nat.reduceMod, Int.reduceToNat, Int.reduceLT, Int.reduceLE, Int.reduceAdd, Int.reduceSub, Int.reduceMul, Int.reduceEq, Int.reduceNeg, reduceCtorEq, resV, resAll, ARes.ev, LV.flat, ite_true, ite_false, exists_eq_left', exists_eq_left, keyOf, implies_true, fillC, capOf]
  refine callR_of (h_sWalkClimb (T9.pre hp10) hcn2 (hW9.pre hp10).has (by omega)) ?_
  rintro _ N11 ⟨rfl, hp11⟩
  simp (disch := omega) only [f0, f3, f4, f5, f6, f7, f8, f11, f15, f19, f20, beq_self_eq_true, Bool.not_true, ↓SXd, SXu, slBounds, ↓sop, ↓aop, ↓reduceIte, LV.cells, AOp.dst, LV.I, LV.B, LV.U, LV.S, LV.nil, Nat.reduceEqDiff, Nat.reduceAdd, Nat.reduceMul, Nat.reduceSub, Nat.reduceLeDiff, Nat.reduceBEq, Nat.reduceDiv, Nat.reduceMod, Int.reduceToNat, Int.reduceLT, Int.reduceLE, Int.reduceAdd, Int.reduceSub, Int.reduceMul, Int.reduceEq, Int.reduceNeg, reduceCtorEq, resV, resAll, ARes.ev, LV.flat, ite_true, ite_false, exists_eq_left', exists_eq_left, keyOf, implies_true, fillC, capOf]
  have hP11 : Pre M N11 := hP8.trans (hP9.trans (hp10.trans hp11))
  refine callR_of (d_DrawCountRegions (h.pre hP11) hn.2 hl) ?_
  rintro _ N12 ⟨⟨_, r, rfl, x5, y5, z5, cs5, u5, ex5, rfl, hu5, hul5, hcl5⟩, hp12⟩
  simp (disch := omega) only [f0, f3, f4, f5, f6, f7, f8, f11, f15, f19, f20, splice, ↓SXd, SXu, slBounds, ↓sop, ↓aop, ↓reduceIte, LV.cells, AOp.dst, LV.I, LV.B, LV.U, LV.S, LV.nil, Nat.reduceEqDiff, Nat.reduceAdd, Nat.reduceMul, Nat.reduceSub, Nat.reduceLeDiff, Nat.reduceBEq, Nat.reduceDiv, Nat.reduceMod, Int.reduceToNat, Int.reduceLT, Int.reduceLE, Int.reduceAdd, Int.reduceSub, Int.reduceMul, Int.reduceEq, Int.reduceNeg, reduceCtorEq, resV, resAll, ARes.ev, LV.flat, ite_true, ite_false, exists_eq_left', exists_eq_left, keyOf, implies_true, fillC, capOf]
  have hcn5 : cs5.length ≤ 1000000000 := by omega
  have e42 : Live (N12 ++ [some (.row [.I x5, .I y5, .I z5, .ref u5 0 cs5.length] true 0)]) N12.length (.row [.I x5, .I y5, .I z5, .ref u5 0 cs5.length] true 0) := Live.new
  have T12 : Tri (N12 ++ [some (.row [.I x5, .I y5, .I z5, .ref u5 0 cs5.length] true 0)]) u5 0 cs5 := HeapR.tri (M := M) hu5.app
  have hP12 : Pre N11 (N12 ++ [some (.row [.I x5, .I y5, .I z5, .ref u5 0 cs5.length] true 0)]) := hp12.trans (Pre.app _ _)
  generalize hm12 : N12.length = m12 at e42 ⊢
  generalize N12 ++ [some (Blk.row [.I x5, .I y5, .I z5, .ref u5 0 cs5.length] true 0)] = N12' at e42 T12 hP12 ⊢
  refine callK_of (g_CountRegions T12 hcn5) ?_
  simp (disch := omega) only [f0, f3, f4, f5, f6, f7, f8, f11, f15, f19, f20, e42.cells, ↓SXd, SXu, slBounds, ↓sop, ↓aop, ↓reduceIte, LV.cells, AOp.dst, LV.I, LV.B, LV.U, LV.S, LV.nil, Nat.reduceEqDiff, Nat.reduceAdd, Nat.reduceMul, Nat.reduceSub, Nat.reduceLeDiff, Nat.reduceBEq, Nat.reduceDiv, Nat.reduceMod, Int.reduceToNat, Int.reduceLT, Int.reduceLE, Int.reduceAdd, Int.reduceSub, Int.reduceMul, Int.reduceEq, Int.reduceNeg, reduceCtorEq, resV, resAll, ARes.ev, LV.flat, ite_true, ite_false, exists_eq_left', exists_eq_left, keyOf, implies_true, fillC, capOf]
  refine callK_of (h_sCountRegions T12 hcn5) ?_
  simp (disch := omega) only [f0, f3, f4, f5, f6, f7, f8, f11, f15, f19, f20, beq_self_eq_true, Bool.not_true, ↓SXd, SXu, slBounds, ↓sop, ↓aop, ↓reduceIte, LV.cells, AOp.dst, LV.I, LV.B, LV.U, LV.S, LV.nil, Nat.reduceEqDiff, Nat.reduceAdd, Nat.reduceMul, Nat.reduceSub, Nat.reduceLeDiff, Nat.reduceBEq, Nat.reduceDiv, Nat.reduceMod, Int.reduceToNat, Int.reduceLT, Int.reduceLE, Int.reduceAdd, Int.reduceSub, Int.reduceMul, Int.reduceEq, Int.reduceNeg, reduceCtorEq, resV, resAll, ARes.ev, LV.flat, ite_true, ite_false, exists_eq_left', exists_eq_left, keyOf, implies_true, fillC, capOf]
  have hPw : Pre N9' N12' := (hp10.trans hp11).trans hP12
  have hP3 : Pre N3 N12' := hP4.trans ((((hp5.trans hp6).trans hp7).trans hp8).trans (hP9.trans hPw))
  have hPr : Pre N8 N12' := hP9.trans hPw
  have hrg2 := hrg.pre (((hp6.trans hp7).trans hp8).trans hPr)
  have hst2 := hst.pre (hp8.trans hPr)
  have e342 := e34.pre hPw
  have T92 := T9.pre hPw
  have hW92 := hW9.pre hPw
  have b312 := b33.pre hP3
  have T312 := T3.pre hP3
  have hw312 := hw3.pre hP3
  refine cond_cut (fun fr' M' => Pre N12' M' ∧ fr' 3 = .ptr m3 0 ∧ fr' 4 = .I p ∧ fr' 5 = .I q ∧ fr' 6 = .I s ∧ fr' 7 = w ∧ fr' 8 = .B (decide (0 ≤ tdOf x y z cs p q s)) ∧ fr' 11 = .I (max (tdOf x y z cs p q s) 0) ∧ fr' 15 = .I ((climbOf x y z cs p q s).getD 0) ∧ fr' 19 = .I ((reachOf x y z cs p q).getD 0 : Nat) ∧ fr' 20 = .B (reachOf x y z cs p q).isSome ∧
    fr' 24 = .I p' ∧ fr' 26 = rg ∧ fr' 27 = .B (stepRes x' y' z' cs' p' s').isSome ∧ fr' 30 = st ∧ fr' 42 = .ptr m12 0 ∧ fr' 44 = .I ((rcOf x5 y5 z5 cs5 r).getD 0) ∧ fr' 45 = .B (rcOf x5 y5 z5 cs5 r).isSome) ?_ ?_
  · rcases hwc : wcOf x2 y2 z2 cs2 wk with _ | ⟨wa, wb⟩
    · simp (disch := omega) only [f0, f3, f4, f5, f6, f7, f8, f11, f15, f19, f20, hk4, Option.isSome_none, ↓SXd, SXu, slBounds, ↓sop, ↓aop, ↓reduceIte, LV.cells, AOp.dst, LV.I, LV.B, LV.U, LV.S, LV.nil, Nat.reduceEqDiff, Nat.reduceAdd, Nat.reduceMul, Nat.reduceSub, Nat.reduceLeDiff, Nat.reduceBEq, Nat.reduceDiv, Nat.reduceMod, Int.reduceToNat, Int.reduceLT, Int.reduceLE, Int.reduceAdd, Int.reduceSub, Int.reduceMul, Int.reduceEq, Int.reduceNeg, reduceCtorEq, resV, resAll, ARes.ev, LV.flat, ite_true, ite_false, exists_eq_left', exists_eq_left, keyOf, implies_true, fillC, capOf]
      exact Pre.refl _
    have hWO : WalkOK x2 y2 z2 cs2 wk := by
      unfold wcOf at hwc
      split at hwc
      · assumption
      · cases hwc
    have hwc2 : wa = gapN (along (topsOf x2 y2 cs2) wk) (wk.length - 1) ∧ wb = upN (along (topsOf x2 y2 cs2) wk) (wk.length - 1) := by
      rw [wc_ok hWO] at hwc
      cases hwc; exact ⟨rfl, rfl⟩
    obtain ⟨wb', hturn, hdiff⟩ := wc_turned hwc
    have hwb' : wb' = upN (along (topsOf x2 y2 cs2) wk.reverse) (wk.length - 1) := by
      rw [wc_ok hWO.reverse, List.length_reverse] at hturn
      cases hturn; rfl
    have hWO' := hWO.reverse
    obtain ⟨hH2, hw0, hwin, _⟩ := id hWO
    have hl0 : ¬ ((wk.length : Int) - 1 < 0) := by omega
    simp (disch := omega) only [f0, f3, f4, f5, f6, f7, f8, f11, f15, f19, f20, hk4, Option.isSome_some, ↓SXd, SXu, slBounds, ↓sop, ↓aop, ↓reduceIte, LV.cells, AOp.dst, LV.I, LV.B, LV.U, LV.S, LV.nil, Nat.reduceEqDiff, Nat.reduceAdd, Nat.reduceMul, Nat.reduceSub, Nat.reduceLeDiff, Nat.reduceBEq, Nat.reduceDiv, Nat.reduceMod, Int.reduceToNat, Int.reduceLT, Int.reduceLE, Int.reduceAdd, Int.reduceSub, Int.reduceMul, Int.reduceEq, Int.reduceNeg, reduceCtorEq, resV, resAll, ARes.ev, LV.flat, ite_true, ite_false, exists_eq_left', exists_eq_left, keyOf, implies_true, fillC, capOf]
    have hTl : (topsOf x2 y2 cs2).length = (x2 * y2).toNat := topsOf_len _ _ _
    refine ev_loop (fun m fr' M' => ∃ (ut : Nat), m ≤ wk.length ∧ Pre N12' M' ∧ N12'.length ≤ ut ∧ Live M' ut (.row (intL (wk.reverse.take (wk.length - m))) true 1) ∧ fr' 34 = .ptr m9 0 ∧ fr' 35 = .ref uw 0 wk.length ∧ fr' 36 = .I wa ∧ fr' 37 = .I wb ∧ fr' 48 = .ref ut 0 (wk.length - m) ∧ fr' 49 = .I ((m : Int) - 1) ∧ fr' 3 = .ptr m3 0 ∧ fr' 4 = .I p ∧ fr' 5 = .I q ∧ fr' 6 = .I s ∧ fr' 7 = w ∧ fr' 8 = .B (decide (0 ≤ tdOf x y z cs p q s)) ∧ fr' 11 = .I (max (tdOf x y z cs p q s) 0) ∧ fr' 15 = .I ((climbOf x y z cs p q s).getD 0) ∧ fr' 19 = .I ((reachOf x y z cs p q).getD 0 : Nat) ∧ fr' 20 = .B (reachOf x y z cs p q).isSome ∧
    fr' 24 = .I p' ∧ fr' 26 = rg ∧ fr' 27 = .B (stepRes x' y' z' cs' p' s').isSome ∧ fr' 30 = st ∧ fr' 42 = .ptr m12 0 ∧ fr' 44 = .I ((rcOf x5 y5 z5 cs5 r).getD 0) ∧ fr' 45 = .B (rcOf x5 y5 z5 cs5 r).isSome) wk.length
      ⟨N12'.length, Nat.le_refl _, Pre.app _ _, Nat.le_refl _, by rw [Nat.sub_self]; exact Live.new, rfl, rfl, rfl, rfl, by rw [Nat.sub_self]; rfl, rfl, f3, f4, f5, f6, f7, f8, f11, f15, f19, f20, rfl, rfl, rfl, rfl, rfl, rfl, rfl⟩ ?_
    rintro m fr2 M' ⟨ut, hm, hpM, hut, hacc, g34, g35, g36, g37, g48, g49, g3, g4, g5, g6, g7, g8, g11, g15, g19, g20, g24, g26, g27, g30, g42, g44, g45⟩
    simp (disch := omega) only [g34, g35, g36, g37, g49, g3, g4, g5, g6, g7, g8, g11, g15, g19, g20, g24, g26, g27, g30, g42, g44, g45, ↓SXd, SXu, slBounds, ↓sop, ↓aop, ↓reduceIte, LV.cells, AOp.dst, LV.I, LV.B, LV.U, LV.S, LV.nil, Nat.reduceEqDiff, Nat.reduceAdd, Nat.reduceMul, Nat.reduceSub, Nat.reduceLeDiff, Nat.reduceBEq, Nat.reduceDiv, Nat.reduceMod, Int.reduceToNat, Int.reduceLT, Int.reduceLE, Int.reduceAdd, Int.reduceSub, Int.reduceMul, Int.reduceEq, Int.reduceNeg, reduceCtorEq, resV, resAll, ARes.ev, LV.flat, ite_true, ite_false, exists_eq_left', exists_eq_left, keyOf, implies_true, fillC, capOf]
    refine condC_dec (fun hlt => ?_) (fun hlt => ?_)
    · obtain ⟨m, rfl⟩ : ∃ k, m = k + 1 := ⟨m - 1, by omega⟩
      have hm1 : ((m + 1 : Nat) : Int) - 1 = (m : Int) := by omega
      have hgm := Ints.get (hW92.pre hpM).has (k := m) (by omega)
      rw [Nat.zero_add] at hgm
      have hal : (wk.reverse.take (wk.length - (m + 1))).length = wk.length - (m + 1) := by rw [List.length_take, List.length_reverse]; omega
      have happ : wk.reverse.take (wk.length - m) = wk.reverse.take (wk.length - (m + 1)) ++ [wk.getD m 0] := by
        rw [show wk.length - m = wk.length - (m + 1) + 1 by omega, take_snoc' (d := 0) (by rw [List.length_reverse]; omega), getD_reverse (by omega)]
        congr 3; omega
      have g48' : fr2 48 = .ref ut 0 (wk.reverse.take (wk.length - (m + 1))).length := by rw [hal]; exact g48
      have hutl := hacc.lt
      simp (disch := omega) only [g34, g35, g36, g37, g49, g3, g4, g5, g6, g7, g8, g11, g15, g19, g20, g24, g26, g27, g30, g42, g44, g45, hm1, hgm, Nat.mul_one, Nat.zero_add, splice, g48', ↓SXd, SXu, slBounds, ↓sop, ↓aop, ↓reduceIte, LV.cells, AOp.dst, LV.I, LV.B, LV.U, LV.S, LV.nil, Nat.reduceEqDiff, Nat.reduceAdd, Nat.reduceMul, Nat.reduceSub, Nat.reduceLeDiff, Nat.reduceBEq, Nat.reduceDiv, Nat.reduceMod, Int.reduceToNat, Int.reduceLT, Int.reduceLE, Int.reduceAdd, Int.reduceSub, Int.reduceMul, Int.reduceEq, Int.reduceNeg, reduceCtorEq, resV, resAll, ARes.ev, LV.flat, ite_true, ite_false, exists_eq_left', exists_eq_left, keyOf, implies_true, fillC, capOf]
      refine appendK_int hacc (by omega) fun N5 l1 l2 l3 => ?_
      rw [← happ] at l2 ⊢
      simp (disch := omega) only [g34, g35, g36, g37, g49, g3, g4, g5, g6, g7, g8, g11, g15, g19, g20, g24, g26, g27, g30, g42, g44, g45, hm1, ↓SXd, SXu, slBounds, ↓sop, ↓aop, ↓reduceIte, LV.cells, AOp.dst, LV.I, LV.B, LV.U, LV.S, LV.nil, Nat.reduceEqDiff, Nat.reduceAdd, Nat.reduceMul, Nat.reduceSub, Nat.reduceLeDiff, Nat.reduceBEq, Nat.reduceDiv, Nat.reduceMod, Int.reduceToNat, Int.reduceLT, Int.reduceLE, Int.reduceAdd, Int.reduceSub, Int.reduceMul, Int.reduceEq, Int.reduceNeg, reduceCtorEq, resV, resAll, ARes.ev, LV.flat, ite_true, ite_false, exists_eq_left', exists_eq_left, keyOf, implies_true, fillC, capOf]
      have hal2 : (wk.reverse.take (wk.length - m)).length = wk.length - m := by rw [List.length_take, List.length_reverse]; omega
      rw [hal2]
      exact ⟨m, by omega, M'.length + 1, by omega, pre_step hpM hut l1 l3, by have := hpM.1; omega, l2, g34, g35, g36, g37, rfl, rfl, g3, g4, g5, g6, g7, g8, g11, g15, g19, g20, g24, g26, g27, g30, g42, g44, g45⟩
    · have hm0 : m = 0 := by omega
      subst hm0
      rw [Nat.sub_zero, List.take_of_length_le (by rw [List.length_reverse]; omega)] at hacc
      have g48' : fr2 48 = .ref ut 0 wk.reverse.length := by rw [List.length_reverse]; exact g48
      simp (disch := omega) only [g34, g35, g36, g37, g49, g3, g4, g5, g6, g7, g8, g11, g15, g19, g20, g24, g26, g27, g30, g42, g44, g45, (e342.pre hpM).cells, ↓SXd, SXu, slBounds, ↓sop, ↓aop, ↓reduceIte, LV.cells, AOp.dst, LV.I, LV.B, LV.U, LV.S, LV.nil, Nat.reduceEqDiff, Nat.reduceAdd, Nat.reduceMul, Nat.reduceSub, Nat.reduceLeDiff, Nat.reduceBEq, Nat.reduceDiv, Nat.reduceMod, Int.reduceToNat, Int.reduceLT, Int.reduceLE, Int.reduceAdd, Int.reduceSub, Int.reduceMul, Int.reduceEq, Int.reduceNeg, reduceCtorEq, resV, resAll, ARes.ev, LV.flat, ite_true, ite_false, exists_eq_left', exists_eq_left, keyOf, implies_true, fillC, capOf]
      refine callR_of (g_TopHeights (T92.pre hpM) hcn2) ?_
      rintro _ N6' ⟨tv, rfl, htv, _, hq6⟩
      rw [show topRes x2 y2 z2 cs2 = some (topsOf x2 y2 cs2) from if_pos hH2] at htv ⊢
      have hq6' := hpM.trans hq6
      simp (disch := omega) only [g34, g35, g36, g37, g49, g3, g4, g5, g6, g7, g8, g11, g15, g19, g20, g24, g26, g27, g30, g42, g44, g45, (e342.pre hq6').cells, g48', Option.isSome_some, ↓SXd, SXu, slBounds, ↓sop, ↓aop, ↓reduceIte, LV.cells, AOp.dst, LV.I, LV.B, LV.U, LV.S, LV.nil, Nat.reduceEqDiff, Nat.reduceAdd, Nat.reduceMul, Nat.reduceSub, Nat.reduceLeDiff, Nat.reduceBEq, Nat.reduceDiv, Nat.reduceMod, Int.reduceToNat, Int.reduceLT, Int.reduceLE, Int.reduceAdd, Int.reduceSub, Int.reduceMul, Int.reduceEq, Int.reduceNeg, reduceCtorEq, resV, resAll, ARes.ev, LV.flat, ite_true, ite_false, exists_eq_left', exists_eq_left, keyOf, implies_true, fillC, capOf]
      refine callR_of (g_WalkClimb (T92.pre hq6') hcn2 (hacc.pre hq6).has (by rw [List.length_reverse]; omega)) ?_
      rintro _ N7' ⟨rfl, hq7⟩
      have htv7 := htv.pre hq7
      have hW7 := hW92.pre (hq6'.trans hq7)
      rcases htv7 with ⟨rfl, e⟩ | ⟨tt, ex6, rfl, htl6⟩
      · have hb2 := mul_bound hH2.1.1 hH2.1.2.1
        have := congrArg List.length e
        simp only [Option.getD_some, List.length_nil] at this
        omega
      rw [intL_append] at htl6
      have hI : Ints N7' tt 0 (topsOf x2 y2 cs2) := htl6.hasL
      have c1 := hwin (wk.length - 1) (by omega)
      have c2 := hwin 0 (by omega)
      have q1 := Ints.get hI (k := (wk.getD (wk.length - 1) 0).toNat) (by omega)
      have q2 := Ints.get hI (k := (wk.getD 0 0).toNat) (by omega)
      have q3 := Ints.get hW7.has (k := wk.length - 1) (by omega)
      have q4 := Ints.get hW7.has (k := 0) (by omega)
      rw [Nat.zero_add] at q1 q2 q3 q4
      have hwi : (wk.length : Int) - 1 = ((wk.length - 1 : Nat) : Int) := by omega
      have h4 := topsOf_low4 hH2
      have u1 := upN_le (u := along (topsOf x2 y2 cs2) wk) (fun i => h4 _) (wk.length - 1)
      have u2 := upN_le (u := along (topsOf x2 y2 cs2) wk.reverse) (fun i => h4 _) (wk.length - 1)
      rw [← hwc2.2] at u1
      rw [← hwb'] at u2
      have a1 := h4 (wk.getD (wk.length - 1) 0).toNat
      have a2 := h4 (wk.getD 0 0).toNat
      rw [hturn]
      generalize (topsOf x2 y2 cs2).getD (wk.getD (wk.length - 1) 0).toNat 0 = tA at q1 a1 hdiff
      generalize (topsOf x2 y2 cs2).getD (wk.getD 0 0).toNat 0 = tB at q2 a2 hdiff
      generalize hcA : wk.getD (wk.length - 1) 0 = cA at q1 q3 c1
      generalize hcB : wk.getD 0 0 = cB at q2 q4 c2
      simp (disch := omega) only [g34, g35, g36, g37, g49, g3, g4, g5, g6, g7, g8, g11, g15, g19, g20, g24, g26, g27, g30, g42, g44, g45, Option.isSome_some, hwi, q1, q2, q3, q4, Nat.mul_one, Nat.zero_add, Nat.zero_mul, hdiff, hTl, Option.getD_some, ↓SXd, SXu, slBounds, ↓sop, ↓aop, ↓reduceIte, LV.cells, AOp.dst, LV.I, LV.B, LV.U, LV.S, LV.nil, Nat.reduceEqDiff, Nat.reduceAdd, Nat.reduceMul, Nat.reduceSub, Nat.reduceLeDiff, Nat.reduceBEq, Nat.reduceDiv, Nat.reduceMod, Int.reduceToNat, Int.reduceLT, Int.reduceLE, Int.reduceAdd, Int.reduceSub, Int.reduceMul, Int.reduceEq, Int.reduceNeg, reduceCtorEq, resV, resAll, ARes.ev, LV.flat, ite_true, ite_false, exists_eq_left', exists_eq_left, keyOf, implies_true, fillC, capOf]
      exact hq6'.trans hq7
  rintro fr M13 ⟨hp13, f3, f4, f5, f6, f7, f8, f11, f15, f19, f20, f24, f26, f27, f30, f42, f44, f45⟩
  simp (disch := omega) only [f3, f4, f5, f6, f7, f8, f11, f15, f19, f20, f24, f26, f27, f30, f42, f44, f45, ↓SXd, SXu, slBounds, ↓sop, ↓aop, ↓reduceIte, LV.cells, AOp.dst, LV.I, LV.B, LV.U, LV.S, LV.nil, Nat.reduceEqDiff, Nat.reduceAdd, Nat.reduceMul, Nat.reduceSub, Nat.reduceLeDiff, Nat.reduceBEq, Nat.reduceDiv, Nat.reduceMod, Int.reduceToNat, Int.reduceLT, Int.reduceLE, Int.reduceAdd, Int.reduceSub, Int.reduceMul, Int.reduceEq, Int.reduceNeg, reduceCtorEq, resV, resAll, ARes.ev, LV.flat, ite_true, ite_false, exists_eq_left', exists_eq_left, keyOf, implies_true, fillC, capOf]
  refine cond_cut (fun fr' M' => M' = M13 ∧ fr' 3 = .ptr m3 0 ∧ fr' 4 = .I p ∧ fr' 5 = .I q ∧ fr' 6 = .I s ∧ fr' 7 = w ∧ fr' 8 = .B (decide (0 ≤ tdOf x y z cs p q s)) ∧ fr' 11 = .I (max (tdOf x y z cs p q s) 0) ∧ fr' 15 = .I ((climbOf x y z cs p q s).getD 0) ∧ fr' 19 = .I ((reachOf x y z cs p q).getD 0 : Nat) ∧ fr' 20 = .B (reachOf x y z cs p q).isSome ∧
    fr' 42 = .ptr m12 0 ∧ fr' 44 = .I ((rcOf x5 y5 z5 cs5 r).getD 0) ∧ fr' 45 = .B (rcOf x5 y5 z5 cs5 r).isSome) ?_ ?_
  · by_cases hv : HeapOK x' y' z' cs' ∧ (0 ≤ p' ∧ p' ≤ x' * y' - 1) ∧ 0 ≤ s'
    rotate_left
    · rw [show stepRes x' y' z' cs' p' s' = none from if_neg hv]
      simp (disch := omega) only [f3, f4, f5, f6, f7, f8, f11, f15, f19, f20, f24, f26, f27, f30, f42, f44, f45, Option.isSome_none, ↓SXd, SXu, slBounds, ↓sop, ↓aop, ↓reduceIte, LV.cells, AOp.dst, LV.I, LV.B, LV.U, LV.S, LV.nil, Nat.reduceEqDiff, Nat.reduceAdd, Nat.reduceMul, Nat.reduceSub, Nat.reduceLeDiff, Nat.reduceBEq, Nat.reduceDiv, Nat.reduceMod, Int.reduceToNat, Int.reduceLT, Int.reduceLE, Int.reduceAdd, Int.reduceSub, Int.reduceMul, Int.reduceEq, Int.reduceNeg, reduceCtorEq, resV, resAll, ARes.ev, LV.flat, ite_true, ite_false, exists_eq_left', exists_eq_left, keyOf, implies_true, fillC, capOf]
    have hb2 := mul_bound hv.1.1.1 hv.1.1.2.1
    rw [show stepRes x' y' z' cs' p' s' = some (stepsOf x' y' (topsOf x' y' cs') p' s') from if_pos hv] at hst2 ⊢
    rw [show topRegionOf x' y' z' cs' p' s' = some (regionOf x' y' cs' p' s') from if_pos hv] at hrg2
    rw [Option.getD_some] at hst2 hrg2
    have hst3 := (hst2.pre hp13).v
    have hrg3 := (hrg2.pre hp13).v
    have hrl := regionOf_len (cs := cs') (p := p') (s := s') hb2.2
    have hsl := stepsOf_len (p := p') (s := s') (ts := topsOf x' y' cs') hb2.2
    have hsub : ∀ c ∈ stepsOf x' y' (topsOf x' y' cs') p' s', c ∈ regionOf x' y' cs' p' s' := fun c hc => steps_region hv.2.1 hc
    have hself := regionOf_self (x := x') (y := y') (cs := cs') (s := s') hv.2.1
    generalize stepsOf x' y' (topsOf x' y' cs') p' s' = SL at hst3 hsl hsub ⊢
    generalize regionOf x' y' cs' p' s' = RL at hrg3 hrl hsub hself ⊢
    simp (disch := omega) only [f3, f4, f5, f6, f7, f8, f11, f15, f19, f20, f24, f26, f27, f30, f42, f44, f45, Option.isSome_some, ↓SXd, SXu, slBounds, ↓sop, ↓aop, ↓reduceIte, LV.cells, AOp.dst, LV.I, LV.B, LV.U, LV.S, LV.nil, Nat.reduceEqDiff, Nat.reduceAdd, Nat.reduceMul, Nat.reduceSub, Nat.reduceLeDiff, Nat.reduceBEq, Nat.reduceDiv, Nat.reduceMod, Int.reduceToNat, Int.reduceLT, Int.reduceLE, Int.reduceAdd, Int.reduceSub, Int.reduceMul, Int.reduceEq, Int.reduceNeg, reduceCtorEq, resV, resAll, ARes.ev, LV.flat, ite_true, ite_false, exists_eq_left', exists_eq_left, keyOf, implies_true, fillC, capOf]
    refine ev_loop (fun m fr' M' => ∃ i : Nat, i + m = SL.length ∧ M' = M13 ∧ fr' 24 = .I p' ∧ fr' 26 = rg ∧ fr' 30 = st ∧ fr' 55 = .I i ∧ fr' 3 = .ptr m3 0 ∧ fr' 4 = .I p ∧ fr' 5 = .I q ∧ fr' 6 = .I s ∧ fr' 7 = w ∧ fr' 8 = .B (decide (0 ≤ tdOf x y z cs p q s)) ∧ fr' 11 = .I (max (tdOf x y z cs p q s) 0) ∧ fr' 15 = .I ((climbOf x y z cs p q s).getD 0) ∧ fr' 19 = .I ((reachOf x y z cs p q).getD 0 : Nat) ∧ fr' 20 = .B (reachOf x y z cs p q).isSome ∧
      fr' 42 = .ptr m12 0 ∧ fr' 44 = .I ((rcOf x5 y5 z5 cs5 r).getD 0) ∧ fr' 45 = .B (rcOf x5 y5 z5 cs5 r).isSome) SL.length
      ⟨0, by omega, rfl, f24, f26, f30, rfl, f3, f4, f5, f6, f7, f8, f11, f15, f19, f20, f42, f44, f45⟩ ?_
    rintro m fr2 M13 ⟨i, hi, rfl, g24, g26, g30, g55, g3, g4, g5, g6, g7, g8, g11, g15, g19, g20, g42, g44, g45⟩
    have hlv := hst3.lenV
    simp (disch := omega) only [g24, g26, g30, g55, g3, g4, g5, g6, g7, g8, g11, g15, g19, g20, g42, g44, g45, hlv, ↓SXd, SXu, slBounds, ↓sop, ↓aop, ↓reduceIte, LV.cells, AOp.dst, LV.I, LV.B, LV.U, LV.S, LV.nil, Nat.reduceEqDiff, Nat.reduceAdd, Nat.reduceMul, Nat.reduceSub, Nat.reduceLeDiff, Nat.reduceBEq, Nat.reduceDiv, Nat.reduceMod, Int.reduceToNat, Int.reduceLT, Int.reduceLE, Int.reduceAdd, Int.reduceSub, Int.reduceMul, Int.reduceEq, Int.reduceNeg, reduceCtorEq, resV, resAll, ARes.ev, LV.flat, ite_true, ite_false, exists_eq_left', exists_eq_left, keyOf, implies_true, fillC, capOf]
    refine condC_dec (fun hlt => ?_) (fun hlt => ?_)
    · have hil : i < SL.length := by omega
      obtain ⟨tt, oo, e, hg⟩ := hst3.at hil
      have g30' : fr2 30 = .ref tt oo SL.length := by rw [g30, e]
      have hmem := hsub _ (getD_mem (d := 0) hil)
      simp (disch := omega) only [g24, g26, g55, g3, g4, g5, g6, g7, g8, g11, g15, g19, g20, g42, g44, g45, g30', hg, Nat.mul_one, ↓SXd, SXu, slBounds, ↓sop, ↓aop, ↓reduceIte, LV.cells, AOp.dst, LV.I, LV.B, LV.U, LV.S, LV.nil, Nat.reduceEqDiff, Nat.reduceAdd, Nat.reduceMul, Nat.reduceSub, Nat.reduceLeDiff, Nat.reduceBEq, Nat.reduceDiv, Nat.reduceMod, Int.reduceToNat, Int.reduceLT, Int.reduceLE, Int.reduceAdd, Int.reduceSub, Int.reduceMul, Int.reduceEq, Int.reduceNeg, reduceCtorEq, resV, resAll, ARes.ev, LV.flat, ite_true, ite_false, exists_eq_left', exists_eq_left, keyOf, implies_true, fillC, capOf]
      refine callK_of (k_rHas hrg3 (by omega) hmem) ?_
      simp (disch := omega) only [g24, g26, g55, g3, g4, g5, g6, g7, g8, g11, g15, g19, g20, g42, g44, g45, ↓SXd, SXu, slBounds, ↓sop, ↓aop, ↓reduceIte, LV.cells, AOp.dst, LV.I, LV.B, LV.U, LV.S, LV.nil, Nat.reduceEqDiff, Nat.reduceAdd, Nat.reduceMul, Nat.reduceSub, Nat.reduceLeDiff, Nat.reduceBEq, Nat.reduceDiv, Nat.reduceMod, Int.reduceToNat, Int.reduceLT, Int.reduceLE, Int.reduceAdd, Int.reduceSub, Int.reduceMul, Int.reduceEq, Int.reduceNeg, reduceCtorEq, resV, resAll, ARes.ev, LV.flat, ite_true, ite_false, exists_eq_left', exists_eq_left, keyOf, implies_true, fillC, capOf]
      exact ⟨m - 1, by omega, i + 1, by omega, rfl, g24, g26, g30, eqI (natI _), g3, g4, g5, g6, g7, g8, g11, g15, g19, g20, g42, g44, g45⟩
    · simp (disch := omega) only [g24, g26, g30, g55, g3, g4, g5, g6, g7, g8, g11, g15, g19, g20, g42, g44, g45, ↓SXd, SXu, slBounds, ↓sop, ↓aop, ↓reduceIte, LV.cells, AOp.dst, LV.I, LV.B, LV.U, LV.S, LV.nil, Nat.reduceEqDiff, Nat.reduceAdd, Nat.reduceMul, Nat.reduceSub, Nat.reduceLeDiff, Nat.reduceBEq, Nat.reduceDiv, Nat.reduceMod, Int.reduceToNat, Int.reduceLT, Int.reduceLE, Int.reduceAdd, Int.reduceSub, Int.reduceMul, Int.reduceEq, Int.reduceNeg, reduceCtorEq, resV, resAll, ARes.ev, LV.flat, ite_true, ite_false, exists_eq_left', exists_eq_left, keyOf, implies_true, fillC, capOf]
      refine callK_of (k_rHas hrg3 (by omega) hself) ?_
      simp (disch := omega) only [g24, g26, g30, g55, g3, g4, g5, g6, g7, g8, g11, g15, g19, g20, g42, g44, g45, ↓SXd, SXu, slBounds, ↓sop, ↓aop, ↓reduceIte, LV.cells, AOp.dst, LV.I, LV.B, LV.U, LV.S, LV.nil, Nat.reduceEqDiff, Nat.reduceAdd, Nat.reduceMul, Nat.reduceSub, Nat.reduceLeDiff, Nat.reduceBEq, Nat.reduceDiv, Nat.reduceMod, Int.reduceToNat, Int.reduceLT, Int.reduceLE, Int.reduceAdd, Int.reduceSub, Int.reduceMul, Int.reduceEq, Int.reduceNeg, reduceCtorEq, resV, resAll, ARes.ev, LV.flat, ite_true, ite_false, exists_eq_left', exists_eq_left, keyOf, implies_true, fillC, capOf]
  rintro fr M13 ⟨rfl, f3, f4, f5, f6, f7, f8, f11, f15, f19, f20, f42, f44, f45⟩
  simp (disch := omega) only [f3, f4, f5, f6, f7, f8, f11, f15, f19, f20, f42, f44, f45, ↓SXd, SXu, slBounds, ↓sop, ↓aop, ↓reduceIte, LV.cells, AOp.dst, LV.I, LV.B, LV.U, LV.S, LV.nil, Nat.reduceEqDiff, Nat.reduceAdd, Nat.reduceMul, Nat.reduceSub, Nat.reduceLeDiff, Nat.reduceBEq, Nat.reduceDiv, Nat.reduceMod, Int.reduceToNat, Int.reduceLT, Int.reduceLE, Int.reduceAdd, Int.reduceSub, Int.reduceMul, Int.reduceEq, Int.reduceNeg, reduceCtorEq, resV, resAll, ARes.ev, LV.flat, ite_true, ite_false, exists_eq_left', exists_eq_left, keyOf, implies_true, fillC, capOf]
  refine cond_cut (fun fr' M' => M' = M13 ∧ fr' 3 = .ptr m3 0 ∧ fr' 4 = .I p ∧ fr' 5 = .I q ∧ fr' 6 = .I s ∧ fr' 7 = w ∧ fr' 8 = .B (decide (0 ≤ tdOf x y z cs p q s)) ∧ fr' 11 = .I (max (tdOf x y z cs p q s) 0) ∧ fr' 15 = .I ((climbOf x y z cs p q s).getD 0) ∧ fr' 19 = .I ((reachOf x y z cs p q).getD 0 : Nat) ∧ fr' 20 = .B (reachOf x y z cs p q).isSome) ?_ ?_
  · rcases hrc : rcOf x5 y5 z5 cs5 r with _ | c
    · simp (disch := omega) only [f3, f4, f5, f6, f7, f8, f11, f15, f19, f20, f42, f44, f45, Option.isSome_none, ↓SXd, SXu, slBounds, ↓sop, ↓aop, ↓reduceIte, LV.cells, AOp.dst, LV.I, LV.B, LV.U, LV.S, LV.nil, Nat.reduceEqDiff, Nat.reduceAdd, Nat.reduceMul, Nat.reduceSub, Nat.reduceLeDiff, Nat.reduceBEq, Nat.reduceDiv, Nat.reduceMod, Int.reduceToNat, Int.reduceLT, Int.reduceLE, Int.reduceAdd, Int.reduceSub, Int.reduceMul, Int.reduceEq, Int.reduceNeg, reduceCtorEq, resV, resAll, ARes.ev, LV.flat, ite_true, ite_false, exists_eq_left', exists_eq_left, keyOf, implies_true, fillC, capOf]
    have hcb := count_bounds hrc
    have hH5 : HeapOK x5 y5 z5 cs5 := by
      unfold rcOf at hrc
      split at hrc
      · rename_i hv; exact hv.1
      · cases hrc
    have hb5 := mul_bound hH5.1.1 hH5.1.2.1
    have hone := count_one hH5 (Int.le_refl z5)
    have e5 := e42.pre hp13
    rw [hrc, Option.getD_some] at f44
    have hc1 : ¬ (c < 1) := by omega
    have hc2 : ¬ (c > x5 * y5) := by omega
    simp (disch := omega) only [f3, f4, f5, f6, f7, f8, f11, f15, f19, f20, f42, f44, f45, Option.isSome_some, Option.getD_some, e5.cells, e5.cell, ↓SXd, SXu, slBounds, ↓sop, ↓aop, ↓reduceIte, LV.cells, AOp.dst, LV.I, LV.B, LV.U, LV.S, LV.nil, Nat.reduceEqDiff, Nat.reduceAdd, Nat.reduceMul, Nat.reduceSub, Nat.reduceLeDiff, Nat.reduceBEq, Nat.reduceDiv, Nat.reduceMod, Int.reduceToNat, Int.reduceLT, Int.reduceLE, Int.reduceAdd, Int.reduceSub, Int.reduceMul, Int.reduceEq, Int.reduceNeg, reduceCtorEq, resV, resAll, ARes.ev, LV.flat, ite_true, ite_false, exists_eq_left', exists_eq_left, keyOf, implies_true, fillC, capOf]
    refine callK_of (g_CountRegions (T12.pre hp13) hcn5) ?_
    rw [hone, Option.getD_some]
    simp (disch := omega) only [f3, f4, f5, f6, f7, f8, f11, f15, f19, f20, f42, f44, f45, Option.isSome_some, Option.getD_some, e5.cells, e5.cell, hc1, hc2, ↓SXd, SXu, slBounds, ↓sop, ↓aop, ↓reduceIte, LV.cells, AOp.dst, LV.I, LV.B, LV.U, LV.S, LV.nil, Nat.reduceEqDiff, Nat.reduceAdd, Nat.reduceMul, Nat.reduceSub, Nat.reduceLeDiff, Nat.reduceBEq, Nat.reduceDiv, Nat.reduceMod, Int.reduceToNat, Int.reduceLT, Int.reduceLE, Int.reduceAdd, Int.reduceSub, Int.reduceMul, Int.reduceEq, Int.reduceNeg, reduceCtorEq, resV, resAll, ARes.ev, LV.flat, ite_true, ite_false, exists_eq_left', exists_eq_left, keyOf, implies_true, fillC, capOf]
  rintro fr M13 ⟨rfl, f3, f4, f5, f6, f7, f8, f11, f15, f19, f20⟩
  rcases hR : reachOf x y z cs p q with _ | rr
  · have hd : ¬ (0 ≤ tdOf x y z cs p q s) := fun e => by have := (reach_some e).1; rw [hR] at this; cases this
    rw [hR] at f19 f20
    simp (disch := omega) only [f3, f4, f5, f6, f7, f8, f11, f15, f19, f20, hd, Option.isSome_none, ↓SXd, SXu, slBounds, ↓sop, ↓aop, ↓reduceIte, LV.cells, AOp.dst, LV.I, LV.B, LV.U, LV.S, LV.nil, Nat.reduceEqDiff, Nat.reduceAdd, Nat.reduceMul, Nat.reduceSub, Nat.reduceLeDiff, Nat.reduceBEq, Nat.reduceDiv, Nat.reduceMod, Int.reduceToNat, Int.reduceLT, Int.reduceLE, Int.reduceAdd, Int.reduceSub, Int.reduceMul, Int.reduceEq, Int.reduceNeg, reduceCtorEq, resV, resAll, ARes.ev, LV.flat, ite_true, ite_false, exists_eq_left', exists_eq_left, keyOf, implies_true, fillC, capOf]
    rfl
  rw [hR] at f19 f20
  by_cases hd : 0 ≤ tdOf x y z cs p q s
  rotate_left
  · have hrs : ¬ ((rr : Int) ≤ s) := fun e => hd ((nearest_iff hR (by omega)).1 e)
    simp (disch := omega) only [f3, f4, f5, f6, f7, f8, f11, f15, f19, f20, hd, Option.isSome_some, Option.getD_some, hrs, beq_self_eq_true, Bool.not_true, ↓SXd, SXu, slBounds, ↓sop, ↓aop, ↓reduceIte, LV.cells, AOp.dst, LV.I, LV.B, LV.U, LV.S, LV.nil, Nat.reduceEqDiff, Nat.reduceAdd, Nat.reduceMul, Nat.reduceSub, Nat.reduceLeDiff, Nat.reduceBEq, Nat.reduceDiv, Nat.reduceMod, Int.reduceToNat, Int.reduceLT, Int.reduceLE, Int.reduceAdd, Int.reduceSub, Int.reduceMul, Int.reduceEq, Int.reduceNeg, reduceCtorEq, resV, resAll, ARes.ev, LV.flat, ite_true, ite_false, exists_eq_left', exists_eq_left, keyOf, implies_true, fillC, capOf]
    rfl
  have hs0 := (reach_some hd).2
  have hrs : (rr : Int) ≤ s := (nearest_iff hR hs0).2 hd
  obtain ⟨W, hWW⟩ : ∃ W, walkOf x y z cs p q s = some W := by
    have := hk1
    rw [decide_eq_true hd] at this
    exact Option.isSome_iff_exists.1 this
  obtain ⟨c, a, b, _, hC, hwc, hWl, ha, hcb, hW0, hWf⟩ := walk_law hWW
  rw [hWW, Option.getD_some] at hw312
  have hw13 := hw312.pre hp13
  have hWlen : W.length ≤ 1000 := by
    have := walkOf_len16 hWW
    omega
  rcases hw13 with ⟨rfl, e⟩ | ⟨tw, exw, rfl, hwl13⟩
  · rw [e] at hWl; simp at hWl; omega
  rw [intL_append] at hwl13
  have hI : Ints M13 tw 0 W := hwl13.hasL
  simp (disch := omega) only [f3, f4, f5, f6, f7, f8, f11, f15, f19, f20, hd, hrs, Option.isSome_some, Option.getD_some, beq_self_eq_true, Bool.not_true, (b312.pre hp13).cells, ↓SXd, SXu, slBounds, ↓sop, ↓aop, ↓reduceIte, LV.cells, AOp.dst, LV.I, LV.B, LV.U, LV.S, LV.nil, Nat.reduceEqDiff, Nat.reduceAdd, Nat.reduceMul, Nat.reduceSub, Nat.reduceLeDiff, Nat.reduceBEq, Nat.reduceDiv, Nat.reduceMod, Int.reduceToNat, Int.reduceLT, Int.reduceLE, Int.reduceAdd, Int.reduceSub, Int.reduceMul, Int.reduceEq, Int.reduceNeg, reduceCtorEq, resV, resAll, ARes.ev, LV.flat, ite_true, ite_false, exists_eq_left', exists_eq_left, keyOf, implies_true, fillC, capOf]
  refine callR_of (g_WalkClimb (T312.pre hp13) hcn hI hWlen) ?_
  rintro _ N14 ⟨rfl, hp14⟩
  have q1 := Ints.get (hI.pre hp14) (k := 0) (by omega)
  have q2 := Ints.get (hI.pre hp14) (k := (tdOf x y z cs p q s).toNat) (by omega)
  rw [Nat.zero_add] at q1 q2
  rw [hW0] at q1
  rw [hWf] at q2
  have hmx : max (tdOf x y z cs p q s) 0 = tdOf x y z cs p q s := by omega
  rw [hmx] at f11
  rw [hC, Option.getD_some] at f15
  rw [hwc]
  have hbc : b ≥ c := hcb
  have htd : (tdOf x y z cs p q s) = ((tdOf x y z cs p q s).toNat : Int) := by omega
  generalize (tdOf x y z cs p q s).toNat = td at htd q2
  rw [htd] at f11 hWl
  simp (disch := omega) only [f3, f4, f5, f6, f7, f8, f11, f15, f19, f20, hWl, Option.isSome_some, Option.getD_some, ha, hbc, q1, q2, Nat.mul_one, Nat.zero_add, Nat.zero_mul, ↓SXd, SXu, slBounds, ↓sop, ↓aop, ↓reduceIte, LV.cells, AOp.dst, LV.I, LV.B, LV.U, LV.S, LV.nil, Nat.reduceEqDiff, Nat.reduceAdd, Nat.reduceMul, Nat.reduceSub, Nat.reduceLeDiff, Nat.reduceBEq, Nat.reduceDiv, Nat.reduceMod, Int.reduceToNat, Int.reduceLT, Int.reduceLE, Int.reduceAdd, Int.reduceSub, Int.reduceMul, Int.reduceEq, Int.reduceNeg, reduceCtorEq, resV, resAll, ARes.ev, LV.flat, ite_true, ite_false, exists_eq_left', exists_eq_left, keyOf, implies_true, fillC, capOf]
  rfl
end Go.Ab

/- Bytes that came in, opened. -/
namespace Go.Ab
open Go Go.RowKit Go.Joins Go.ChangeShapes Go.WideShapes Go.Deep Go.WideElems Go.Maps

/-- What the abstract machine is told of a slice of bytes that came in. -/
def RowOfB (w : World) (a : Option Addr) (len cap : Nat) (xs : List Nat) : Prop :=
  xs.length = len ∧ len ≤ cap ∧ cap ≤ maxLen ∧ (∀ b ∈ xs, b ≤ 255) ∧ (cap = 0 ∨ ∃ b o c e fz, a = some ⟨b, o, none⟩ ∧ w.heap[b]? = some (.cells c e fz) ∧ ∀ i, i < len → c[o + i]? = some (.int .u8 ((xs.getD i 0 : Nat) : Int)))

section
variable {H : Type} {enc : TypeId × Value → H} {P : Program} {w : World} {held : Bool}
theorem open_bytesB {ts ti : TypeId} {fuel : Nat} {cs : List Value} {x : DataW H × List MemPlace} (hts : P.underlying ts = some (.slice ti)) (hti : P.underlying ti = some (.int .u8)) (hci : P.cellsOf ti = 1)
    (h : DataW.trod enc P w 0 (fun _ => true) held fuel ts cs = some x) : ∃ a len cap xs, cs = [.slice a len cap] ∧ RowOfB w a len cap xs := by
  rcases Go.ChangeShapes.open_ints hts hti hci h with ⟨rfl, _⟩ | ⟨a, len, cap, zs, rfl, _, hl, hm, hz, _, hel, hwf⟩
  · exact ⟨none, 0, 0, [], rfl, rfl, Nat.le_refl _, Nat.zero_le _, by simp, .inl rfl⟩
  · have hzl : zs.length = cap := by simpa using hz
    have hby : ∀ n ∈ zs, 0 ≤ n ∧ n ≤ 255 := fun n hn => by
      have h1 := hwf n hn
      unfold Lit.wf at h1
      rw [Bool.and_eq_true, decide_eq_true_iff, decide_eq_true_iff] at h1
      exact h1
    refine ⟨some a, len, cap, (zs.take len).map Int.toNat, rfl, by simp; omega, hl, hm, fun b hb => ?_, ?_⟩
    · obtain ⟨n, hn, rfl⟩ := List.mem_map.1 hb
      have := hby n (List.mem_of_mem_take hn)
      omega
    rcases Nat.eq_zero_or_pos cap with h0 | h0
    · exact .inl h0
    · refine .inr ?_
      have hc0 := hel 0 (by omega)
      obtain ⟨b, o, c, e, fz, ha, hh, _⟩ := cell_heap hc0
      have ha' : a = ⟨b, o, none⟩ := by simpa [Addr.add] using ha
      subst ha'
      refine ⟨b, o, c, e, fz, rfl, hh, fun i hi => ?_⟩
      have hcell := hel i (by omega)
      have hadd : (⟨b, o, none⟩ : Addr).add i = ⟨b, o + i, none⟩ := addr_add _ _ _
      rw [hadd] at hcell
      unfold World.cell? at hcell
      simp only [hh] at hcell
      have hil : i < zs.length := by omega
      have hbi := hby _ (getD_mem' (d := 0) hil)
      have hg : ((((zs.take len).map Int.toNat).getD i 0 : Nat) : Int) = zs.getD i 0 := by
        have e1 : ((zs.take len).map Int.toNat).getD i 0 = (zs.getD i 0).toNat := by simp [hi, hil]
        rw [e1]; omega
      rw [hg]
      simpa using hcell
end
theorem byL_get {bs : List Nat} {i : Nat} (h : i < bs.length) : (byL bs)[i]? = some (.val (.int .u8 ((bs.getD i 0 : Nat) : Int))) := by simp [byL, h]
theorem Inv.addBytes' {G : Gh} {M : Mem} {w : World} (hi : Inv G M w) (hno : NoOwn M) {a : Option Addr} {len cap : Nat} {xs : List Nat} (h : RowOfB w a len cap xs) :
    ∃ (G' : Gh) (N : Mem) (t : Nat), Ext G G' ∧ Inv G' N w ∧ NoOwn N ∧ Pre M N ∧ VR1 G' (.ref t 0 len) (.slice a len cap) ∧ Bytes N t 0 xs := by
  obtain ⟨h1, h2, h3, _, h4⟩ := h
  have key : ∃ G', Ext G G' ∧ Inv G' (M ++ [some (.row (byL xs) false 1)]) w ∧ NoOwn (M ++ [some (.row (byL xs) false 1)]) ∧ VR1 G' (.ref M.length 0 len) (.slice a len cap) := by
    refine hi.addRow hno h2 (by rw [byL_len]; omega) ?_
    rcases h4 with h0 | ⟨b, o, c, e, fz, ha, hh, hc⟩
    · refine .inl ⟨h0, ?_⟩
      have : xs = [] := List.eq_nil_of_length_eq_zero (by omega)
      rw [this]; rfl
    · refine .inr ⟨b, o, c, e, fz, ha, hh, fun j l hj => ?_⟩
      have hjl : j < xs.length := by
        rw [← byL_len]
        rcases Nat.lt_or_ge j (byL xs).length with h | h
        · exact h
        · rw [List.getElem?_eq_none h] at hj; cases hj
      rw [byL_get hjl] at hj
      cases hj
      exact ⟨_, hc j (by omega), rfl, rfl⟩
  obtain ⟨G', k1, k2, k3, k4⟩ := key
  exact ⟨G', _, _, k1, k2, k3, Pre.app _ _, k4, Has.new⟩
theorem RowOfB.le {w : World} {a : Option Addr} {len cap : Nat} {xs : List Nat} (h : RowOfB w a len cap xs) : xs.length ≤ 9223372036854775807 ∧ ∀ b ∈ xs, b ≤ 255 := by
  obtain ⟨h0, h1, h2, h3, _⟩ := h
  have := max63
  exact ⟨by omega, h3⟩
end Go.Ab
