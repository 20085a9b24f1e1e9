/- Parts of the proof of FnSightsSaid: LFnSights Re. -/
import Derived.Test.YthgljdbfkojpeaaA4
import Derived.Test.YthgljdbfkojpeaaA6
import Derived.Test.YthgljdbfkojpeaaA8
import Derived.Test.YthgljdbfkojpeaaA9
import Derived.Test.YthgljdbfkojpeaaA10
set_option linter.all false
/- The law of sights. -/
namespace Go.Ab
open Go
set_option linter.unusedSimpArgs false
set_option linter.unusedVariables false
set_option maxRecDepth 20000

theorem lv_sum : ∀ (ts : List Int) (v : List Int), (∀ h ∈ ts, 0 ≤ h ∧ h.toNat < v.length) → litSum (ts.foldl lvStep v) = litSum v + ts.length
  | [], v, _ => by simp
  | a :: l, v, h => by
    rw [List.foldl_cons, lv_sum l _ fun b hb => by unfold lvStep; rw [List.length_set]; exact h b (by simp [hb])]
    unfold lvStep
    rw [litSum_set (h a (by simp)).2]
    simp only [List.length_cons]
    omega
def HeapGL (M : Mem) (G : Hp) (b : Bool) (v : LV) (N : Mem) : Prop := ∃ u : Nat, v = .tup [.agg [.I G.x, .I G.y, .I G.z, .ref u 0 G.cs.length], .B b] ∧ Live N u (.row (triL G.cs) true 3) ∧ Pre M N
theorem heapGL_eq {f : FuncId} {args : List LV} {M : Mem} {r : Option Hp} {G : Hp} {b : Bool} (h : CallsR PG f args M (HeapX M r)) (h1 : r.getD Hp.none = G) (h2 : r.isSome = b) : CallsR PG f args M (HeapGL M G b) := by
  subst h1 h2
  exact h
theorem flat_facts (x y z : Int) (cs : List Cell) (d : Int) (k : Bool) : ∃ (L K : List Int) (f : Bool), sgtOf x y z cs d k = L ∧ skyOf x y z cs d = K ∧ flatB x y z cs d = f ∧ L.length ≤ 1000 ∧ K.length ≤ 1000 ∧ (f = true → FlatOK x y z cs d ∧ L = sgtL x y d.toNat k (topsOf x y cs) (lnM x y d.toNat) ∧ K = skyL x y d.toNat (topsOf x y cs) (lnM x y d.toNat)) := by
  refine ⟨_, _, _, rfl, rfl, rfl, ?_⟩
  by_cases hF : FlatOK x y z cs d
  · rw [show sgtOf x y z cs d k = sgtL x y d.toNat k (topsOf x y cs) (lnM x y d.toNat) from if_pos hF, show skyOf x y z cs d = skyL x y d.toNat (topsOf x y cs) (lnM x y d.toNat) from if_pos hF, sgtL_len, skyL_len]
    have := (ln_side (dir := d.toNat) hF.1.1 (by have := hF.2; omega)).2.2.1
    exact ⟨by omega, by omega, fun _ => ⟨hF, rfl, rfl⟩⟩
  · rw [show sgtOf x y z cs d k = [] from if_neg hF, show skyOf x y z cs d = [] from if_neg hF]
    exact ⟨by simp, by simp, fun hf => (hF (of_decide_eq_true hf)).elim⟩
theorem peak_facts (x y z : Int) (cs : List Cell) : ∃ (P V : List Int) (b : Bool), peaksOf x y z cs = P ∧ lvsOf x y z cs = V ∧ okB x y z cs = b ∧ decide (HeapOK x y z cs) = b ∧ P.length ≤ 1000 ∧ V.length ≤ 1000 ∧ (b = true → HeapOK x y z cs ∧ P = peakL x y (topsOf x y cs) (x * y).toNat ∧ V = lvL z (topsOf x y cs)) := by
  refine ⟨_, _, _, rfl, rfl, rfl, rfl, ?_⟩
  by_cases hH : HeapOK x y z cs
  · rw [show peaksOf x y z cs = peakL x y (topsOf x y cs) (x * y).toNat from if_pos hH, show lvsOf x y z cs = lvL z (topsOf x y cs) from if_pos hH]
    have := peakL_len (x := x) (y := y) (ts := topsOf x y cs) (n := (x * y).toNat)
    have hb := mul_bound hH.1.1 hH.1.2.1
    have hz := hH.1.2.2
    exact ⟨by omega, by unfold lvL; rw [lv_len, List.length_replicate]; omega, fun _ => ⟨hH, rfl, rfl⟩⟩
  · rw [show peaksOf x y z cs = [] from if_neg hH, show lvsOf x y z cs = [] from if_neg hH]
    exact ⟨by simp, by simp, fun hf => (hH (of_decide_eq_true hf)).elim⟩
set_option maxHeartbeats 1000000 in
theorem l_FnSights {t : Nat} {bs : List Nat} {M : Mem} (h : Bytes M t 0 bs) (hn : bs.length ≤ 9223372036854775807 ∧ ∀ b ∈ bs, b ≤ 255) :
    CallsR PG F.laws_FnSights [.ref t 0 bs.length] M fun v _ => v = .B true := by
  have htM := h.lt
  refine callsR_run K.laws_FnSights rfl ?_
  simp (disch := omega) only [C.laws_FnSights, ↓SXd, SXu, slBounds, ↓sop, ↓aop, ↓reduceIte, LV.cells, AOp.dst, LV.I, LV.B, LV.U, LV.S, LV.nil, Nat.reduceEqDiff, Nat.reduceAdd, Nat.reduceMul, Nat.reduceSub, Nat.reduceLeDiff, Nat.reduceBEq, Nat.reduceDiv, Nat.reduceMod, Int.reduceToNat, Int.reduceLT, Int.reduceLE, Int.reduceAdd, Int.reduceSub, Int.reduceMul, Int.reduceEq, Int.reduceNeg, reduceCtorEq, resV, resAll, ARes.ev, LV.flat, ite_true, ite_false, exists_eq_left', exists_eq_left, keyOf, implies_true, fillC, capOf]
  refine callK_of (k_rBig hn.1) ?_
  simp (disch := omega) only [↓SXd, SXu, slBounds, ↓sop, ↓aop, ↓reduceIte, LV.cells, AOp.dst, LV.I, LV.B, LV.U, LV.S, LV.nil, Nat.reduceEqDiff, Nat.reduceAdd, Nat.reduceMul, Nat.reduceSub, Nat.reduceLeDiff, Nat.reduceBEq, Nat.reduceDiv, Nat.reduceMod, Int.reduceToNat, Int.reduceLT, Int.reduceLE, Int.reduceAdd, Int.reduceSub, Int.reduceMul, Int.reduceEq, Int.reduceNeg, reduceCtorEq, resV, resAll, ARes.ev, LV.flat, ite_true, ite_false, exists_eq_left', exists_eq_left, keyOf, implies_true, fillC, capOf]
  by_cases hbig : (65536 : Int) < (bs.length : Nat)
  · simp (disch := omega) only [hbig, ↓SXd, SXu, slBounds, ↓sop, ↓aop, ↓reduceIte, LV.cells, AOp.dst, LV.I, LV.B, LV.U, LV.S, LV.nil, Nat.reduceEqDiff, Nat.reduceAdd, Nat.reduceMul, Nat.reduceSub, Nat.reduceLeDiff, Nat.reduceBEq, Nat.reduceDiv, Nat.reduceMod, Int.reduceToNat, Int.reduceLT, Int.reduceLE, Int.reduceAdd, Int.reduceSub, Int.reduceMul, Int.reduceEq, Int.reduceNeg, reduceCtorEq, resV, resAll, ARes.ev, LV.flat, ite_true, ite_false, exists_eq_left', exists_eq_left, keyOf, implies_true, fillC, capOf]
    rfl
  have hl : bs.length ≤ 1000000000 := by omega
  simp (disch := omega) only [hbig, ↓SXd, SXu, slBounds, ↓sop, ↓aop, ↓reduceIte, LV.cells, AOp.dst, LV.I, LV.B, LV.U, LV.S, LV.nil, Nat.reduceEqDiff, Nat.reduceAdd, Nat.reduceMul, Nat.reduceSub, Nat.reduceLeDiff, Nat.reduceBEq, Nat.reduceDiv, Nat.reduceMod, Int.reduceToNat, Int.reduceLT, Int.reduceLE, Int.reduceAdd, Int.reduceSub, Int.reduceMul, Int.reduceEq, Int.reduceNeg, reduceCtorEq, resV, resAll, ARes.ev, LV.flat, ite_true, ite_false, exists_eq_left', exists_eq_left, keyOf, implies_true, fillC, capOf]
  refine callR_of (d_DrawSightsOf h hn.2 hl) ?_
  rintro _ N1 ⟨⟨_, d, bk, rfl, x, y, z, cs, u, rfl, hu, hul, hcl⟩, hp1⟩
  have hcn : cs.length ≤ 1000000000 := by omega
  obtain ⟨L, K, f, eL, eK, ef, lL, lK, hV⟩ := flat_facts x y z cs d bk
  have B3 : Live (N1 ++ [some (.row [.I x, .I y, .I z, .ref u 0 cs.length] true 0)]) N1.length (.row [.I x, .I y, .I z, .ref u 0 cs.length] true 0) := Live.new
  have U := hu.app (L := [some (.row [.I x, .I y, .I z, .ref u 0 cs.length] true 0)])
  have q1 : Pre M (N1 ++ [some (.row [.I x, .I y, .I z, .ref u 0 cs.length] true 0)]) := hp1.trans (Pre.app _ _)
  simp (disch := omega) only [splice, ↓SXd, SXu, slBounds, ↓sop, ↓aop, ↓reduceIte, LV.cells, AOp.dst, LV.I, LV.B, LV.U, LV.S, LV.nil, Nat.reduceEqDiff, Nat.reduceAdd, Nat.reduceMul, Nat.reduceSub, Nat.reduceLeDiff, Nat.reduceBEq, Nat.reduceDiv, Nat.reduceMod, Int.reduceToNat, Int.reduceLT, Int.reduceLE, Int.reduceAdd, Int.reduceSub, Int.reduceMul, Int.reduceEq, Int.reduceNeg, reduceCtorEq, resV, resAll, ARes.ev, LV.flat, ite_true, ite_false, exists_eq_left', exists_eq_left, keyOf, implies_true, fillC, capOf]
  generalize hm3 : N1.length = m3 at B3 ⊢
  generalize N1 ++ [some (Blk.row [.I x, .I y, .I z, .ref u 0 cs.length] true 0)] = W1 at B3 U q1 ⊢
  refine callR_of (g_SightsOf U.has hcn (d := d) (b := bk)) ?_
  rw [eL, ef]
  rintro _ W2 ⟨w6, rfl, Iw6, hp2⟩
  simp (disch := omega) only [(B3.pre (hp2)).cells, ↓SXd, SXu, slBounds, ↓sop, ↓aop, ↓reduceIte, LV.cells, AOp.dst, LV.I, LV.B, LV.U, LV.S, LV.nil, Nat.reduceEqDiff, Nat.reduceAdd, Nat.reduceMul, Nat.reduceSub, Nat.reduceLeDiff, Nat.reduceBEq, Nat.reduceDiv, Nat.reduceMod, Int.reduceToNat, Int.reduceLT, Int.reduceLE, Int.reduceAdd, Int.reduceSub, Int.reduceMul, Int.reduceEq, Int.reduceNeg, reduceCtorEq, resV, resAll, ARes.ev, LV.flat, ite_true, ite_false, exists_eq_left', exists_eq_left, keyOf, implies_true, fillC, capOf]
  refine callR_of (h_sSightsOf (U.pre (hp2)).has hcn (d := d) (b := bk)) ?_
  rw [eL, ef]
  rintro _ W3 ⟨w8, rfl, Iw8, hp3⟩
  simp (disch := omega) only [beq_self_eq_true, Bool.not_true, ↓SXd, SXu, slBounds, ↓sop, ↓aop, ↓reduceIte, LV.cells, AOp.dst, LV.I, LV.B, LV.U, LV.S, LV.nil, Nat.reduceEqDiff, Nat.reduceAdd, Nat.reduceMul, Nat.reduceSub, Nat.reduceLeDiff, Nat.reduceBEq, Nat.reduceDiv, Nat.reduceMod, Int.reduceToNat, Int.reduceLT, Int.reduceLE, Int.reduceAdd, Int.reduceSub, Int.reduceMul, Int.reduceEq, Int.reduceNeg, reduceCtorEq, resV, resAll, ARes.ev, LV.flat, ite_true, ite_false, exists_eq_left', exists_eq_left, keyOf, implies_true, fillC, capOf]
  refine callK_of (k_rInts (Iw6.pre (hp3)) Iw8 (by omega)) ?_
  refine put_cut (fun fr' M' => M' = W3 ∧ fr' 0 = .ref t 0 bs.length ∧ fr' 3 = .ptr m3 0 ∧ fr' 4 = .I d ∧ fr' 5 = .B bk ∧ fr' 6 = w6 ∧ fr' 7 = .B f) ?_ ?_
  · simp (disch := omega) only [beq_self_eq_true, Bool.not_true, ↓SXd, SXu, slBounds, ↓sop, ↓aop, ↓reduceIte, LV.cells, AOp.dst, LV.I, LV.B, LV.U, LV.S, LV.nil, Nat.reduceEqDiff, Nat.reduceAdd, Nat.reduceMul, Nat.reduceSub, Nat.reduceLeDiff, Nat.reduceBEq, Nat.reduceDiv, Nat.reduceMod, Int.reduceToNat, Int.reduceLT, Int.reduceLE, Int.reduceAdd, Int.reduceSub, Int.reduceMul, Int.reduceEq, Int.reduceNeg, reduceCtorEq, resV, resAll, ARes.ev, LV.flat, ite_true, ite_false, exists_eq_left', exists_eq_left, keyOf, implies_true, fillC, capOf]
    all_goals exact ⟨rfl, by first | rfl | assumption, by first | rfl | assumption, by first | rfl | assumption, by first | rfl | assumption, by first | rfl | assumption, by first | rfl | assumption⟩
  rintro fr W3 ⟨rfl, f0, f3, f4, f5, f6, f7⟩
  simp (disch := omega) only [f0, f3, f4, f5, f6, f7, (B3.pre (hp2.trans (hp3))).cells, ↓SXd, SXu, slBounds, ↓sop, ↓aop, ↓reduceIte, LV.cells, AOp.dst, LV.I, LV.B, LV.U, LV.S, LV.nil, Nat.reduceEqDiff, Nat.reduceAdd, Nat.reduceMul, Nat.reduceSub, Nat.reduceLeDiff, Nat.reduceBEq, Nat.reduceDiv, Nat.reduceMod, Int.reduceToNat, Int.reduceLT, Int.reduceLE, Int.reduceAdd, Int.reduceSub, Int.reduceMul, Int.reduceEq, Int.reduceNeg, reduceCtorEq, resV, resAll, ARes.ev, LV.flat, ite_true, ite_false, exists_eq_left', exists_eq_left, keyOf, implies_true, fillC, capOf]
  refine callR_of (g_SkyLine (U.pre (hp2.trans (hp3))).has hcn (d := d)) ?_
  rw [eK, ef]
  rintro _ W4 ⟨w10, rfl, Iw10, hp4⟩
  simp (disch := omega) only [f0, f3, f4, f5, f6, f7, (B3.pre (hp2.trans (hp3.trans (hp4)))).cells, ↓SXd, SXu, slBounds, ↓sop, ↓aop, ↓reduceIte, LV.cells, AOp.dst, LV.I, LV.B, LV.U, LV.S, LV.nil, Nat.reduceEqDiff, Nat.reduceAdd, Nat.reduceMul, Nat.reduceSub, Nat.reduceLeDiff, Nat.reduceBEq, Nat.reduceDiv, Nat.reduceMod, Int.reduceToNat, Int.reduceLT, Int.reduceLE, Int.reduceAdd, Int.reduceSub, Int.reduceMul, Int.reduceEq, Int.reduceNeg, reduceCtorEq, resV, resAll, ARes.ev, LV.flat, ite_true, ite_false, exists_eq_left', exists_eq_left, keyOf, implies_true, fillC, capOf]
  refine callR_of (h_sSkyLine (U.pre (hp2.trans (hp3.trans (hp4)))).has hcn (d := d)) ?_
  rw [eK, ef]
  rintro _ W5 ⟨w12, rfl, Iw12, hp5⟩
  simp (disch := omega) only [f0, f3, f4, f5, f6, f7, beq_self_eq_true, Bool.not_true, ↓SXd, SXu, slBounds, ↓sop, ↓aop, ↓reduceIte, LV.cells, AOp.dst, LV.I, LV.B, LV.U, LV.S, LV.nil, Nat.reduceEqDiff, Nat.reduceAdd, Nat.reduceMul, Nat.reduceSub, Nat.reduceLeDiff, Nat.reduceBEq, Nat.reduceDiv, Nat.reduceMod, Int.reduceToNat, Int.reduceLT, Int.reduceLE, Int.reduceAdd, Int.reduceSub, Int.reduceMul, Int.reduceEq, Int.reduceNeg, reduceCtorEq, resV, resAll, ARes.ev, LV.flat, ite_true, ite_false, exists_eq_left', exists_eq_left, keyOf, implies_true, fillC, capOf]
  refine callK_of (k_rInts (Iw10.pre (hp5)) Iw12 (by omega)) ?_
  refine put_cut (fun fr' M' => M' = W5 ∧ fr' 0 = .ref t 0 bs.length ∧ fr' 3 = .ptr m3 0 ∧ fr' 4 = .I d ∧ fr' 5 = .B bk ∧ fr' 6 = w6 ∧ fr' 7 = .B f ∧ fr' 10 = w10) ?_ ?_
  · simp (disch := omega) only [f0, f3, f4, f5, f6, f7, beq_self_eq_true, Bool.not_true, ↓SXd, SXu, slBounds, ↓sop, ↓aop, ↓reduceIte, LV.cells, AOp.dst, LV.I, LV.B, LV.U, LV.S, LV.nil, Nat.reduceEqDiff, Nat.reduceAdd, Nat.reduceMul, Nat.reduceSub, Nat.reduceLeDiff, Nat.reduceBEq, Nat.reduceDiv, Nat.reduceMod, Int.reduceToNat, Int.reduceLT, Int.reduceLE, Int.reduceAdd, Int.reduceSub, Int.reduceMul, Int.reduceEq, Int.reduceNeg, reduceCtorEq, resV, resAll, ARes.ev, LV.flat, ite_true, ite_false, exists_eq_left', exists_eq_left, keyOf, implies_true, fillC, capOf]
    all_goals exact ⟨rfl, by first | rfl | assumption, by first | rfl | assumption, by first | rfl | assumption, by first | rfl | assumption, by first | rfl | assumption, by first | rfl | assumption, by first | rfl | assumption⟩
  clear f0 f3 f4 f5 f6 f7
  rintro fr W5 ⟨rfl, f0, f3, f4, f5, f6, f7, f10⟩
  simp (disch := omega) only [f0, f3, f4, f5, f6, f7, f10, ↓SXd, SXu, slBounds, ↓sop, ↓aop, ↓reduceIte, LV.cells, AOp.dst, LV.I, LV.B, LV.U, LV.S, LV.nil, Nat.reduceEqDiff, Nat.reduceAdd, Nat.reduceMul, Nat.reduceSub, Nat.reduceLeDiff, Nat.reduceBEq, Nat.reduceDiv, Nat.reduceMod, Int.reduceToNat, Int.reduceLT, Int.reduceLE, Int.reduceAdd, Int.reduceSub, Int.reduceMul, Int.reduceEq, Int.reduceNeg, reduceCtorEq, resV, resAll, ARes.ev, LV.flat, ite_true, ite_false, exists_eq_left', exists_eq_left, keyOf, implies_true, fillC, capOf]
  refine callR_of (d_DrawPeaksOf (h.pre (q1.trans (hp2.trans (hp3.trans (hp4.trans (hp5)))))) hn.2 hl) ?_
  rintro _ N6 ⟨⟨x2, y2, z2, cs2, u2, rfl, hu2, _, hcl2⟩, hp6⟩
  have hcn2 : cs2.length ≤ 1000000000 := by omega
  obtain ⟨P, V, b2, eP, eV, eb2, ed2, lP, lV, hP2⟩ := peak_facts x2 y2 z2 cs2
  have B14 : Live (N6 ++ [some (.row [.I x2, .I y2, .I z2, .ref u2 0 cs2.length] true 0)]) N6.length (.row [.I x2, .I y2, .I z2, .ref u2 0 cs2.length] true 0) := Live.new
  have U2 := hu2.app (L := [some (.row [.I x2, .I y2, .I z2, .ref u2 0 cs2.length] true 0)])
  have q6 : Pre W5 (N6 ++ [some (.row [.I x2, .I y2, .I z2, .ref u2 0 cs2.length] true 0)]) := hp6.trans (Pre.app _ _)
  simp (disch := omega) only [f0, f3, f4, f5, f6, f7, f10, splice, ↓SXd, SXu, slBounds, ↓sop, ↓aop, ↓reduceIte, LV.cells, AOp.dst, LV.I, LV.B, LV.U, LV.S, LV.nil, Nat.reduceEqDiff, Nat.reduceAdd, Nat.reduceMul, Nat.reduceSub, Nat.reduceLeDiff, Nat.reduceBEq, Nat.reduceDiv, Nat.reduceMod, Int.reduceToNat, Int.reduceLT, Int.reduceLE, Int.reduceAdd, Int.reduceSub, Int.reduceMul, Int.reduceEq, Int.reduceNeg, reduceCtorEq, resV, resAll, ARes.ev, LV.flat, ite_true, ite_false, exists_eq_left', exists_eq_left, keyOf, implies_true, fillC, capOf]
  generalize hm14 : N6.length = m14 at B14 ⊢
  generalize N6 ++ [some (Blk.row [.I x2, .I y2, .I z2, .ref u2 0 cs2.length] true 0)] = W6 at B14 U2 q6 ⊢
  refine callR_of (g_PeaksOf U2.has hcn2) ?_
  rw [eP, eb2]
  rintro _ W7 ⟨w15, rfl, Iw15, hp7⟩
  simp (disch := omega) only [f0, f3, f4, f5, f6, f7, f10, (B14.pre (hp7)).cells, ↓SXd, SXu, slBounds, ↓sop, ↓aop, ↓reduceIte, LV.cells, AOp.dst, LV.I, LV.B, LV.U, LV.S, LV.nil, Nat.reduceEqDiff, Nat.reduceAdd, Nat.reduceMul, Nat.reduceSub, Nat.reduceLeDiff, Nat.reduceBEq, Nat.reduceDiv, Nat.reduceMod, Int.reduceToNat, Int.reduceLT, Int.reduceLE, Int.reduceAdd, Int.reduceSub, Int.reduceMul, Int.reduceEq, Int.reduceNeg, reduceCtorEq, resV, resAll, ARes.ev, LV.flat, ite_true, ite_false, exists_eq_left', exists_eq_left, keyOf, implies_true, fillC, capOf]
  refine callR_of (h_sPeaksOf (U2.pre (hp7)).has hcn2) ?_
  rw [eP, eb2]
  rintro _ W8 ⟨w17, rfl, Iw17, hp8⟩
  simp (disch := omega) only [f0, f3, f4, f5, f6, f7, f10, (B14.pre (hp7.trans (hp8))).cells, beq_self_eq_true, Bool.not_true, ↓SXd, SXu, slBounds, ↓sop, ↓aop, ↓reduceIte, LV.cells, AOp.dst, LV.I, LV.B, LV.U, LV.S, LV.nil, Nat.reduceEqDiff, Nat.reduceAdd, Nat.reduceMul, Nat.reduceSub, Nat.reduceLeDiff, Nat.reduceBEq, Nat.reduceDiv, Nat.reduceMod, Int.reduceToNat, Int.reduceLT, Int.reduceLE, Int.reduceAdd, Int.reduceSub, Int.reduceMul, Int.reduceEq, Int.reduceNeg, reduceCtorEq, resV, resAll, ARes.ev, LV.flat, ite_true, ite_false, exists_eq_left', exists_eq_left, keyOf, implies_true, fillC, capOf]
  have hIs := g_IsHeap (M := W8) (x := x2) (y := y2) (z := z2) (U2.pre (hp7.trans (hp8))).has hcn2
  rw [ed2] at hIs
  refine callK_of hIs ?_
  simp (disch := omega) only [f0, f3, f4, f5, f6, f7, f10, beq_self_eq_true, Bool.not_true, ↓SXd, SXu, slBounds, ↓sop, ↓aop, ↓reduceIte, LV.cells, AOp.dst, LV.I, LV.B, LV.U, LV.S, LV.nil, Nat.reduceEqDiff, Nat.reduceAdd, Nat.reduceMul, Nat.reduceSub, Nat.reduceLeDiff, Nat.reduceBEq, Nat.reduceDiv, Nat.reduceMod, Int.reduceToNat, Int.reduceLT, Int.reduceLE, Int.reduceAdd, Int.reduceSub, Int.reduceMul, Int.reduceEq, Int.reduceNeg, reduceCtorEq, resV, resAll, ARes.ev, LV.flat, ite_true, ite_false, exists_eq_left', exists_eq_left, keyOf, implies_true, fillC, capOf]
  refine callK_of (k_rInts (Iw15.pre (hp8)) Iw17 (by omega)) ?_
  refine put_cut (fun fr' M' => M' = W8 ∧ fr' 0 = .ref t 0 bs.length ∧ fr' 3 = .ptr m3 0 ∧ fr' 4 = .I d ∧ fr' 5 = .B bk ∧ fr' 6 = w6 ∧ fr' 7 = .B f ∧ fr' 10 = w10 ∧ fr' 14 = .ptr m14 0 ∧ fr' 15 = w15 ∧ fr' 16 = .B b2) ?_ ?_
  · simp (disch := omega) only [f0, f3, f4, f5, f6, f7, f10, beq_self_eq_true, Bool.not_true, ↓SXd, SXu, slBounds, ↓sop, ↓aop, ↓reduceIte, LV.cells, AOp.dst, LV.I, LV.B, LV.U, LV.S, LV.nil, Nat.reduceEqDiff, Nat.reduceAdd, Nat.reduceMul, Nat.reduceSub, Nat.reduceLeDiff, Nat.reduceBEq, Nat.reduceDiv, Nat.reduceMod, Int.reduceToNat, Int.reduceLT, Int.reduceLE, Int.reduceAdd, Int.reduceSub, Int.reduceMul, Int.reduceEq, Int.reduceNeg, reduceCtorEq, resV, resAll, ARes.ev, LV.flat, ite_true, ite_false, exists_eq_left', exists_eq_left, keyOf, implies_true, fillC, capOf]
    all_goals exact ⟨rfl, by first | rfl | assumption, by first | rfl | assumption, by first | rfl | assumption, by first | rfl | assumption, by first | rfl | assumption, by first | rfl | assumption, by first | rfl | assumption, by first | rfl | assumption, by first | rfl | assumption, by first | rfl | assumption⟩
  clear f0 f3 f4 f5 f6 f7 f10
  rintro fr W8 ⟨rfl, f0, f3, f4, f5, f6, f7, f10, f14, f15, f16⟩
  simp (disch := omega) only [f0, f3, f4, f5, f6, f7, f10, f14, f15, f16, (B14.pre (hp7.trans (hp8))).cells, ↓SXd, SXu, slBounds, ↓sop, ↓aop, ↓reduceIte, LV.cells, AOp.dst, LV.I, LV.B, LV.U, LV.S, LV.nil, Nat.reduceEqDiff, Nat.reduceAdd, Nat.reduceMul, Nat.reduceSub, Nat.reduceLeDiff, Nat.reduceBEq, Nat.reduceDiv, Nat.reduceMod, Int.reduceToNat, Int.reduceLT, Int.reduceLE, Int.reduceAdd, Int.reduceSub, Int.reduceMul, Int.reduceEq, Int.reduceNeg, reduceCtorEq, resV, resAll, ARes.ev, LV.flat, ite_true, ite_false, exists_eq_left', exists_eq_left, keyOf, implies_true, fillC, capOf]
  refine callR_of (g_LevelCounts (U2.pre (hp7.trans (hp8))).has hcn2) ?_
  rw [eV, eb2]
  rintro _ W9 ⟨w19, rfl, Iw19, hp9⟩
  simp (disch := omega) only [f0, f3, f4, f5, f6, f7, f10, f14, f15, f16, (B14.pre (hp7.trans (hp8.trans (hp9)))).cells, ↓SXd, SXu, slBounds, ↓sop, ↓aop, ↓reduceIte, LV.cells, AOp.dst, LV.I, LV.B, LV.U, LV.S, LV.nil, Nat.reduceEqDiff, Nat.reduceAdd, Nat.reduceMul, Nat.reduceSub, Nat.reduceLeDiff, Nat.reduceBEq, Nat.reduceDiv, Nat.reduceMod, Int.reduceToNat, Int.reduceLT, Int.reduceLE, Int.reduceAdd, Int.reduceSub, Int.reduceMul, Int.reduceEq, Int.reduceNeg, reduceCtorEq, resV, resAll, ARes.ev, LV.flat, ite_true, ite_false, exists_eq_left', exists_eq_left, keyOf, implies_true, fillC, capOf]
  refine callR_of (h_sLevelCounts (U2.pre (hp7.trans (hp8.trans (hp9)))).has hcn2) ?_
  rw [eV, eb2]
  rintro _ W10 ⟨w21, rfl, Iw21, hp10⟩
  simp (disch := omega) only [f0, f3, f4, f5, f6, f7, f10, f14, f15, f16, beq_self_eq_true, Bool.not_true, ↓SXd, SXu, slBounds, ↓sop, ↓aop, ↓reduceIte, LV.cells, AOp.dst, LV.I, LV.B, LV.U, LV.S, LV.nil, Nat.reduceEqDiff, Nat.reduceAdd, Nat.reduceMul, Nat.reduceSub, Nat.reduceLeDiff, Nat.reduceBEq, Nat.reduceDiv, Nat.reduceMod, Int.reduceToNat, Int.reduceLT, Int.reduceLE, Int.reduceAdd, Int.reduceSub, Int.reduceMul, Int.reduceEq, Int.reduceNeg, reduceCtorEq, resV, resAll, ARes.ev, LV.flat, ite_true, ite_false, exists_eq_left', exists_eq_left, keyOf, implies_true, fillC, capOf]
  refine callK_of (k_rInts (Iw19.pre (hp10)) Iw21 (by omega)) ?_
  refine put_cut (fun fr' M' => M' = W10 ∧ fr' 0 = .ref t 0 bs.length ∧ fr' 3 = .ptr m3 0 ∧ fr' 4 = .I d ∧ fr' 5 = .B bk ∧ fr' 6 = w6 ∧ fr' 7 = .B f ∧ fr' 10 = w10 ∧ fr' 14 = .ptr m14 0 ∧ fr' 15 = w15 ∧ fr' 16 = .B b2 ∧ fr' 19 = w19) ?_ ?_
  · simp (disch := omega) only [f0, f3, f4, f5, f6, f7, f10, f14, f15, f16, beq_self_eq_true, Bool.not_true, ↓SXd, SXu, slBounds, ↓sop, ↓aop, ↓reduceIte, LV.cells, AOp.dst, LV.I, LV.B, LV.U, LV.S, LV.nil, Nat.reduceEqDiff, Nat.reduceAdd, Nat.reduceMul, Nat.reduceSub, Nat.reduceLeDiff, Nat.reduceBEq, Nat.reduceDiv, Nat.reduceMod, Int.reduceToNat, Int.reduceLT, Int.reduceLE, Int.reduceAdd, Int.reduceSub, Int.reduceMul, Int.reduceEq, Int.reduceNeg, reduceCtorEq, resV, resAll, ARes.ev, LV.flat, ite_true, ite_false, exists_eq_left', exists_eq_left, keyOf, implies_true, fillC, capOf]
    all_goals exact ⟨rfl, by first | rfl | assumption, by first | rfl | assumption, by first | rfl | assumption, by first | rfl | assumption, by first | rfl | assumption, by first | rfl | assumption, by first | rfl | assumption, by first | rfl | assumption, by first | rfl | assumption, by first | rfl | assumption, by first | rfl | assumption⟩
  clear f0 f3 f4 f5 f6 f7 f10 f14 f15 f16
  rintro fr W10 ⟨rfl, f0, f3, f4, f5, f6, f7, f10, f14, f15, f16, f19⟩
  simp (disch := omega) only [f0, f3, f4, f5, f6, f7, f10, f14, f15, f16, f19, ↓SXd, SXu, slBounds, ↓sop, ↓aop, ↓reduceIte, LV.cells, AOp.dst, LV.I, LV.B, LV.U, LV.S, LV.nil, Nat.reduceEqDiff, Nat.reduceAdd, Nat.reduceMul, Nat.reduceSub, Nat.reduceLeDiff, Nat.reduceBEq, Nat.reduceDiv, Nat.reduceMod, Int.reduceToNat, Int.reduceLT, Int.reduceLE, Int.reduceAdd, Int.reduceSub, Int.reduceMul, Int.reduceEq, Int.reduceNeg, reduceCtorEq, resV, resAll, ARes.ev, LV.flat, ite_true, ite_false, exists_eq_left', exists_eq_left, keyOf, implies_true, fillC, capOf]
  refine callR_of (d_DrawCountSights (h.pre (q1.trans (hp2.trans (hp3.trans (hp4.trans (hp5.trans (q6.trans (hp7.trans (hp8.trans (hp9.trans (hp10))))))))))) hn.2 hl) ?_
  rintro _ W11 ⟨⟨n, k, rfl⟩, hp11⟩
  simp (disch := omega) only [f0, f3, f4, f5, f6, f7, f10, f14, f15, f16, f19, ↓SXd, SXu, slBounds, ↓sop, ↓aop, ↓reduceIte, LV.cells, AOp.dst, LV.I, LV.B, LV.U, LV.S, LV.nil, Nat.reduceEqDiff, Nat.reduceAdd, Nat.reduceMul, Nat.reduceSub, Nat.reduceLeDiff, Nat.reduceBEq, Nat.reduceDiv, Nat.reduceMod, Int.reduceToNat, Int.reduceLT, Int.reduceLE, Int.reduceAdd, Int.reduceSub, Int.reduceMul, Int.reduceEq, Int.reduceNeg, reduceCtorEq, resV, resAll, ARes.ev, LV.flat, ite_true, ite_false, exists_eq_left', exists_eq_left, keyOf, implies_true, fillC, capOf]
  refine callK_of (g_CountSights (n := n) (k := k)) ?_
  have hSg : sgB n k = true → SgOK n k := fun hh => of_decide_eq_true hh
  have hcs : ∀ {M : Mem}, CallsTo PG F.spec_CountSights [.I n, .I k] M (.tup [.I (sgN n k), .B (sgB n k)]) M := h_sCountSights
  generalize sgB n k = sg at hSg hcs ⊢
  generalize sgN n k = sn at hcs ⊢
  simp (disch := omega) only [f0, f3, f4, f5, f6, f7, f10, f14, f15, f16, f19, ↓SXd, SXu, slBounds, ↓sop, ↓aop, ↓reduceIte, LV.cells, AOp.dst, LV.I, LV.B, LV.U, LV.S, LV.nil, Nat.reduceEqDiff, Nat.reduceAdd, Nat.reduceMul, Nat.reduceSub, Nat.reduceLeDiff, Nat.reduceBEq, Nat.reduceDiv, Nat.reduceMod, Int.reduceToNat, Int.reduceLT, Int.reduceLE, Int.reduceAdd, Int.reduceSub, Int.reduceMul, Int.reduceEq, Int.reduceNeg, reduceCtorEq, resV, resAll, ARes.ev, LV.flat, ite_true, ite_false, exists_eq_left', exists_eq_left, keyOf, implies_true, fillC, capOf]
  refine callK_of hcs ?_
  refine put_cut (fun fr' M' => M' = W11 ∧ fr' 3 = .ptr m3 0 ∧ fr' 4 = .I d ∧ fr' 5 = .B bk ∧ fr' 6 = w6 ∧ fr' 7 = .B f ∧ fr' 10 = w10 ∧ fr' 14 = .ptr m14 0 ∧ fr' 15 = w15 ∧ fr' 16 = .B b2 ∧ fr' 19 = w19 ∧ fr' 23 = .I n ∧ fr' 26 = .B sg) ?_ ?_
  · simp (disch := omega) only [f0, f3, f4, f5, f6, f7, f10, f14, f15, f16, f19, beq_self_eq_true, Bool.not_true, ↓SXd, SXu, slBounds, ↓sop, ↓aop, ↓reduceIte, LV.cells, AOp.dst, LV.I, LV.B, LV.U, LV.S, LV.nil, Nat.reduceEqDiff, Nat.reduceAdd, Nat.reduceMul, Nat.reduceSub, Nat.reduceLeDiff, Nat.reduceBEq, Nat.reduceDiv, Nat.reduceMod, Int.reduceToNat, Int.reduceLT, Int.reduceLE, Int.reduceAdd, Int.reduceSub, Int.reduceMul, Int.reduceEq, Int.reduceNeg, reduceCtorEq, resV, resAll, ARes.ev, LV.flat, ite_true, ite_false, exists_eq_left', exists_eq_left, keyOf, implies_true, fillC, capOf]
    all_goals exact ⟨rfl, by first | rfl | assumption, by first | rfl | assumption, by first | rfl | assumption, by first | rfl | assumption, by first | rfl | assumption, by first | rfl | assumption, by first | rfl | assumption, by first | rfl | assumption, by first | rfl | assumption, by first | rfl | assumption, by first | rfl | assumption, by first | rfl | assumption⟩
  clear f0 f3 f4 f5 f6 f7 f10 f14 f15 f16 f19
  rintro fr W11 ⟨rfl, f3, f4, f5, f6, f7, f10, f14, f15, f16, f19, f23, f26⟩
  have B3f := (B3.pre (hp2.trans (hp3.trans (hp4.trans (hp5.trans (q6.trans (hp7.trans (hp8.trans (hp9.trans (hp10.trans (hp11)))))))))))
  have Uf := (U.pre (hp2.trans (hp3.trans (hp4.trans (hp5.trans (q6.trans (hp7.trans (hp8.trans (hp9.trans (hp10.trans (hp11)))))))))))
  have Iw6f := (Iw6.pre (hp3.trans (hp4.trans (hp5.trans (q6.trans (hp7.trans (hp8.trans (hp9.trans (hp10.trans (hp11))))))))))
  have Iw10f := (Iw10.pre (hp5.trans (q6.trans (hp7.trans (hp8.trans (hp9.trans (hp10.trans (hp11))))))))
  have B14f := (B14.pre (hp7.trans (hp8.trans (hp9.trans (hp10.trans (hp11))))))
  have U2f := (U2.pre (hp7.trans (hp8.trans (hp9.trans (hp10.trans (hp11))))))
  have Iw15f := (Iw15.pre (hp8.trans (hp9.trans (hp10.trans (hp11)))))
  have Iw19f := (Iw19.pre (hp10.trans (hp11)))
  simp (disch := omega) only [f3, f4, f5, f6, f7, f10, f14, f15, f16, f19, f23, f26, ↓SXd, SXu, slBounds, ↓sop, ↓aop, ↓reduceIte, LV.cells, AOp.dst, LV.I, LV.B, LV.U, LV.S, LV.nil, Nat.reduceEqDiff, Nat.reduceAdd, Nat.reduceMul, Nat.reduceSub, Nat.reduceLeDiff, Nat.reduceBEq, Nat.reduceDiv, Nat.reduceMod, Int.reduceToNat, Int.reduceLT, Int.reduceLE, Int.reduceAdd, Int.reduceSub, Int.reduceMul, Int.reduceEq, Int.reduceNeg, reduceCtorEq, resV, resAll, ARes.ev, LV.flat, ite_true, ite_false, exists_eq_left', exists_eq_left, keyOf, implies_true, fillC, capOf]
  refine cond_cut (fun fr' M' => M' = W11 ∧ fr' 3 = .ptr m3 0 ∧ fr' 4 = .I d ∧ fr' 5 = .B bk ∧ fr' 6 = w6 ∧ fr' 7 = .B f ∧ fr' 10 = w10 ∧ fr' 14 = .ptr m14 0 ∧ fr' 15 = w15 ∧ fr' 16 = .B b2 ∧ fr' 19 = w19) ?_ ?_
  · cases sg
    · simp (disch := omega) only [f3, f4, f5, f6, f7, f10, f14, f15, f16, f19, f23, f26, ↓SXd, SXu, slBounds, ↓sop, ↓aop, ↓reduceIte, LV.cells, AOp.dst, LV.I, LV.B, LV.U, LV.S, LV.nil, Nat.reduceEqDiff, Nat.reduceAdd, Nat.reduceMul, Nat.reduceSub, Nat.reduceLeDiff, Nat.reduceBEq, Nat.reduceDiv, Nat.reduceMod, Int.reduceToNat, Int.reduceLT, Int.reduceLE, Int.reduceAdd, Int.reduceSub, Int.reduceMul, Int.reduceEq, Int.reduceNeg, reduceCtorEq, resV, resAll, ARes.ev, LV.flat, ite_true, ite_false, exists_eq_left', exists_eq_left, keyOf, implies_true, fillC, capOf]
      all_goals exact ⟨rfl, by first | rfl | assumption, by first | rfl | assumption, by first | rfl | assumption, by first | rfl | assumption, by first | rfl | assumption, by first | rfl | assumption, by first | rfl | assumption, by first | rfl | assumption, by first | rfl | assumption, by first | rfl | assumption⟩
    obtain ⟨⟨hn1, hn2⟩, hk1, hk2⟩ := hSg rfl
    obtain ⟨a, rfl⟩ : ∃ a : Nat, n = a := ⟨n.toNat, by omega⟩
    simp (disch := omega) only [f3, f4, f5, f6, f7, f10, f14, f15, f16, f19, f23, f26, ↓SXd, SXu, slBounds, ↓sop, ↓aop, ↓reduceIte, LV.cells, AOp.dst, LV.I, LV.B, LV.U, LV.S, LV.nil, Nat.reduceEqDiff, Nat.reduceAdd, Nat.reduceMul, Nat.reduceSub, Nat.reduceLeDiff, Nat.reduceBEq, Nat.reduceDiv, Nat.reduceMod, Int.reduceToNat, Int.reduceLT, Int.reduceLE, Int.reduceAdd, Int.reduceSub, Int.reduceMul, Int.reduceEq, Int.reduceNeg, reduceCtorEq, resV, resAll, ARes.ev, LV.flat, ite_true, ite_false, exists_eq_left', exists_eq_left, keyOf, implies_true, fillC, capOf]
    refine ev_loop (fun m fr M' => ∃ i : Nat, i + m = a + 1 ∧ M' = W11 ∧ fr 3 = .ptr m3 0 ∧ fr 4 = .I d ∧ fr 5 = .B bk ∧ fr 6 = w6 ∧ fr 7 = .B f ∧ fr 10 = w10 ∧ fr 14 = .ptr m14 0 ∧ fr 15 = w15 ∧ fr 16 = .B b2 ∧ fr 19 = w19 ∧ fr 23 = .I a ∧ fr 29 = .I ((((List.range i).map (stir a)).sum : Nat) : Int) ∧ fr 30 = .I 1 ∧ fr 31 = .I i) (a + 1)
      ⟨0, by omega, rfl, f3, f4, f5, f6, f7, f10, f14, f15, f16, f19, f23, rfl, rfl, rfl⟩ ?_
    clear f3 f4 f5 f6 f7 f10 f14 f15 f16 f19 f23 f26
    rintro m fr W11 ⟨i, hi, rfl, f3, f4, f5, f6, f7, f10, f14, f15, f16, f19, f23, f29, f30, f31⟩
    simp (disch := omega) only [f3, f4, f5, f6, f7, f10, f14, f15, f16, f19, f23, f29, f30, f31, ↓SXd, SXu, slBounds, ↓sop, ↓aop, ↓reduceIte, LV.cells, AOp.dst, LV.I, LV.B, LV.U, LV.S, LV.nil, Nat.reduceEqDiff, Nat.reduceAdd, Nat.reduceMul, Nat.reduceSub, Nat.reduceLeDiff, Nat.reduceBEq, Nat.reduceDiv, Nat.reduceMod, Int.reduceToNat, Int.reduceLT, Int.reduceLE, Int.reduceAdd, Int.reduceSub, Int.reduceMul, Int.reduceEq, Int.reduceNeg, reduceCtorEq, resV, resAll, ARes.ev, LV.flat, ite_true, ite_false, exists_eq_left', exists_eq_left, keyOf, implies_true, fillC, capOf]
    refine condC_dec (fun hlt => ?_) (fun hlt => ?_)
    · have hia : i ≤ a := by omega
      have hok : SgOK (a : Int) (i : Int) := ⟨⟨by omega, by omega⟩, by omega, by omega⟩
      have hsl := stir_le (m := a) (i := i) (by omega) (by omega)
      have hss : ((List.range (i + 1)).map (stir a)).sum = ((List.range i).map (stir a)).sum + stir a i := by
        rw [List.range_succ, List.map_append, List.sum_append]; simp
      have hsb : ∀ q : Nat, q ≤ 13 → ((List.range q).map (stir a)).sum ≤ q * 479001600 := fun q => by
        induction q with
        | zero => intro _; simp
        | succ q ih =>
          intro hq
          rw [List.range_succ, List.map_append, List.sum_append]
          have h1 := ih (by omega)
          have h2 := stir_le (m := a) (i := q) (by omega) (by omega)
          simp
          omega
      have hsb1 := hsb i (by omega)
      generalize ((List.range i).map (stir a)).sum = s0 at f29 hss hsb1
      simp (disch := omega) only [f3, f4, f5, f6, f7, f10, f14, f15, f16, f19, f23, f29, f30, f31, ↓SXd, SXu, slBounds, ↓sop, ↓aop, ↓reduceIte, LV.cells, AOp.dst, LV.I, LV.B, LV.U, LV.S, LV.nil, Nat.reduceEqDiff, Nat.reduceAdd, Nat.reduceMul, Nat.reduceSub, Nat.reduceLeDiff, Nat.reduceBEq, Nat.reduceDiv, Nat.reduceMod, Int.reduceToNat, Int.reduceLT, Int.reduceLE, Int.reduceAdd, Int.reduceSub, Int.reduceMul, Int.reduceEq, Int.reduceNeg, reduceCtorEq, resV, resAll, ARes.ev, LV.flat, ite_true, ite_false, exists_eq_left', exists_eq_left, keyOf, implies_true, fillC, capOf]
      refine callK_of (g_CountSights (n := (a : Int)) (k := (i : Int))) ?_
      rw [show sgN (a : Int) (i : Int) = (stir a i : Nat) from if_pos hok, show sgB (a : Int) (i : Int) = true from decide_eq_true hok]
      simp (disch := omega) only [f3, f4, f5, f6, f7, f10, f14, f15, f16, f19, f23, f29, f30, f31, Bool.not_true, ↓SXd, SXu, slBounds, ↓sop, ↓aop, ↓reduceIte, LV.cells, AOp.dst, LV.I, LV.B, LV.U, LV.S, LV.nil, Nat.reduceEqDiff, Nat.reduceAdd, Nat.reduceMul, Nat.reduceSub, Nat.reduceLeDiff, Nat.reduceBEq, Nat.reduceDiv, Nat.reduceMod, Int.reduceToNat, Int.reduceLT, Int.reduceLE, Int.reduceAdd, Int.reduceSub, Int.reduceMul, Int.reduceEq, Int.reduceNeg, reduceCtorEq, resV, resAll, ARes.ev, LV.flat, ite_true, ite_false, exists_eq_left', exists_eq_left, keyOf, implies_true, fillC, capOf]
      exact ⟨m - 1, by omega, i + 1, by omega, rfl, f3, f4, f5, f6, f7, f10, f14, f15, f16, f19, f23, by rw [hss]; exact eqI (by omega), f30, eqI (natI _)⟩
    have hia : i = a + 1 := by omega
    subst hia
    rw [stir_sum (by omega)] at f29
    simp (disch := omega) only [f3, f4, f5, f6, f7, f10, f14, f15, f16, f19, f23, f29, f30, f31, ↓SXd, SXu, slBounds, ↓sop, ↓aop, ↓reduceIte, LV.cells, AOp.dst, LV.I, LV.B, LV.U, LV.S, LV.nil, Nat.reduceEqDiff, Nat.reduceAdd, Nat.reduceMul, Nat.reduceSub, Nat.reduceLeDiff, Nat.reduceBEq, Nat.reduceDiv, Nat.reduceMod, Int.reduceToNat, Int.reduceLT, Int.reduceLE, Int.reduceAdd, Int.reduceSub, Int.reduceMul, Int.reduceEq, Int.reduceNeg, reduceCtorEq, resV, resAll, ARes.ev, LV.flat, ite_true, ite_false, exists_eq_left', exists_eq_left, keyOf, implies_true, fillC, capOf]
    refine ev_loop (fun m fr M' => ∃ i : Nat, i + m + 1 = a ∧ M' = W11 ∧ fr 3 = .ptr m3 0 ∧ fr 4 = .I d ∧ fr 5 = .B bk ∧ fr 6 = w6 ∧ fr 7 = .B f ∧ fr 10 = w10 ∧ fr 14 = .ptr m14 0 ∧ fr 15 = w15 ∧ fr 16 = .B b2 ∧ fr 19 = w19 ∧ fr 23 = .I a ∧ fr 29 = .I ((factN a : Nat) : Int) ∧ fr 30 = .I ((factN (i + 1) : Nat) : Int) ∧ fr 34 = .I ((i + 2 : Nat) : Int)) (a - 1)
      ⟨0, by omega, rfl, f3, f4, f5, f6, f7, f10, f14, f15, f16, f19, f23, f29, f30.trans rfl, rfl⟩ ?_
    clear f3 f4 f5 f6 f7 f10 f14 f15 f16 f19 f23 f29 f30 f31
    rintro m fr W11 ⟨i, hi, rfl, f3, f4, f5, f6, f7, f10, f14, f15, f16, f19, f23, f29, f30, f34⟩
    simp (disch := omega) only [f3, f4, f5, f6, f7, f10, f14, f15, f16, f19, f23, f29, f30, f34, ↓SXd, SXu, slBounds, ↓sop, ↓aop, ↓reduceIte, LV.cells, AOp.dst, LV.I, LV.B, LV.U, LV.S, LV.nil, Nat.reduceEqDiff, Nat.reduceAdd, Nat.reduceMul, Nat.reduceSub, Nat.reduceLeDiff, Nat.reduceBEq, Nat.reduceDiv, Nat.reduceMod, Int.reduceToNat, Int.reduceLT, Int.reduceLE, Int.reduceAdd, Int.reduceSub, Int.reduceMul, Int.reduceEq, Int.reduceNeg, reduceCtorEq, resV, resAll, ARes.ev, LV.flat, ite_true, ite_false, exists_eq_left', exists_eq_left, keyOf, implies_true, fillC, capOf]
    refine condC_dec (fun hlt => ?_) (fun hlt => ?_)
    · have hia : i + 2 ≤ a := by omega
      have hfs : factN (i + 2) = factN (i + 1) * (i + 2) := rfl
      have hfl := factN_le (i + 1) (by omega)
      have hfm : 0 ≤ ((factN (i + 1) : Nat) : Int) * ((i + 2 : Nat) : Int) ∧ ((factN (i + 1) : Nat) : Int) * ((i + 2 : Nat) : Int) ≤ 479001600 * 12 := ⟨Int.mul_nonneg (by omega) (by omega), Int.mul_le_mul (by omega) (by omega) (by omega) (by omega)⟩
      simp (disch := omega) only [f3, f4, f5, f6, f7, f10, f14, f15, f16, f19, f23, f29, f30, f34, ↓SXd, SXu, slBounds, ↓sop, ↓aop, ↓reduceIte, LV.cells, AOp.dst, LV.I, LV.B, LV.U, LV.S, LV.nil, Nat.reduceEqDiff, Nat.reduceAdd, Nat.reduceMul, Nat.reduceSub, Nat.reduceLeDiff, Nat.reduceBEq, Nat.reduceDiv, Nat.reduceMod, Int.reduceToNat, Int.reduceLT, Int.reduceLE, Int.reduceAdd, Int.reduceSub, Int.reduceMul, Int.reduceEq, Int.reduceNeg, reduceCtorEq, resV, resAll, ARes.ev, LV.flat, ite_true, ite_false, exists_eq_left', exists_eq_left, keyOf, implies_true, fillC, capOf]
      exact ⟨m - 1, by omega, i + 1, by omega, rfl, f3, f4, f5, f6, f7, f10, f14, f15, f16, f19, f23, f29, by rw [hfs]; exact eqI (by rw [Int.natCast_mul]), eqI (by omega)⟩
    have hia : i + 1 = a := by omega
    rw [hia] at f30
    simp (disch := omega) only [f3, f4, f5, f6, f7, f10, f14, f15, f16, f19, f23, f29, f30, f34, ↓SXd, SXu, slBounds, ↓sop, ↓aop, ↓reduceIte, LV.cells, AOp.dst, LV.I, LV.B, LV.U, LV.S, LV.nil, Nat.reduceEqDiff, Nat.reduceAdd, Nat.reduceMul, Nat.reduceSub, Nat.reduceLeDiff, Nat.reduceBEq, Nat.reduceDiv, Nat.reduceMod, Int.reduceToNat, Int.reduceLT, Int.reduceLE, Int.reduceAdd, Int.reduceSub, Int.reduceMul, Int.reduceEq, Int.reduceNeg, reduceCtorEq, resV, resAll, ARes.ev, LV.flat, ite_true, ite_false, exists_eq_left', exists_eq_left, keyOf, implies_true, fillC, capOf]
    all_goals exact ⟨rfl, by first | rfl | assumption, by first | rfl | assumption, by first | rfl | assumption, by first | rfl | assumption, by first | rfl | assumption, by first | rfl | assumption, by first | rfl | assumption, by first | rfl | assumption, by first | rfl | assumption, by first | rfl | assumption⟩
  clear f3 f4 f5 f6 f7 f10 f14 f15 f16 f19 f23 f26
  rintro fr W11 ⟨rfl, f3, f4, f5, f6, f7, f10, f14, f15, f16, f19⟩
  simp (disch := omega) only [f3, f4, f5, f6, f7, f10, f14, f15, f16, f19, ↓SXd, SXu, slBounds, ↓sop, ↓aop, ↓reduceIte, LV.cells, AOp.dst, LV.I, LV.B, LV.U, LV.S, LV.nil, Nat.reduceEqDiff, Nat.reduceAdd, Nat.reduceMul, Nat.reduceSub, Nat.reduceLeDiff, Nat.reduceBEq, Nat.reduceDiv, Nat.reduceMod, Int.reduceToNat, Int.reduceLT, Int.reduceLE, Int.reduceAdd, Int.reduceSub, Int.reduceMul, Int.reduceEq, Int.reduceNeg, reduceCtorEq, resV, resAll, ARes.ev, LV.flat, ite_true, ite_false, exists_eq_left', exists_eq_left, keyOf, implies_true, fillC, capOf]
  refine cond_cut (fun fr' M' => Pre W11 M' ∧ fr' 3 = .ptr m3 0 ∧ fr' 4 = .I d ∧ fr' 5 = .B bk ∧ fr' 6 = w6 ∧ fr' 7 = .B f ∧ fr' 10 = w10) ?_ ?_
  · cases b2
    · simp (disch := omega) only [f3, f4, f5, f6, f7, f10, f14, f15, f16, f19, ↓SXd, SXu, slBounds, ↓sop, ↓aop, ↓reduceIte, LV.cells, AOp.dst, LV.I, LV.B, LV.U, LV.S, LV.nil, Nat.reduceEqDiff, Nat.reduceAdd, Nat.reduceMul, Nat.reduceSub, Nat.reduceLeDiff, Nat.reduceBEq, Nat.reduceDiv, Nat.reduceMod, Int.reduceToNat, Int.reduceLT, Int.reduceLE, Int.reduceAdd, Int.reduceSub, Int.reduceMul, Int.reduceEq, Int.reduceNeg, reduceCtorEq, resV, resAll, ARes.ev, LV.flat, ite_true, ite_false, exists_eq_left', exists_eq_left, keyOf, implies_true, fillC, capOf]
      all_goals exact Pre.refl _
    obtain ⟨hH2, hPe, hVe⟩ := hP2 rfl
    have hb16 := mul_bound hH2.1.1 hH2.1.2.1
    have htl := topsOf_len x2 y2 cs2
    have hlow := topsOf_lowz hH2
    have hzz := hH2.1.2.2
    have hres : topRes x2 y2 z2 cs2 = some (topsOf x2 y2 cs2) := if_pos hH2
    have hVs : litSum V = x2 * y2 := by
      rw [hVe]
      unfold lvL
      rw [lv_sum _ _ fun a ha => ?_, litSum_zero, htl]
      · omega
      · obtain ⟨i, hi, rfl⟩ := List.getElem_of_mem ha
        have := hlow i
        rw [List.getD_eq_getElem?_getD, List.getElem?_eq_getElem hi, Option.getD_some] at this
        rw [List.length_replicate]
        omega
    have hVb : ∀ i, 0 ≤ V.getD i 0 ∧ V.getD i 0 ≤ 1000000 := fun i => by
      rw [hVe]
      have := lv_bound (topsOf x2 y2 cs2) (List.replicate (z2 + 1).toNat 0) 0 (fun i => by
        rw [List.getD_eq_getElem?_getD, List.getElem?_replicate]; split <;> simp) i
      unfold lvL
      omega
    simp (disch := omega) only [f3, f4, f5, f6, f7, f10, f14, f15, f16, f19, B14f.cells, ↓SXd, SXu, slBounds, ↓sop, ↓aop, ↓reduceIte, LV.cells, AOp.dst, LV.I, LV.B, LV.U, LV.S, LV.nil, Nat.reduceEqDiff, Nat.reduceAdd, Nat.reduceMul, Nat.reduceSub, Nat.reduceLeDiff, Nat.reduceBEq, Nat.reduceDiv, Nat.reduceMod, Int.reduceToNat, Int.reduceLT, Int.reduceLE, Int.reduceAdd, Int.reduceSub, Int.reduceMul, Int.reduceEq, Int.reduceNeg, reduceCtorEq, resV, resAll, ARes.ev, LV.flat, ite_true, ite_false, exists_eq_left', exists_eq_left, keyOf, implies_true, fillC, capOf]
    refine callR_of (g_TopHeights (U2f.has) hcn2) ?_
    rw [hres]
    rintro _ Y ⟨w35, rfl, hw35, _, hy⟩
    have I35 := hw35.v
    have B14g := B14f.pre hy
    have Iw19g := Iw19f.pre hy
    have Iw15g := Iw15f.pre hy
    simp only [Option.getD_some] at I35
    simp (disch := omega) only [f3, f4, f5, f6, f7, f10, f14, f15, f16, f19, Option.isSome_some, Bool.not_true, B14g.cell, ↓SXd, SXu, slBounds, ↓sop, ↓aop, ↓reduceIte, LV.cells, AOp.dst, LV.I, LV.B, LV.U, LV.S, LV.nil, Nat.reduceEqDiff, Nat.reduceAdd, Nat.reduceMul, Nat.reduceSub, Nat.reduceLeDiff, Nat.reduceBEq, Nat.reduceDiv, Nat.reduceMod, Int.reduceToNat, Int.reduceLT, Int.reduceLE, Int.reduceAdd, Int.reduceSub, Int.reduceMul, Int.reduceEq, Int.reduceNeg, reduceCtorEq, resV, resAll, ARes.ev, LV.flat, ite_true, ite_false, exists_eq_left', exists_eq_left, keyOf, implies_true, fillC, capOf]
    refine callK_of (k_rSum Iw19g (by omega) hVb) ?_
    rw [hVs]
    simp (disch := omega) only [f3, f4, f5, f6, f7, f10, f14, f15, f16, f19, ↓SXd, SXu, slBounds, ↓sop, ↓aop, ↓reduceIte, LV.cells, AOp.dst, LV.I, LV.B, LV.U, LV.S, LV.nil, Nat.reduceEqDiff, Nat.reduceAdd, Nat.reduceMul, Nat.reduceSub, Nat.reduceLeDiff, Nat.reduceBEq, Nat.reduceDiv, Nat.reduceMod, Int.reduceToNat, Int.reduceLT, Int.reduceLE, Int.reduceAdd, Int.reduceSub, Int.reduceMul, Int.reduceEq, Int.reduceNeg, reduceCtorEq, resV, resAll, ARes.ev, LV.flat, ite_true, ite_false, exists_eq_left', exists_eq_left, keyOf, implies_true, fillC, capOf]
    have hPv := Iw15g.lenV
    have hmem : ∀ i, i < P.length → ∃ p : Nat, P.getD i 0 = (p : Int) ∧ p < (x2 * y2).toNat ∧ 0 < (topsOf x2 y2 cs2).getD p 0 := fun i hi => by
      have hm : P.getD i 0 ∈ peakL x2 y2 (topsOf x2 y2 cs2) (x2 * y2).toNat := by rw [← hPe]; exact getD_mem' hi
      obtain ⟨p, hp, hpe⟩ := List.mem_map.1 hm
      obtain ⟨h1, h2⟩ := List.mem_filter.1 hp
      unfold peakP at h2
      rw [Bool.and_eq_true] at h2
      exact ⟨p, hpe.symm, List.mem_range.1 h1, of_decide_eq_true h2.1⟩
    refine ev_loop (fun m fr M' => ∃ i : Nat, i + m = P.length ∧ M' = Y ∧ fr 3 = .ptr m3 0 ∧ fr 4 = .I d ∧ fr 5 = .B bk ∧ fr 6 = w6 ∧ fr 7 = .B f ∧ fr 10 = w10 ∧ fr 15 = w15 ∧ fr 35 = w35 ∧ fr 37 = .I i) P.length
      ⟨0, by omega, rfl, f3, f4, f5, f6, f7, f10, f15, rfl, rfl⟩ ?_
    clear f3 f4 f5 f6 f7 f10 f14 f15 f16 f19
    rintro m fr Y ⟨i, hi, rfl, f3, f4, f5, f6, f7, f10, f15, f35, f37⟩
    have hPv2 := Iw15g.lenV
    simp (disch := omega) only [f3, f4, f5, f6, f7, f10, f15, f35, f37, hPv2, ↓SXd, SXu, slBounds, ↓sop, ↓aop, ↓reduceIte, LV.cells, AOp.dst, LV.I, LV.B, LV.U, LV.S, LV.nil, Nat.reduceEqDiff, Nat.reduceAdd, Nat.reduceMul, Nat.reduceSub, Nat.reduceLeDiff, Nat.reduceBEq, Nat.reduceDiv, Nat.reduceMod, Int.reduceToNat, Int.reduceLT, Int.reduceLE, Int.reduceAdd, Int.reduceSub, Int.reduceMul, Int.reduceEq, Int.reduceNeg, reduceCtorEq, resV, resAll, ARes.ev, LV.flat, ite_true, ite_false, exists_eq_left', exists_eq_left, keyOf, implies_true, fillC, capOf]
    refine condC_dec (fun hlt => ?_) (fun hlt => ?_)
    · have hil : i < P.length := by omega
      obtain ⟨ta, oa, rfl, hga⟩ := Iw15g.at (k := i) hil
      obtain ⟨p, hpe, hpx, hpp⟩ := hmem i hil
      obtain ⟨tb, ob, rfl, hgb⟩ := I35.at (k := p) (by omega)
      rw [hpe] at hga
      have hnl : ¬ (topsOf x2 y2 cs2).getD p 0 < 1 := by omega
      simp (disch := omega) only [f3, f4, f5, f6, f7, f10, f15, f35, f37, hga, hgb, Nat.mul_one, Nat.zero_add, hnl, ↓SXd, SXu, slBounds, ↓sop, ↓aop, ↓reduceIte, LV.cells, AOp.dst, LV.I, LV.B, LV.U, LV.S, LV.nil, Nat.reduceEqDiff, Nat.reduceAdd, Nat.reduceMul, Nat.reduceSub, Nat.reduceLeDiff, Nat.reduceBEq, Nat.reduceDiv, Nat.reduceMod, Int.reduceToNat, Int.reduceLT, Int.reduceLE, Int.reduceAdd, Int.reduceSub, Int.reduceMul, Int.reduceEq, Int.reduceNeg, reduceCtorEq, resV, resAll, ARes.ev, LV.flat, ite_true, ite_false, exists_eq_left', exists_eq_left, keyOf, implies_true, fillC, capOf]
      exact ⟨m - 1, by omega, i + 1, by omega, rfl, f3, f4, f5, f6, f7, f10, f15, f35, eqI (natI _)⟩
    · simp (disch := omega) only [f3, f4, f5, f6, f7, f10, f15, f35, f37, ↓SXd, SXu, slBounds, ↓sop, ↓aop, ↓reduceIte, LV.cells, AOp.dst, LV.I, LV.B, LV.U, LV.S, LV.nil, Nat.reduceEqDiff, Nat.reduceAdd, Nat.reduceMul, Nat.reduceSub, Nat.reduceLeDiff, Nat.reduceBEq, Nat.reduceDiv, Nat.reduceMod, Int.reduceToNat, Int.reduceLT, Int.reduceLE, Int.reduceAdd, Int.reduceSub, Int.reduceMul, Int.reduceEq, Int.reduceNeg, reduceCtorEq, resV, resAll, ARes.ev, LV.flat, ite_true, ite_false, exists_eq_left', exists_eq_left, keyOf, implies_true, fillC, capOf]
      all_goals exact hy
  clear f3 f4 f5 f6 f7 f10 f14 f15 f16 f19
  rintro fr X ⟨hX, f3, f4, f5, f6, f7, f10⟩
  replace B3f := B3f.pre hX
  replace Uf := Uf.pre hX
  replace Iw6f := Iw6f.pre hX
  replace Iw10f := Iw10f.pre hX
  cases f
  · simp (disch := omega) only [f3, f4, f5, f6, f7, f10, ↓SXd, SXu, slBounds, ↓sop, ↓aop, ↓reduceIte, LV.cells, AOp.dst, LV.I, LV.B, LV.U, LV.S, LV.nil, Nat.reduceEqDiff, Nat.reduceAdd, Nat.reduceMul, Nat.reduceSub, Nat.reduceLeDiff, Nat.reduceBEq, Nat.reduceDiv, Nat.reduceMod, Int.reduceToNat, Int.reduceLT, Int.reduceLE, Int.reduceAdd, Int.reduceSub, Int.reduceMul, Int.reduceEq, Int.reduceNeg, reduceCtorEq, resV, resAll, ARes.ev, LV.flat, ite_true, ite_false, exists_eq_left', exists_eq_left, keyOf, implies_true, fillC, capOf]
    rfl
  obtain ⟨hFl, hLe, hKe⟩ := hV rfl
  obtain ⟨hH, hd1, hd2⟩ := id hFl
  obtain ⟨dn, rfl⟩ : ∃ dn : Nat, d = dn := ⟨d.toNat, by omega⟩
  rw [Int.toNat_natCast] at hLe hKe
  have hdn : dn < 2 := by omega
  have hll : (L.length : Int) = (K.length : Nat) := by rw [hLe, hKe, sgtL_len, skyL_len]
  have hsk := fun i (hi : i < L.length) => sgt_sky (x := x) (y := y) (dir := dn) (b := bk) (ts := topsOf x y cs) (m := lnM x y dn) (i := i) (by rw [hLe, sgtL_len] at hi; exact hi)
  rw [← hLe, ← hKe] at hsk
  have hMok : HeapOK x y z (mirD x y z dn cs) := pick_ok hH.1 _
  have hmir : mirOf x y z cs dn = some ⟨x, y, z, mirD x y z dn cs⟩ := if_pos ⟨hH, by unfold Dir; omega⟩
  have hsg : sgtOf x y z (mirD x y z dn cs) dn (!bk) = L := by
    rw [show sgtOf x y z (mirD x y z dn cs) dn (!bk) = sgtL x y (dn : Int).toNat (!bk) (topsOf x y (mirD x y z dn cs)) (lnM x y (dn : Int).toNat) from if_pos ⟨hMok, hd1, hd2⟩, Int.toNat_natCast, sgt_mir hH hdn, hLe]
  have hfl : flatB x y z (mirD x y z dn cs) dn = true := decide_eq_true ⟨hMok, hd1, hd2⟩
  have hMl := hMok.len
  generalize mirD x y z dn cs = E at hMok hmir hsg hfl hMl
  have hLv := Iw6f.lenV
  have hKv := Iw10f.lenV
  simp (disch := omega) only [f3, f4, f5, f6, f7, f10, hLv, hKv, hll, ↓SXd, SXu, slBounds, ↓sop, ↓aop, ↓reduceIte, LV.cells, AOp.dst, LV.I, LV.B, LV.U, LV.S, LV.nil, Nat.reduceEqDiff, Nat.reduceAdd, Nat.reduceMul, Nat.reduceSub, Nat.reduceLeDiff, Nat.reduceBEq, Nat.reduceDiv, Nat.reduceMod, Int.reduceToNat, Int.reduceLT, Int.reduceLE, Int.reduceAdd, Int.reduceSub, Int.reduceMul, Int.reduceEq, Int.reduceNeg, reduceCtorEq, resV, resAll, ARes.ev, LV.flat, ite_true, ite_false, exists_eq_left', exists_eq_left, keyOf, implies_true, fillC, capOf]
  refine ev_loop (fun m fr M' => ∃ i : Nat, i + m = L.length ∧ M' = X ∧ fr 3 = .ptr m3 0 ∧ fr 4 = .I dn ∧ fr 5 = .B bk ∧ fr 6 = w6 ∧ fr 10 = w10 ∧ fr 38 = .I i) L.length
    ⟨0, by omega, rfl, f3, f4, f5, f6, f10, rfl⟩ ?_
  clear f3 f4 f5 f6 f7 f10
  rintro m fr X ⟨i, hi, rfl, f3, f4, f5, f6, f10, f38⟩
  have hLv2 := Iw6f.lenV
  simp (disch := omega) only [f3, f4, f5, f6, f10, f38, hLv2, ↓SXd, SXu, slBounds, ↓sop, ↓aop, ↓reduceIte, LV.cells, AOp.dst, LV.I, LV.B, LV.U, LV.S, LV.nil, Nat.reduceEqDiff, Nat.reduceAdd, Nat.reduceMul, Nat.reduceSub, Nat.reduceLeDiff, Nat.reduceBEq, Nat.reduceDiv, Nat.reduceMod, Int.reduceToNat, Int.reduceLT, Int.reduceLE, Int.reduceAdd, Int.reduceSub, Int.reduceMul, Int.reduceEq, Int.reduceNeg, reduceCtorEq, resV, resAll, ARes.ev, LV.flat, ite_true, ite_false, exists_eq_left', exists_eq_left, keyOf, implies_true, fillC, capOf]
  refine condC_dec (fun hlt => ?_) (fun hlt => ?_)
  · have hil : i < L.length := by omega
    obtain ⟨ta, oa, rfl, hga⟩ := Iw6f.at (k := i) hil
    obtain ⟨tb, ob, rfl, hgb⟩ := Iw10f.at (k := i) (by omega)
    obtain ⟨s1, s2, s3⟩ := hsk i hil
    have hng : ¬ L.getD i 0 > K.getD i 0 := by omega
    by_cases hv : L.getD i 0 > 0
    · have hk : K.getD i 0 > 0 := by omega
      simp (disch := omega) only [f3, f4, f5, f6, f10, f38, hga, hgb, Nat.mul_one, Nat.zero_add, hv, hk, hng, beq_self_eq_true, Bool.not_true, ↓SXd, SXu, slBounds, ↓sop, ↓aop, ↓reduceIte, LV.cells, AOp.dst, LV.I, LV.B, LV.U, LV.S, LV.nil, Nat.reduceEqDiff, Nat.reduceAdd, Nat.reduceMul, Nat.reduceSub, Nat.reduceLeDiff, Nat.reduceBEq, Nat.reduceDiv, Nat.reduceMod, Int.reduceToNat, Int.reduceLT, Int.reduceLE, Int.reduceAdd, Int.reduceSub, Int.reduceMul, Int.reduceEq, Int.reduceNeg, reduceCtorEq, resV, resAll, ARes.ev, LV.flat, ite_true, ite_false, exists_eq_left', exists_eq_left, keyOf, implies_true, fillC, capOf]
      exact ⟨m - 1, by omega, i + 1, by omega, rfl, f3, f4, f5, f6, f10, eqI (natI _)⟩
    · have hk : ¬ K.getD i 0 > 0 := fun e => hv (s3.1 e)
      simp (disch := omega) only [f3, f4, f5, f6, f10, f38, hga, hgb, Nat.mul_one, Nat.zero_add, hv, hk, hng, beq_self_eq_true, Bool.not_true, ↓SXd, SXu, slBounds, ↓sop, ↓aop, ↓reduceIte, LV.cells, AOp.dst, LV.I, LV.B, LV.U, LV.S, LV.nil, Nat.reduceEqDiff, Nat.reduceAdd, Nat.reduceMul, Nat.reduceSub, Nat.reduceLeDiff, Nat.reduceBEq, Nat.reduceDiv, Nat.reduceMod, Int.reduceToNat, Int.reduceLT, Int.reduceLE, Int.reduceAdd, Int.reduceSub, Int.reduceMul, Int.reduceEq, Int.reduceNeg, reduceCtorEq, resV, resAll, ARes.ev, LV.flat, ite_true, ite_false, exists_eq_left', exists_eq_left, keyOf, implies_true, fillC, capOf]
      exact ⟨m - 1, by omega, i + 1, by omega, rfl, f3, f4, f5, f6, f10, eqI (natI _)⟩
  simp (disch := omega) only [f3, f4, f5, f6, f10, f38, B3f.cells, ↓SXd, SXu, slBounds, ↓sop, ↓aop, ↓reduceIte, LV.cells, AOp.dst, LV.I, LV.B, LV.U, LV.S, LV.nil, Nat.reduceEqDiff, Nat.reduceAdd, Nat.reduceMul, Nat.reduceSub, Nat.reduceLeDiff, Nat.reduceBEq, Nat.reduceDiv, Nat.reduceMod, Int.reduceToNat, Int.reduceLT, Int.reduceLE, Int.reduceAdd, Int.reduceSub, Int.reduceMul, Int.reduceEq, Int.reduceNeg, reduceCtorEq, resV, resAll, ARes.ev, LV.flat, ite_true, ite_false, exists_eq_left', exists_eq_left, keyOf, implies_true, fillC, capOf]
  refine callR_of (heapGL_eq (G := ⟨x, y, z, E⟩) (b := true) (g_MirrorHeapX Uf hcn (d := (dn : Int))) (by rw [hmir]; rfl) (by rw [hmir]; rfl)) ?_
  rintro _ N12 ⟨v39, rfl, hv39, hp12⟩
  simp only at hv39
  have B39 : Live (N12 ++ [some (.row [.I x, .I y, .I z, .ref v39 0 E.length] true 0)]) N12.length (.row [.I x, .I y, .I z, .ref v39 0 E.length] true 0) := Live.new
  have U39 := hv39.app (L := [some (.row [.I x, .I y, .I z, .ref v39 0 E.length] true 0)])
  have q12 : Pre X (N12 ++ [some (.row [.I x, .I y, .I z, .ref v39 0 E.length] true 0)]) := hp12.trans (Pre.app _ _)
  have Iw6g := Iw6f.pre q12
  simp (disch := omega) only [f3, f4, f5, f6, f10, f38, splice, B39.cells, ↓SXd, SXu, slBounds, ↓sop, ↓aop, ↓reduceIte, LV.cells, AOp.dst, LV.I, LV.B, LV.U, LV.S, LV.nil, Nat.reduceEqDiff, Nat.reduceAdd, Nat.reduceMul, Nat.reduceSub, Nat.reduceLeDiff, Nat.reduceBEq, Nat.reduceDiv, Nat.reduceMod, Int.reduceToNat, Int.reduceLT, Int.reduceLE, Int.reduceAdd, Int.reduceSub, Int.reduceMul, Int.reduceEq, Int.reduceNeg, reduceCtorEq, resV, resAll, ARes.ev, LV.flat, ite_true, ite_false, exists_eq_left', exists_eq_left, keyOf, implies_true, fillC, capOf]
  generalize N12 ++ [some (Blk.row [.I x, .I y, .I z, .ref v39 0 E.length] true 0)] = W12 at B39 U39 q12 Iw6g ⊢
  refine callR_of (g_SightsOf U39.has (by omega) (d := (dn : Int)) (b := !bk)) ?_
  rw [hsg, hfl]
  rintro _ W13 ⟨w41, rfl, I41, hp13⟩
  simp (disch := omega) only [f3, f4, f5, f6, f10, f38, ↓SXd, SXu, slBounds, ↓sop, ↓aop, ↓reduceIte, LV.cells, AOp.dst, LV.I, LV.B, LV.U, LV.S, LV.nil, Nat.reduceEqDiff, Nat.reduceAdd, Nat.reduceMul, Nat.reduceSub, Nat.reduceLeDiff, Nat.reduceBEq, Nat.reduceDiv, Nat.reduceMod, Int.reduceToNat, Int.reduceLT, Int.reduceLE, Int.reduceAdd, Int.reduceSub, Int.reduceMul, Int.reduceEq, Int.reduceNeg, reduceCtorEq, resV, resAll, ARes.ev, LV.flat, ite_true, ite_false, exists_eq_left', exists_eq_left, keyOf, implies_true, fillC, capOf]
  refine callK_of (k_rInts I41 (Iw6g.pre hp13) (by omega)) ?_
  simp (disch := omega) only [f3, f4, f5, f6, f10, f38, ↓SXd, SXu, slBounds, ↓sop, ↓aop, ↓reduceIte, LV.cells, AOp.dst, LV.I, LV.B, LV.U, LV.S, LV.nil, Nat.reduceEqDiff, Nat.reduceAdd, Nat.reduceMul, Nat.reduceSub, Nat.reduceLeDiff, Nat.reduceBEq, Nat.reduceDiv, Nat.reduceMod, Int.reduceToNat, Int.reduceLT, Int.reduceLE, Int.reduceAdd, Int.reduceSub, Int.reduceMul, Int.reduceEq, Int.reduceNeg, reduceCtorEq, resV, resAll, ARes.ev, LV.flat, ite_true, ite_false, exists_eq_left', exists_eq_left, keyOf, implies_true, fillC, capOf]
  all_goals rfl
end Go.Ab

/- Bytes that came in, opened. -/
namespace Go.Ab
open Go Go.RowKit Go.Joins Go.ChangeShapes Go.WideShapes Go.Deep Go.WideElems Go.Maps

/-- What the abstract machine is told of a slice of bytes that came in. -/
def RowOfB (w : World) (a : Option Addr) (len cap : Nat) (xs : List Nat) : Prop :=
  xs.length = len ∧ len ≤ cap ∧ cap ≤ maxLen ∧ (∀ b ∈ xs, b ≤ 255) ∧ (cap = 0 ∨ ∃ b o c e fz, a = some ⟨b, o, none⟩ ∧ w.heap[b]? = some (.cells c e fz) ∧ ∀ i, i < len → c[o + i]? = some (.int .u8 ((xs.getD i 0 : Nat) : Int)))

section
variable {H : Type} {enc : TypeId × Value → H} {P : Program} {w : World} {held : Bool}
theorem open_bytesB {ts ti : TypeId} {fuel : Nat} {cs : List Value} {x : DataW H × List MemPlace} (hts : P.underlying ts = some (.slice ti)) (hti : P.underlying ti = some (.int .u8)) (hci : P.cellsOf ti = 1)
    (h : DataW.trod enc P w 0 (fun _ => true) held fuel ts cs = some x) : ∃ a len cap xs, cs = [.slice a len cap] ∧ RowOfB w a len cap xs := by
  rcases Go.ChangeShapes.open_ints hts hti hci h with ⟨rfl, _⟩ | ⟨a, len, cap, zs, rfl, _, hl, hm, hz, _, hel, hwf⟩
  · exact ⟨none, 0, 0, [], rfl, rfl, Nat.le_refl _, Nat.zero_le _, by simp, .inl rfl⟩
  · have hzl : zs.length = cap := by simpa using hz
    have hby : ∀ n ∈ zs, 0 ≤ n ∧ n ≤ 255 := fun n hn => by
      have h1 := hwf n hn
      unfold Lit.wf at h1
      rw [Bool.and_eq_true, decide_eq_true_iff, decide_eq_true_iff] at h1
      exact h1
    refine ⟨some a, len, cap, (zs.take len).map Int.toNat, rfl, by simp; omega, hl, hm, fun b hb => ?_, ?_⟩
    · obtain ⟨n, hn, rfl⟩ := List.mem_map.1 hb
      have := hby n (List.mem_of_mem_take hn)
      omega
    rcases Nat.eq_zero_or_pos cap with h0 | h0
    · exact .inl h0
    · refine .inr ?_
      have hc0 := hel 0 (by omega)
      obtain ⟨b, o, c, e, fz, ha, hh, _⟩ := cell_heap hc0
      have ha' : a = ⟨b, o, none⟩ := by simpa [Addr.add] using ha
      subst ha'
      refine ⟨b, o, c, e, fz, rfl, hh, fun i hi => ?_⟩
      have hcell := hel i (by omega)
      have hadd : (⟨b, o, none⟩ : Addr).add i = ⟨b, o + i, none⟩ := addr_add _ _ _
      rw [hadd] at hcell
      unfold World.cell? at hcell
      simp only [hh] at hcell
      have hil : i < zs.length := by omega
      have hbi := hby _ (getD_mem' (d := 0) hil)
      have hg : ((((zs.take len).map Int.toNat).getD i 0 : Nat) : Int) = zs.getD i 0 := by
        have e1 : ((zs.take len).map Int.toNat).getD i 0 = (zs.getD i 0).toNat := by simp [hi, hil]
        rw [e1]; omega
      rw [hg]
      simpa using hcell
end
theorem byL_get {bs : List Nat} {i : Nat} (h : i < bs.length) : (byL bs)[i]? = some (.val (.int .u8 ((bs.getD i 0 : Nat) : Int))) := by simp [byL, h]
theorem Inv.addBytes' {G : Gh} {M : Mem} {w : World} (hi : Inv G M w) (hno : NoOwn M) {a : Option Addr} {len cap : Nat} {xs : List Nat} (h : RowOfB w a len cap xs) :
    ∃ (G' : Gh) (N : Mem) (t : Nat), Ext G G' ∧ Inv G' N w ∧ NoOwn N ∧ Pre M N ∧ VR1 G' (.ref t 0 len) (.slice a len cap) ∧ Bytes N t 0 xs := by
  obtain ⟨h1, h2, h3, _, h4⟩ := h
  have key : ∃ G', Ext G G' ∧ Inv G' (M ++ [some (.row (byL xs) false 1)]) w ∧ NoOwn (M ++ [some (.row (byL xs) false 1)]) ∧ VR1 G' (.ref M.length 0 len) (.slice a len cap) := by
    refine hi.addRow hno h2 (by rw [byL_len]; omega) ?_
    rcases h4 with h0 | ⟨b, o, c, e, fz, ha, hh, hc⟩
    · refine .inl ⟨h0, ?_⟩
      have : xs = [] := List.eq_nil_of_length_eq_zero (by omega)
      rw [this]; rfl
    · refine .inr ⟨b, o, c, e, fz, ha, hh, fun j l hj => ?_⟩
      have hjl : j < xs.length := by
        rw [← byL_len]
        rcases Nat.lt_or_ge j (byL xs).length with h | h
        · exact h
        · rw [List.getElem?_eq_none h] at hj; cases hj
      rw [byL_get hjl] at hj
      cases hj
      exact ⟨_, hc j (by omega), rfl, rfl⟩
  obtain ⟨G', k1, k2, k3, k4⟩ := key
  exact ⟨G', _, _, k1, k2, k3, Pre.app _ _, k4, Has.new⟩
/-- Bytes whose block has elements of one cell. -/
def BytesZ (M : Mem) (t o : Nat) (bs : List Nat) : Prop := Bytes M t o bs ∧ getEsz M t = some 1
theorem RowOfB.le {w : World} {a : Option Addr} {len cap : Nat} {xs : List Nat} (h : RowOfB w a len cap xs) : xs.length ≤ 9223372036854775807 ∧ ∀ b ∈ xs, b ≤ 255 := by
  obtain ⟨h0, h1, h2, h3, _⟩ := h
  have := max63
  exact ⟨by omega, h3⟩
end Go.Ab
