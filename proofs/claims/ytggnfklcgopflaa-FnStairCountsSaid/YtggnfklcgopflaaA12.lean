/- Parts of the proof of FnStairCountsSaid: Jd LFnStairCounts Re. -/
import Derived.Test.YtggnfklcgopflaaA11
import Derived.Test.YtggnfklcgopflaaA4
import Derived.Test.YtggnfklcgopflaaA8
import Derived.Test.YtggnfklcgopflaaA7
import Derived.Test.YtggnfklcgopflaaA6
import Derived.Test.YtggnfklcgopflaaA9
set_option linter.all false
/- Contracts: what the law of pieces draws. -/
namespace Go.Ab
open Go
set_option linter.unusedSimpArgs false
set_option linter.unusedVariables false
set_option maxRecDepth 20000

theorem byL_append (l m : List Nat) : byL (l ++ m) = byL l ++ byL m := by simp [byL]
theorem Bytes.drop {M : Mem} {t o n : Nat} {bs : List Nat} (h : Bytes M t o bs) (hn : n ≤ bs.length) : Bytes M t (o + n) (bs.drop n) := by
  obtain ⟨row, h1, h2, h3⟩ := h
  refine ⟨row, h1, ?_, ?_⟩
  · rw [byL_len] at h2 ⊢
    rw [List.length_drop]; omega
  · rw [byL_len] at h3 ⊢
    rw [List.length_drop]
    have e : byL (bs.drop n) = (byL bs).drop n := by simp [byL, List.map_drop]
    rw [e, ← h3, List.drop_take, List.drop_drop]
/-- Other bytes, that are new. -/
def NewBytes (M : Mem) (n : Nat) (v : LV) (N : Mem) : Prop := ∃ (u : Nat) (cs : List Nat), v = .ref u 0 cs.length ∧ Bytes N u 0 cs ∧ (∀ b ∈ cs, b ≤ 255) ∧ cs.length ≤ n + 1 ∧ Pre M N
theorem u8_small {n : Nat} (h : n ≤ 255) : IntKind.u8.wrap (n : Int) = (n : Int) := by
  unfold IntKind.wrap
  simp only [IntKind.bits, IntKind.signed, Bool.false_and, Bool.false_eq_true, if_false]
  omega
theorem k_vCut {t : Nat} {bs : List Nat} {n : Nat} {M : Mem} (h : Bytes M t 0 bs) (he : getEsz M t = some 1) (h255 : ∀ b ∈ bs, b ≤ 255) (hl : bs.length ≤ 1000000) (hn : n ≤ 100) : CallsR PG F.laws_vCut [.ref t 0 bs.length, .I n] M (NewBytes M bs.length) := by
  have ht := h.lt
  refine callsR_run K.laws_vCut rfl ?_
  obtain ⟨m, hm1, hm2, hm3⟩ : ∃ m : Nat, m ≤ bs.length ∧ m ≤ 100 ∧ ((n : Int) > (bs.length : Nat) → m = bs.length) ∧ (¬ (n : Int) > (bs.length : Nat) → m = n) := by
    by_cases hgt : (n : Int) > (bs.length : Nat)
    · exact ⟨bs.length, by omega, by omega, fun _ => rfl, fun h => absurd hgt h⟩
    · exact ⟨n, by omega, by omega, fun h => absurd h hgt, fun _ => rfl⟩
  have hd := h.drop hm1
  rw [Nat.zero_add] at hd
  have hdl : (bs.drop m).length = bs.length - m := List.length_drop
  have hd255 : ∀ b ∈ bs.drop m, b ≤ 255 := fun b hb => h255 b (List.mem_of_mem_drop hb)
  generalize hds : bs.drop m = ds at hd hdl hd255
  have fin : ∀ {fr : Fr} {P : LV → Mem → Prop}, True := trivial
  have rest : ∀ {A : LV → Mem → Prop}, (∀ (u : Nat) (M' : Mem), M.length + 1 ≤ M'.length → Live M' u (.row (byL ds) true 1) → M.length ≤ u → Pre M M' → A (.ref u 0 ds.length) M') → appendK 1 1 (.ref M.length 0 0) (.ref t m (bs.length - m)) (M ++ [some (.row [] true 1)]) A := fun {A} hA => by
    refine appendK_list (acc := []) (new := byL ds) (n := 0) (n2 := bs.length - m) Live.new rfl (Has.app hd) (by rw [byL_len]; omega) (by omega) (by omega) fun u M' h1 h2 h3 h4 => ?_
    rw [List.length_append, List.length_singleton] at h1 h3 h4
    have e : 0 + (bs.length - m) = ds.length := by omega
    rw [e]
    exact hA u M' h1 h2 (by omega) ⟨by omega, fun q hq => by rw [h4 q (by omega) (by omega)]; exact List.getElem?_append_left hq⟩
  have hmu := u8_small (n := m) (by omega)
  have last : ∀ {u : Nat} {M' : Mem} {A : LV → Mem → Prop}, Live M' u (.row (byL ds) true 1) → M.length ≤ u → Pre M M' → (∀ v N, NewBytes M bs.length v N → A v N) → appendK 1 1 (.ref u 0 ds.length) (.ref M'.length 0 1) (M' ++ [some (.row [.val (.int .u8 (m : Int))] true 1)]) A := fun {u M' A} a1 a2 a3 hA => by
    have hul := a1.lt
    refine appendK_list (acc := byL ds) (new := [.val (.int .u8 (m : Int))]) (n := ds.length) (n2 := 1) a1.app (by rw [byL_len]; omega) (Live.new (b := .row [.val (.int .u8 (m : Int))] true 1)).has rfl (by omega) (by omega) fun u2 N h1 h2 h3 h4 => ?_
    rw [List.length_append, List.length_singleton] at h1 h3 h4
    have e : byL ds ++ [LV.val (.int .u8 (m : Int))] = byL (ds ++ [m]) := by rw [byL_append]; rfl
    rw [e] at h2
    have hlen : ds.length + 1 = (ds ++ [m]).length := by simp
    rw [hlen]
    refine hA _ _ ⟨u2, ds ++ [m], rfl, h2.has, fun b hb => ?_, by simp; omega, ?_⟩
    · rcases List.mem_append.1 hb with hb | hb
      · exact hd255 b hb
      · simp at hb; omega
    · have := a3.1
      exact ⟨by omega, fun q hq => by rw [h4 q (by omega) (by omega), List.getElem?_append_left (by omega)]; exact a3.2 q hq⟩
  by_cases hgt : (n : Int) > (bs.length : Nat)
  · have hmn := hm3.1 hgt
    rw [← hmn] at hgt ⊢
    rw [← hmn] at rest
    simp (disch := omega) only [C.laws_vCut, hgt, (getEsz_app ht), he, if_true, ite_true, ↓SXd, SXu, slBounds, ↓sop, ↓aop, ↓reduceIte, LV.cells, AOp.dst, LV.I, LV.B, LV.U, LV.S, LV.nil, Nat.reduceEqDiff, Nat.reduceAdd, Nat.reduceMul, Nat.reduceSub, Nat.reduceLeDiff, Nat.reduceBEq, Nat.reduceDiv, Nat.reduceMod, Int.reduceToNat, Int.reduceLT, Int.reduceLE, Int.reduceAdd, Int.reduceSub, Int.reduceMul, Int.reduceEq, Int.reduceNeg, reduceCtorEq, resV, resAll, ARes.ev, LV.flat, ite_true, ite_false, exists_eq_left', exists_eq_left, keyOf, implies_true, fillC, capOf]
    refine rest fun u M' a0 a1 a2 a3 => ?_
    simp (disch := omega) only [hmu, ↓SXd, SXu, slBounds, ↓sop, ↓aop, ↓reduceIte, LV.cells, AOp.dst, LV.I, LV.B, LV.U, LV.S, LV.nil, Nat.reduceEqDiff, Nat.reduceAdd, Nat.reduceMul, Nat.reduceSub, Nat.reduceLeDiff, Nat.reduceBEq, Nat.reduceDiv, Nat.reduceMod, Int.reduceToNat, Int.reduceLT, Int.reduceLE, Int.reduceAdd, Int.reduceSub, Int.reduceMul, Int.reduceEq, Int.reduceNeg, reduceCtorEq, resV, resAll, ARes.ev, LV.flat, ite_true, ite_false, exists_eq_left', exists_eq_left, keyOf, implies_true, fillC, capOf]
    refine last a1 a2 a3 ?_
    rintro _ N ⟨u2, es, rfl, k1, k2, k3, k4⟩
    simp (disch := omega) only [↓SXd, SXu, slBounds, ↓sop, ↓aop, ↓reduceIte, LV.cells, AOp.dst, LV.I, LV.B, LV.U, LV.S, LV.nil, Nat.reduceEqDiff, Nat.reduceAdd, Nat.reduceMul, Nat.reduceSub, Nat.reduceLeDiff, Nat.reduceBEq, Nat.reduceDiv, Nat.reduceMod, Int.reduceToNat, Int.reduceLT, Int.reduceLE, Int.reduceAdd, Int.reduceSub, Int.reduceMul, Int.reduceEq, Int.reduceNeg, reduceCtorEq, resV, resAll, ARes.ev, LV.flat, ite_true, ite_false, exists_eq_left', exists_eq_left, keyOf, implies_true, fillC, capOf]
    exact ⟨u2, es, rfl, k1, k2, by omega, k4⟩
  · have hmn := hm3.2 hgt
    rw [← hmn] at hgt ⊢
    simp (disch := omega) only [C.laws_vCut, hgt, (getEsz_app ht), he, if_true, ite_true, ↓SXd, SXu, slBounds, ↓sop, ↓aop, ↓reduceIte, LV.cells, AOp.dst, LV.I, LV.B, LV.U, LV.S, LV.nil, Nat.reduceEqDiff, Nat.reduceAdd, Nat.reduceMul, Nat.reduceSub, Nat.reduceLeDiff, Nat.reduceBEq, Nat.reduceDiv, Nat.reduceMod, Int.reduceToNat, Int.reduceLT, Int.reduceLE, Int.reduceAdd, Int.reduceSub, Int.reduceMul, Int.reduceEq, Int.reduceNeg, reduceCtorEq, resV, resAll, ARes.ev, LV.flat, ite_true, ite_false, exists_eq_left', exists_eq_left, keyOf, implies_true, fillC, capOf]
    refine rest fun u M' a0 a1 a2 a3 => ?_
    simp (disch := omega) only [hmu, ↓SXd, SXu, slBounds, ↓sop, ↓aop, ↓reduceIte, LV.cells, AOp.dst, LV.I, LV.B, LV.U, LV.S, LV.nil, Nat.reduceEqDiff, Nat.reduceAdd, Nat.reduceMul, Nat.reduceSub, Nat.reduceLeDiff, Nat.reduceBEq, Nat.reduceDiv, Nat.reduceMod, Int.reduceToNat, Int.reduceLT, Int.reduceLE, Int.reduceAdd, Int.reduceSub, Int.reduceMul, Int.reduceEq, Int.reduceNeg, reduceCtorEq, resV, resAll, ARes.ev, LV.flat, ite_true, ite_false, exists_eq_left', exists_eq_left, keyOf, implies_true, fillC, capOf]
    refine last a1 a2 a3 ?_
    rintro _ N ⟨u2, es, rfl, k1, k2, k3, k4⟩
    simp (disch := omega) only [↓SXd, SXu, slBounds, ↓sop, ↓aop, ↓reduceIte, LV.cells, AOp.dst, LV.I, LV.B, LV.U, LV.S, LV.nil, Nat.reduceEqDiff, Nat.reduceAdd, Nat.reduceMul, Nat.reduceSub, Nat.reduceLeDiff, Nat.reduceBEq, Nat.reduceDiv, Nat.reduceMod, Int.reduceToNat, Int.reduceLT, Int.reduceLE, Int.reduceAdd, Int.reduceSub, Int.reduceMul, Int.reduceEq, Int.reduceNeg, reduceCtorEq, resV, resAll, ARes.ev, LV.flat, ite_true, ite_false, exists_eq_left', exists_eq_left, keyOf, implies_true, fillC, capOf]
    exact ⟨u2, es, rfl, k1, k2, by omega, k4⟩
def sidesL : List Cell := [⟨1, 1, 2⟩, ⟨2, 1, 1⟩, ⟨1, 2, 1⟩, ⟨1, 1, 1⟩, ⟨1, 1, 3⟩, ⟨2, 2, 1⟩, ⟨3, 1, 1⟩]
/-- A list of cells, all new. -/
def CellsN (M : Mem) (v : LV) (N : Mem) : Prop := ∃ (l : List Cell) (u : Nat), v = .ref u 0 l.length ∧ Live N u (.row (triL l) true 3) ∧ M.length ≤ u ∧ l.length ≤ 70
section
variable {t o : Nat} {bs : List Nat} {M : Mem} (hB : Bytes M t o bs) (h255 : ∀ b ∈ bs, b ≤ 255) (hl : bs.length ≤ 1000000000)
include hB h255 hl
end
end Go.Ab

/- The law of the numbers of staircases. -/
namespace Go.Ab
open Go
set_option linter.unusedSimpArgs false
set_option linter.unusedVariables false
set_option maxRecDepth 20000

theorem esz_prek {M N : Mem} {t : Nat} (h : getEsz M t = some 1) (ht : t < M.length) (hp : Pre M N) : getEsz N t = some 1 := by
  unfold getEsz at *
  rw [hp.2 t ht]; exact h
theorem same_hp {G : Hp} : decide (G.dims = G.dims ∧ G.cs = G.cs) = true := decide_eq_true ⟨rfl, rfl⟩
set_option maxHeartbeats 2000000 in
theorem l_FnStairCounts {t : Nat} {bs : List Nat} {M : Mem} (hh : Bytes M t 0 bs ∧ getEsz M t = some 1) (hn : bs.length ≤ 9223372036854775807 ∧ ∀ b ∈ bs, b ≤ 255) :
    CallsR PG F.laws_FnStairCounts [.ref t 0 bs.length] M fun v _ => v = .B true := by
  obtain ⟨h, hesz⟩ := hh
  have htM := h.lt
  refine callsR_run K.laws_FnStairCounts rfl ?_
  simp (disch := omega) only [C.laws_FnStairCounts, ↓SXd, SXu, slBounds, ↓sop, ↓aop, ↓reduceIte, LV.cells, AOp.dst, LV.I, LV.B, LV.U, LV.S, LV.nil, Nat.reduceEqDiff, Nat.reduceAdd, Nat.reduceMul, Nat.reduceSub, Nat.reduceLeDiff, Nat.reduceBEq, Nat.reduceDiv, Nat.reduceMod, Int.reduceToNat, Int.reduceLT, Int.reduceLE, Int.reduceAdd, Int.reduceSub, Int.reduceMul, Int.reduceEq, Int.reduceNeg, reduceCtorEq, resV, resAll, ARes.ev, LV.flat, ite_true, ite_false, exists_eq_left', exists_eq_left, keyOf, implies_true, fillC, capOf]
  refine callK_of (k_vBig hn.1) ?_
  simp (disch := omega) only [↓SXd, SXu, slBounds, ↓sop, ↓aop, ↓reduceIte, LV.cells, AOp.dst, LV.I, LV.B, LV.U, LV.S, LV.nil, Nat.reduceEqDiff, Nat.reduceAdd, Nat.reduceMul, Nat.reduceSub, Nat.reduceLeDiff, Nat.reduceBEq, Nat.reduceDiv, Nat.reduceMod, Int.reduceToNat, Int.reduceLT, Int.reduceLE, Int.reduceAdd, Int.reduceSub, Int.reduceMul, Int.reduceEq, Int.reduceNeg, reduceCtorEq, resV, resAll, ARes.ev, LV.flat, ite_true, ite_false, exists_eq_left', exists_eq_left, keyOf, implies_true, fillC, capOf]
  by_cases hbig : (65536 : Int) < (bs.length : Nat)
  · simp (disch := omega) only [hbig, ↓SXd, SXu, slBounds, ↓sop, ↓aop, ↓reduceIte, LV.cells, AOp.dst, LV.I, LV.B, LV.U, LV.S, LV.nil, Nat.reduceEqDiff, Nat.reduceAdd, Nat.reduceMul, Nat.reduceSub, Nat.reduceLeDiff, Nat.reduceBEq, Nat.reduceDiv, Nat.reduceMod, Int.reduceToNat, Int.reduceLT, Int.reduceLE, Int.reduceAdd, Int.reduceSub, Int.reduceMul, Int.reduceEq, Int.reduceNeg, reduceCtorEq, resV, resAll, ARes.ev, LV.flat, ite_true, ite_false, exists_eq_left', exists_eq_left, keyOf, implies_true, fillC, capOf]
    rfl
  have hl : bs.length ≤ 1000000000 := by omega
  have hl6 : bs.length ≤ 1000000 := by omega
  simp (disch := omega) only [hbig, ↓SXd, SXu, slBounds, ↓sop, ↓aop, ↓reduceIte, LV.cells, AOp.dst, LV.I, LV.B, LV.U, LV.S, LV.nil, Nat.reduceEqDiff, Nat.reduceAdd, Nat.reduceMul, Nat.reduceSub, Nat.reduceLeDiff, Nat.reduceBEq, Nat.reduceDiv, Nat.reduceMod, Int.reduceToNat, Int.reduceLT, Int.reduceLE, Int.reduceAdd, Int.reduceSub, Int.reduceMul, Int.reduceEq, Int.reduceNeg, reduceCtorEq, resV, resAll, ARes.ev, LV.flat, ite_true, ite_false, exists_eq_left', exists_eq_left, keyOf, implies_true, fillC, capOf]
  refine callR_of (d_DrawAllStairs h hn.2 hl) ?_
  rintro _ N1 ⟨⟨x, y, z, rfl⟩, hp1⟩
  obtain ⟨A, n, fb, sb, eA, eF, eN, eS, lA, lR, hA, hT⟩ := cnt_all x y z
  simp (disch := omega) only [↓SXd, SXu, slBounds, ↓sop, ↓aop, ↓reduceIte, LV.cells, AOp.dst, LV.I, LV.B, LV.U, LV.S, LV.nil, Nat.reduceEqDiff, Nat.reduceAdd, Nat.reduceMul, Nat.reduceSub, Nat.reduceLeDiff, Nat.reduceBEq, Nat.reduceDiv, Nat.reduceMod, Int.reduceToNat, Int.reduceLT, Int.reduceLE, Int.reduceAdd, Int.reduceSub, Int.reduceMul, Int.reduceEq, Int.reduceNeg, reduceCtorEq, resV, resAll, ARes.ev, LV.flat, ite_true, ite_false, exists_eq_left', exists_eq_left, keyOf, implies_true, fillC, capOf]
  refine callR_of (tabA (g_AllStairs (x := x) (y := y) (z := z)) eA eF) ?_
  rintro _ N2 ⟨w6, rfl, Iw6, hp2⟩
  simp (disch := omega) only [↓SXd, SXu, slBounds, ↓sop, ↓aop, ↓reduceIte, LV.cells, AOp.dst, LV.I, LV.B, LV.U, LV.S, LV.nil, Nat.reduceEqDiff, Nat.reduceAdd, Nat.reduceMul, Nat.reduceSub, Nat.reduceLeDiff, Nat.reduceBEq, Nat.reduceDiv, Nat.reduceMod, Int.reduceToNat, Int.reduceLT, Int.reduceLE, Int.reduceAdd, Int.reduceSub, Int.reduceMul, Int.reduceEq, Int.reduceNeg, reduceCtorEq, resV, resAll, ARes.ev, LV.flat, ite_true, ite_false, exists_eq_left', exists_eq_left, keyOf, implies_true, fillC, capOf]
  refine callR_of (tabA (h_sAllStairs (x := x) (y := y) (z := z)) eA eF) ?_
  rintro _ N3 ⟨w8, rfl, Iw8, hp3⟩
  simp (disch := omega) only [↓SXd, SXu, slBounds, ↓sop, ↓aop, ↓reduceIte, LV.cells, AOp.dst, LV.I, LV.B, LV.U, LV.S, LV.nil, Nat.reduceEqDiff, Nat.reduceAdd, Nat.reduceMul, Nat.reduceSub, Nat.reduceLeDiff, Nat.reduceBEq, Nat.reduceDiv, Nat.reduceMod, Int.reduceToNat, Int.reduceLT, Int.reduceLE, Int.reduceAdd, Int.reduceSub, Int.reduceMul, Int.reduceEq, Int.reduceNeg, reduceCtorEq, resV, resAll, ARes.ev, LV.flat, ite_true, ite_false, exists_eq_left', exists_eq_left, keyOf, implies_true, fillC, capOf]
  have hq := g_CountStairs (x := x) (y := y) (z := z) (M := N3)
  rw [eN, eS] at hq
  refine callK_of hq ?_
  clear hq
  simp (disch := omega) only [↓SXd, SXu, slBounds, ↓sop, ↓aop, ↓reduceIte, LV.cells, AOp.dst, LV.I, LV.B, LV.U, LV.S, LV.nil, Nat.reduceEqDiff, Nat.reduceAdd, Nat.reduceMul, Nat.reduceSub, Nat.reduceLeDiff, Nat.reduceBEq, Nat.reduceDiv, Nat.reduceMod, Int.reduceToNat, Int.reduceLT, Int.reduceLE, Int.reduceAdd, Int.reduceSub, Int.reduceMul, Int.reduceEq, Int.reduceNeg, reduceCtorEq, resV, resAll, ARes.ev, LV.flat, ite_true, ite_false, exists_eq_left', exists_eq_left, keyOf, implies_true, fillC, capOf]
  have hq := h_sCountStairs (x := x) (y := y) (z := z) (M := N3)
  rw [eN, eS] at hq
  refine callK_of hq ?_
  clear hq
  simp (disch := omega) only [↓SXd, SXu, slBounds, ↓sop, ↓aop, ↓reduceIte, LV.cells, AOp.dst, LV.I, LV.B, LV.U, LV.S, LV.nil, Nat.reduceEqDiff, Nat.reduceAdd, Nat.reduceMul, Nat.reduceSub, Nat.reduceLeDiff, Nat.reduceBEq, Nat.reduceDiv, Nat.reduceMod, Int.reduceToNat, Int.reduceLT, Int.reduceLE, Int.reduceAdd, Int.reduceSub, Int.reduceMul, Int.reduceEq, Int.reduceNeg, reduceCtorEq, resV, resAll, ARes.ev, LV.flat, ite_true, ite_false, exists_eq_left', exists_eq_left, keyOf, implies_true, fillC, capOf]
  refine callR_of (k_vCut (n := 1) (h.pre (hp1.trans (hp2.trans (hp3)))) (esz_prek hesz htM (hp1.trans (hp2.trans (hp3)))) hn.2 hl6 (by omega)) ?_
  rintro _ N4 ⟨uc4, ec4, rfl, hec4, hec2554, hecl4, hp4⟩
  simp (disch := omega) only [↓SXd, SXu, slBounds, ↓sop, ↓aop, ↓reduceIte, LV.cells, AOp.dst, LV.I, LV.B, LV.U, LV.S, LV.nil, Nat.reduceEqDiff, Nat.reduceAdd, Nat.reduceMul, Nat.reduceSub, Nat.reduceLeDiff, Nat.reduceBEq, Nat.reduceDiv, Nat.reduceMod, Int.reduceToNat, Int.reduceLT, Int.reduceLE, Int.reduceAdd, Int.reduceSub, Int.reduceMul, Int.reduceEq, Int.reduceNeg, reduceCtorEq, resV, resAll, ARes.ev, LV.flat, ite_true, ite_false, exists_eq_left', exists_eq_left, keyOf, implies_true, fillC, capOf]
  refine callR_of (d_DrawStairAt hec4 hec2554 (by omega)) ?_
  rintro _ N5 ⟨⟨p, q, r, kk, rfl⟩, hp5⟩
  obtain ⟨T, tb, eT, eTb, lT, hTT⟩ := sat_facts p q r kk
  simp (disch := omega) only [↓SXd, SXu, slBounds, ↓sop, ↓aop, ↓reduceIte, LV.cells, AOp.dst, LV.I, LV.B, LV.U, LV.S, LV.nil, Nat.reduceEqDiff, Nat.reduceAdd, Nat.reduceMul, Nat.reduceSub, Nat.reduceLeDiff, Nat.reduceBEq, Nat.reduceDiv, Nat.reduceMod, Int.reduceToNat, Int.reduceLT, Int.reduceLE, Int.reduceAdd, Int.reduceSub, Int.reduceMul, Int.reduceEq, Int.reduceNeg, reduceCtorEq, resV, resAll, ARes.ev, LV.flat, ite_true, ite_false, exists_eq_left', exists_eq_left, keyOf, implies_true, fillC, capOf]
  refine callR_of (heapGS (g_StairAt (x := p) (y := q) (z := r) (k := kk)) eT eTb) ?_
  rintro _ N6 ⟨u6, rfl, hu6, hp6⟩
  have B18 : Live (N6 ++ [some (.row [.I T.x, .I T.y, .I T.z, .ref u6 0 T.cs.length] true 0)]) N6.length (.row [.I T.x, .I T.y, .I T.z, .ref u6 0 T.cs.length] true 0) := Live.new
  have U18 := hu6.app (L := [some (.row [.I T.x, .I T.y, .I T.z, .ref u6 0 T.cs.length] true 0)])
  have q6 : Pre N5 (N6 ++ [some (.row [.I T.x, .I T.y, .I T.z, .ref u6 0 T.cs.length] true 0)]) := hp6.trans (Pre.app _ _)
  simp (disch := omega) only [splice, ↓SXd, SXu, slBounds, ↓sop, ↓aop, ↓reduceIte, LV.cells, AOp.dst, LV.I, LV.B, LV.U, LV.S, LV.nil, Nat.reduceEqDiff, Nat.reduceAdd, Nat.reduceMul, Nat.reduceSub, Nat.reduceLeDiff, Nat.reduceBEq, Nat.reduceDiv, Nat.reduceMod, Int.reduceToNat, Int.reduceLT, Int.reduceLE, Int.reduceAdd, Int.reduceSub, Int.reduceMul, Int.reduceEq, Int.reduceNeg, reduceCtorEq, resV, resAll, ARes.ev, LV.flat, ite_true, ite_false, exists_eq_left', exists_eq_left, keyOf, implies_true, fillC, capOf]
  generalize hm18 : N6.length = m18 at B18 ⊢
  generalize N6 ++ [some (Blk.row [.I T.x, .I T.y, .I T.z, .ref u6 0 T.cs.length] true 0)] = W6 at B18 U18 q6 ⊢
  refine callR_of (heapGS (h_sStairAt (x := p) (y := q) (z := r) (k := kk)) eT eTb) ?_
  rintro _ N7 ⟨u7, rfl, hu7, hp7⟩
  have B20 : Live (N7 ++ [some (.row [.I T.x, .I T.y, .I T.z, .ref u7 0 T.cs.length] true 0)]) N7.length (.row [.I T.x, .I T.y, .I T.z, .ref u7 0 T.cs.length] true 0) := Live.new
  have U20 := hu7.app (L := [some (.row [.I T.x, .I T.y, .I T.z, .ref u7 0 T.cs.length] true 0)])
  have q7 : Pre W6 (N7 ++ [some (.row [.I T.x, .I T.y, .I T.z, .ref u7 0 T.cs.length] true 0)]) := hp7.trans (Pre.app _ _)
  simp (disch := omega) only [splice, ↓SXd, SXu, slBounds, ↓sop, ↓aop, ↓reduceIte, LV.cells, AOp.dst, LV.I, LV.B, LV.U, LV.S, LV.nil, Nat.reduceEqDiff, Nat.reduceAdd, Nat.reduceMul, Nat.reduceSub, Nat.reduceLeDiff, Nat.reduceBEq, Nat.reduceDiv, Nat.reduceMod, Int.reduceToNat, Int.reduceLT, Int.reduceLE, Int.reduceAdd, Int.reduceSub, Int.reduceMul, Int.reduceEq, Int.reduceNeg, reduceCtorEq, resV, resAll, ARes.ev, LV.flat, ite_true, ite_false, exists_eq_left', exists_eq_left, keyOf, implies_true, fillC, capOf]
  generalize hm20 : N7.length = m20 at B20 ⊢
  generalize N7 ++ [some (Blk.row [.I T.x, .I T.y, .I T.z, .ref u7 0 T.cs.length] true 0)] = W7 at B20 U20 q7 ⊢
  refine callR_of (k_vCut (n := 2) (h.pre (hp1.trans (hp2.trans (hp3.trans (hp4.trans (hp5.trans (q6.trans (q7)))))))) (esz_prek hesz htM (hp1.trans (hp2.trans (hp3.trans (hp4.trans (hp5.trans (q6.trans (q7)))))))) hn.2 hl6 (by omega)) ?_
  rintro _ N8 ⟨uc8, ec8, rfl, hec8, hec2558, hecl8, hp8⟩
  simp (disch := omega) only [↓SXd, SXu, slBounds, ↓sop, ↓aop, ↓reduceIte, LV.cells, AOp.dst, LV.I, LV.B, LV.U, LV.S, LV.nil, Nat.reduceEqDiff, Nat.reduceAdd, Nat.reduceMul, Nat.reduceSub, Nat.reduceLeDiff, Nat.reduceBEq, Nat.reduceDiv, Nat.reduceMod, Int.reduceToNat, Int.reduceLT, Int.reduceLE, Int.reduceAdd, Int.reduceSub, Int.reduceMul, Int.reduceEq, Int.reduceNeg, reduceCtorEq, resV, resAll, ARes.ev, LV.flat, ite_true, ite_false, exists_eq_left', exists_eq_left, keyOf, implies_true, fillC, capOf]
  refine callR_of (d_DrawLeastStair hec8 hec2558 (by omega)) ?_
  rintro _ N9 ⟨⟨x2, y2, z2, cs2, u2, rfl, hu2, hul2, hcl2⟩, hp9⟩
  have hcn2 : cs2.length ≤ 1000000000 := by omega
  obtain ⟨L, lb, eL, eLb, lL, hLL⟩ := least_facts x2 y2 z2 cs2
  have B22 : Live (N9 ++ [some (.row [.I x2, .I y2, .I z2, .ref u2 0 cs2.length] true 0)]) N9.length (.row [.I x2, .I y2, .I z2, .ref u2 0 cs2.length] true 0) := Live.new
  have U2 := hu2.app (L := [some (.row [.I x2, .I y2, .I z2, .ref u2 0 cs2.length] true 0)])
  have q9 : Pre N8 (N9 ++ [some (.row [.I x2, .I y2, .I z2, .ref u2 0 cs2.length] true 0)]) := hp9.trans (Pre.app _ _)
  simp (disch := omega) only [splice, ↓SXd, SXu, slBounds, ↓sop, ↓aop, ↓reduceIte, LV.cells, AOp.dst, LV.I, LV.B, LV.U, LV.S, LV.nil, Nat.reduceEqDiff, Nat.reduceAdd, Nat.reduceMul, Nat.reduceSub, Nat.reduceLeDiff, Nat.reduceBEq, Nat.reduceDiv, Nat.reduceMod, Int.reduceToNat, Int.reduceLT, Int.reduceLE, Int.reduceAdd, Int.reduceSub, Int.reduceMul, Int.reduceEq, Int.reduceNeg, reduceCtorEq, resV, resAll, ARes.ev, LV.flat, ite_true, ite_false, exists_eq_left', exists_eq_left, keyOf, implies_true, fillC, capOf]
  generalize hm22 : N9.length = m22 at B22 ⊢
  generalize N9 ++ [some (Blk.row [.I x2, .I y2, .I z2, .ref u2 0 cs2.length] true 0)] = W9 at B22 U2 q9 ⊢
  refine callR_of (heapGS (g_LeastStair U2 hcn2) eL eLb) ?_
  rintro _ N10 ⟨u10, rfl, hu10, hp10⟩
  have B23 : Live (N10 ++ [some (.row [.I L.x, .I L.y, .I L.z, .ref u10 0 L.cs.length] true 0)]) N10.length (.row [.I L.x, .I L.y, .I L.z, .ref u10 0 L.cs.length] true 0) := Live.new
  have U23 := hu10.app (L := [some (.row [.I L.x, .I L.y, .I L.z, .ref u10 0 L.cs.length] true 0)])
  have q10 : Pre W9 (N10 ++ [some (.row [.I L.x, .I L.y, .I L.z, .ref u10 0 L.cs.length] true 0)]) := hp10.trans (Pre.app _ _)
  have eB22 := B22.pre (q10)
  simp (disch := omega) only [splice, eB22.cells, ↓SXd, SXu, slBounds, ↓sop, ↓aop, ↓reduceIte, LV.cells, AOp.dst, LV.I, LV.B, LV.U, LV.S, LV.nil, Nat.reduceEqDiff, Nat.reduceAdd, Nat.reduceMul, Nat.reduceSub, Nat.reduceLeDiff, Nat.reduceBEq, Nat.reduceDiv, Nat.reduceMod, Int.reduceToNat, Int.reduceLT, Int.reduceLE, Int.reduceAdd, Int.reduceSub, Int.reduceMul, Int.reduceEq, Int.reduceNeg, reduceCtorEq, resV, resAll, ARes.ev, LV.flat, ite_true, ite_false, exists_eq_left', exists_eq_left, keyOf, implies_true, fillC, capOf]
  generalize hm23 : N10.length = m23 at B23 ⊢
  generalize N10 ++ [some (Blk.row [.I L.x, .I L.y, .I L.z, .ref u10 0 L.cs.length] true 0)] = W10 at B23 U23 q10 eB22 ⊢
  refine callR_of (heapGS (h_sLeastO (U2.pre (q10)) hcn2) eL eLb) ?_
  rintro _ N11 ⟨u11, rfl, hu11, hp11⟩
  have B25 : Live (N11 ++ [some (.row [.I L.x, .I L.y, .I L.z, .ref u11 0 L.cs.length] true 0)]) N11.length (.row [.I L.x, .I L.y, .I L.z, .ref u11 0 L.cs.length] true 0) := Live.new
  have U25 := hu11.app (L := [some (.row [.I L.x, .I L.y, .I L.z, .ref u11 0 L.cs.length] true 0)])
  have q11 : Pre W10 (N11 ++ [some (.row [.I L.x, .I L.y, .I L.z, .ref u11 0 L.cs.length] true 0)]) := hp11.trans (Pre.app _ _)
  simp (disch := omega) only [splice, ↓SXd, SXu, slBounds, ↓sop, ↓aop, ↓reduceIte, LV.cells, AOp.dst, LV.I, LV.B, LV.U, LV.S, LV.nil, Nat.reduceEqDiff, Nat.reduceAdd, Nat.reduceMul, Nat.reduceSub, Nat.reduceLeDiff, Nat.reduceBEq, Nat.reduceDiv, Nat.reduceMod, Int.reduceToNat, Int.reduceLT, Int.reduceLE, Int.reduceAdd, Int.reduceSub, Int.reduceMul, Int.reduceEq, Int.reduceNeg, reduceCtorEq, resV, resAll, ARes.ev, LV.flat, ite_true, ite_false, exists_eq_left', exists_eq_left, keyOf, implies_true, fillC, capOf]
  generalize hm25 : N11.length = m25 at B25 ⊢
  generalize N11 ++ [some (Blk.row [.I L.x, .I L.y, .I L.z, .ref u11 0 L.cs.length] true 0)] = W11 at B25 U25 q11 ⊢
  refine callR_of (d_DrawGreatestStair (h.pre (hp1.trans (hp2.trans (hp3.trans (hp4.trans (hp5.trans (q6.trans (q7.trans (hp8.trans (q9.trans (q10.trans (q11)))))))))))) hn.2 hl) ?_
  rintro _ N12 ⟨⟨x3, y3, z3, cs3, u3, rfl, hu3, hul3, hcl3⟩, hp12⟩
  have hcn3 : cs3.length ≤ 1000000000 := by omega
  obtain ⟨H, hb, eH, eHb, lH, hHH⟩ := great_facts x3 y3 z3 cs3
  have B27 : Live (N12 ++ [some (.row [.I x3, .I y3, .I z3, .ref u3 0 cs3.length] true 0)]) N12.length (.row [.I x3, .I y3, .I z3, .ref u3 0 cs3.length] true 0) := Live.new
  have U3 := hu3.app (L := [some (.row [.I x3, .I y3, .I z3, .ref u3 0 cs3.length] true 0)])
  have q12 : Pre W11 (N12 ++ [some (.row [.I x3, .I y3, .I z3, .ref u3 0 cs3.length] true 0)]) := hp12.trans (Pre.app _ _)
  simp (disch := omega) only [splice, ↓SXd, SXu, slBounds, ↓sop, ↓aop, ↓reduceIte, LV.cells, AOp.dst, LV.I, LV.B, LV.U, LV.S, LV.nil, Nat.reduceEqDiff, Nat.reduceAdd, Nat.reduceMul, Nat.reduceSub, Nat.reduceLeDiff, Nat.reduceBEq, Nat.reduceDiv, Nat.reduceMod, Int.reduceToNat, Int.reduceLT, Int.reduceLE, Int.reduceAdd, Int.reduceSub, Int.reduceMul, Int.reduceEq, Int.reduceNeg, reduceCtorEq, resV, resAll, ARes.ev, LV.flat, ite_true, ite_false, exists_eq_left', exists_eq_left, keyOf, implies_true, fillC, capOf]
  generalize hm27 : N12.length = m27 at B27 ⊢
  generalize N12 ++ [some (Blk.row [.I x3, .I y3, .I z3, .ref u3 0 cs3.length] true 0)] = W12 at B27 U3 q12 ⊢
  refine callR_of (heapGS (g_GreatestStair U3 hcn3) eH eHb) ?_
  rintro _ N13 ⟨u13, rfl, hu13, hp13⟩
  have B28 : Live (N13 ++ [some (.row [.I H.x, .I H.y, .I H.z, .ref u13 0 H.cs.length] true 0)]) N13.length (.row [.I H.x, .I H.y, .I H.z, .ref u13 0 H.cs.length] true 0) := Live.new
  have U28 := hu13.app (L := [some (.row [.I H.x, .I H.y, .I H.z, .ref u13 0 H.cs.length] true 0)])
  have q13 : Pre W12 (N13 ++ [some (.row [.I H.x, .I H.y, .I H.z, .ref u13 0 H.cs.length] true 0)]) := hp13.trans (Pre.app _ _)
  have eB27 := B27.pre (q13)
  simp (disch := omega) only [splice, eB27.cells, ↓SXd, SXu, slBounds, ↓sop, ↓aop, ↓reduceIte, LV.cells, AOp.dst, LV.I, LV.B, LV.U, LV.S, LV.nil, Nat.reduceEqDiff, Nat.reduceAdd, Nat.reduceMul, Nat.reduceSub, Nat.reduceLeDiff, Nat.reduceBEq, Nat.reduceDiv, Nat.reduceMod, Int.reduceToNat, Int.reduceLT, Int.reduceLE, Int.reduceAdd, Int.reduceSub, Int.reduceMul, Int.reduceEq, Int.reduceNeg, reduceCtorEq, resV, resAll, ARes.ev, LV.flat, ite_true, ite_false, exists_eq_left', exists_eq_left, keyOf, implies_true, fillC, capOf]
  generalize hm28 : N13.length = m28 at B28 ⊢
  generalize N13 ++ [some (Blk.row [.I H.x, .I H.y, .I H.z, .ref u13 0 H.cs.length] true 0)] = W13 at B28 U28 q13 eB27 ⊢
  refine callR_of (heapGS (h_sGreatestStair (U3.pre (q13)) hcn3) eH eHb) ?_
  rintro _ N14 ⟨u14, rfl, hu14, hp14⟩
  have B30 : Live (N14 ++ [some (.row [.I H.x, .I H.y, .I H.z, .ref u14 0 H.cs.length] true 0)]) N14.length (.row [.I H.x, .I H.y, .I H.z, .ref u14 0 H.cs.length] true 0) := Live.new
  have U30 := hu14.app (L := [some (.row [.I H.x, .I H.y, .I H.z, .ref u14 0 H.cs.length] true 0)])
  have q14 : Pre W13 (N14 ++ [some (.row [.I H.x, .I H.y, .I H.z, .ref u14 0 H.cs.length] true 0)]) := hp14.trans (Pre.app _ _)
  simp (disch := omega) only [splice, ↓SXd, SXu, slBounds, ↓sop, ↓aop, ↓reduceIte, LV.cells, AOp.dst, LV.I, LV.B, LV.U, LV.S, LV.nil, Nat.reduceEqDiff, Nat.reduceAdd, Nat.reduceMul, Nat.reduceSub, Nat.reduceLeDiff, Nat.reduceBEq, Nat.reduceDiv, Nat.reduceMod, Int.reduceToNat, Int.reduceLT, Int.reduceLE, Int.reduceAdd, Int.reduceSub, Int.reduceMul, Int.reduceEq, Int.reduceNeg, reduceCtorEq, resV, resAll, ARes.ev, LV.flat, ite_true, ite_false, exists_eq_left', exists_eq_left, keyOf, implies_true, fillC, capOf]
  generalize hm30 : N14.length = m30 at B30 ⊢
  generalize N14 ++ [some (Blk.row [.I H.x, .I H.y, .I H.z, .ref u14 0 H.cs.length] true 0)] = W14 at B30 U30 q14 ⊢
  have c18 := (B18.pre (q7.trans (hp8.trans (q9.trans (q10.trans (q11.trans (q12.trans (q13.trans (q14)))))))))
  have c20 := (B20.pre (hp8.trans (q9.trans (q10.trans (q11.trans (q12.trans (q13.trans (q14))))))))
  have c23 := (B23.pre (q11.trans (q12.trans (q13.trans (q14)))))
  have c25 := (B25.pre (q12.trans (q13.trans (q14))))
  have c28 := (B28.pre (q14))
  have c30 := B30
  refine callK_of (k_vTable (Iw6.pre (hp3.trans (hp4.trans (hp5.trans (q6.trans (q7.trans (hp8.trans (q9.trans (q10.trans (q11.trans (q12.trans (q13.trans (q14))))))))))))) (Iw8.pre (hp4.trans (hp5.trans (q6.trans (q7.trans (hp8.trans (q9.trans (q10.trans (q11.trans (q12.trans (q13.trans (q14)))))))))))) lA lR) ?_
  simp (disch := omega) only [Bool.not_true, c18.cells, c20.cells, ↓SXd, SXu, slBounds, ↓sop, ↓aop, ↓reduceIte, LV.cells, AOp.dst, LV.I, LV.B, LV.U, LV.S, LV.nil, Nat.reduceEqDiff, Nat.reduceAdd, Nat.reduceMul, Nat.reduceSub, Nat.reduceLeDiff, Nat.reduceBEq, Nat.reduceDiv, Nat.reduceMod, Int.reduceToNat, Int.reduceLT, Int.reduceLE, Int.reduceAdd, Int.reduceSub, Int.reduceMul, Int.reduceEq, Int.reduceNeg, reduceCtorEq, resV, resAll, ARes.ev, LV.flat, ite_true, ite_false, exists_eq_left', exists_eq_left, keyOf, implies_true, fillC, capOf]
  refine callK_of (k_vHeap (g := T) (h := T) (.inr ⟨u6, 0, rfl, (U18.pre (q7.trans (hp8.trans (q9.trans (q10.trans (q11.trans (q12.trans (q13.trans (q14))))))))).has⟩) (.inr ⟨u7, 0, rfl, (U20.pre (hp8.trans (q9.trans (q10.trans (q11.trans (q12.trans (q13.trans (q14)))))))).has⟩) (by omega) (by omega)) ?_
  rw [same_hp]
  simp (disch := omega) only [Bool.not_true, c23.cells, c25.cells, ↓SXd, SXu, slBounds, ↓sop, ↓aop, ↓reduceIte, LV.cells, AOp.dst, LV.I, LV.B, LV.U, LV.S, LV.nil, Nat.reduceEqDiff, Nat.reduceAdd, Nat.reduceMul, Nat.reduceSub, Nat.reduceLeDiff, Nat.reduceBEq, Nat.reduceDiv, Nat.reduceMod, Int.reduceToNat, Int.reduceLT, Int.reduceLE, Int.reduceAdd, Int.reduceSub, Int.reduceMul, Int.reduceEq, Int.reduceNeg, reduceCtorEq, resV, resAll, ARes.ev, LV.flat, ite_true, ite_false, exists_eq_left', exists_eq_left, keyOf, implies_true, fillC, capOf]
  refine callK_of (k_vHeap (g := L) (h := L) (.inr ⟨u10, 0, rfl, (U23.pre (q11.trans (q12.trans (q13.trans (q14))))).has⟩) (.inr ⟨u11, 0, rfl, (U25.pre (q12.trans (q13.trans (q14)))).has⟩) (by omega) (by omega)) ?_
  rw [same_hp]
  simp (disch := omega) only [Bool.not_true, c28.cells, c30.cells, ↓SXd, SXu, slBounds, ↓sop, ↓aop, ↓reduceIte, LV.cells, AOp.dst, LV.I, LV.B, LV.U, LV.S, LV.nil, Nat.reduceEqDiff, Nat.reduceAdd, Nat.reduceMul, Nat.reduceSub, Nat.reduceLeDiff, Nat.reduceBEq, Nat.reduceDiv, Nat.reduceMod, Int.reduceToNat, Int.reduceLT, Int.reduceLE, Int.reduceAdd, Int.reduceSub, Int.reduceMul, Int.reduceEq, Int.reduceNeg, reduceCtorEq, resV, resAll, ARes.ev, LV.flat, ite_true, ite_false, exists_eq_left', exists_eq_left, keyOf, implies_true, fillC, capOf]
  refine callK_of (k_vHeap (g := H) (h := H) (.inr ⟨u13, 0, rfl, (U28.pre (q14)).has⟩) (.inr ⟨u14, 0, rfl, U30.has⟩) (by omega) (by omega)) ?_
  rw [same_hp]
  refine put_cut (fun fr' M' => M' = W14 ∧ fr' 3 = .I x ∧ fr' 4 = .I y ∧ fr' 5 = .I z ∧ fr' 6 = w6 ∧ fr' 7 = .B fb ∧ fr' 10 = .I n ∧ fr' 11 = .B sb ∧ fr' 17 = .I kk ∧ fr' 18 = .ptr m18 0 ∧ fr' 19 = .B tb ∧ fr' 22 = .ptr m22 0 ∧ fr' 23 = .ptr m23 0 ∧ fr' 24 = .B lb ∧ fr' 27 = .ptr m27 0 ∧ fr' 28 = .ptr m28 0 ∧ fr' 29 = .B hb) ?_ ?_
  · cases fb
    · simp (disch := omega) only [beq_self_eq_true, Bool.not_true, ↓SXd, SXu, slBounds, ↓sop, ↓aop, ↓reduceIte, LV.cells, AOp.dst, LV.I, LV.B, LV.U, LV.S, LV.nil, Nat.reduceEqDiff, Nat.reduceAdd, Nat.reduceMul, Nat.reduceSub, Nat.reduceLeDiff, Nat.reduceBEq, Nat.reduceDiv, Nat.reduceMod, Int.reduceToNat, Int.reduceLT, Int.reduceLE, Int.reduceAdd, Int.reduceSub, Int.reduceMul, Int.reduceEq, Int.reduceNeg, reduceCtorEq, resV, resAll, ARes.ev, LV.flat, ite_true, ite_false, exists_eq_left', exists_eq_left, keyOf, implies_true, fillC, capOf]
      all_goals exact ⟨rfl, by first | rfl | assumption, by first | rfl | assumption, by first | rfl | assumption, by first | rfl | assumption, by first | rfl | assumption, by first | rfl | assumption, by first | rfl | assumption, by first | rfl | assumption, by first | rfl | assumption, by first | rfl | assumption, by first | rfl | assumption, by first | rfl | assumption, by first | rfl | assumption, by first | rfl | assumption, by first | rfl | assumption, by first | rfl | assumption⟩
    · have hsb : sb = true := (hA rfl).1
      simp (disch := omega) only [beq_self_eq_true, Bool.not_true, hsb, ↓SXd, SXu, slBounds, ↓sop, ↓aop, ↓reduceIte, LV.cells, AOp.dst, LV.I, LV.B, LV.U, LV.S, LV.nil, Nat.reduceEqDiff, Nat.reduceAdd, Nat.reduceMul, Nat.reduceSub, Nat.reduceLeDiff, Nat.reduceBEq, Nat.reduceDiv, Nat.reduceMod, Int.reduceToNat, Int.reduceLT, Int.reduceLE, Int.reduceAdd, Int.reduceSub, Int.reduceMul, Int.reduceEq, Int.reduceNeg, reduceCtorEq, resV, resAll, ARes.ev, LV.flat, ite_true, ite_false, exists_eq_left', exists_eq_left, keyOf, implies_true, fillC, capOf]
      all_goals exact ⟨rfl, by first | rfl | assumption | exact hsb ▸ rfl, by first | rfl | assumption | exact hsb ▸ rfl, by first | rfl | assumption | exact hsb ▸ rfl, by first | rfl | assumption | exact hsb ▸ rfl, by first | rfl | assumption | exact hsb ▸ rfl, by first | rfl | assumption | exact hsb ▸ rfl, by first | rfl | assumption | exact hsb ▸ rfl, by first | rfl | assumption | exact hsb ▸ rfl, by first | rfl | assumption | exact hsb ▸ rfl, by first | rfl | assumption | exact hsb ▸ rfl, by first | rfl | assumption | exact hsb ▸ rfl, by first | rfl | assumption | exact hsb ▸ rfl, by first | rfl | assumption | exact hsb ▸ rfl, by first | rfl | assumption | exact hsb ▸ rfl, by first | rfl | assumption | exact hsb ▸ rfl, by first | rfl | assumption | exact hsb ▸ rfl⟩
  rintro fr W14 ⟨rfl, f3, f4, f5, f6, f7, f10, f11, f17, f18, f19, f22, f23, f24, f27, f28, f29⟩
  have B18f := (B18.pre (q7.trans (hp8.trans (q9.trans (q10.trans (q11.trans (q12.trans (q13.trans (q14)))))))))
  have U18f := (U18.pre (q7.trans (hp8.trans (q9.trans (q10.trans (q11.trans (q12.trans (q13.trans (q14)))))))))
  have B22f := (B22.pre (q10.trans (q11.trans (q12.trans (q13.trans (q14))))))
  have U2f := (U2.pre (q10.trans (q11.trans (q12.trans (q13.trans (q14))))))
  have B23f := (B23.pre (q11.trans (q12.trans (q13.trans (q14)))))
  have U23f := (U23.pre (q11.trans (q12.trans (q13.trans (q14)))))
  have B27f := (B27.pre (q13.trans (q14)))
  have U3f := (U3.pre (q13.trans (q14)))
  have B28f := (B28.pre (q14))
  have U28f := (U28.pre (q14))
  have Iw6f := (Iw6.pre (hp3.trans (hp4.trans (hp5.trans (q6.trans (q7.trans (hp8.trans (q9.trans (q10.trans (q11.trans (q12.trans (q13.trans (q14)))))))))))))
  simp (disch := omega) only [f3, f4, f5, f6, f7, f10, f11, f17, f18, f19, f22, f23, f24, f27, f28, f29, ↓SXd, SXu, slBounds, ↓sop, ↓aop, ↓reduceIte, LV.cells, AOp.dst, LV.I, LV.B, LV.U, LV.S, LV.nil, Nat.reduceEqDiff, Nat.reduceAdd, Nat.reduceMul, Nat.reduceSub, Nat.reduceLeDiff, Nat.reduceBEq, Nat.reduceDiv, Nat.reduceMod, Int.reduceToNat, Int.reduceLT, Int.reduceLE, Int.reduceAdd, Int.reduceSub, Int.reduceMul, Int.reduceEq, Int.reduceNeg, reduceCtorEq, resV, resAll, ARes.ev, LV.flat, ite_true, ite_false, exists_eq_left', exists_eq_left, keyOf, implies_true, fillC, capOf]
  refine cond_cut (fun fr' M' => M' = W14 ∧ fr' 3 = .I x ∧ fr' 4 = .I y ∧ fr' 5 = .I z ∧ fr' 6 = w6 ∧ fr' 7 = .B fb ∧ fr' 10 = .I n ∧ fr' 11 = .B sb ∧ fr' 22 = .ptr m22 0 ∧ fr' 23 = .ptr m23 0 ∧ fr' 24 = .B lb ∧ fr' 27 = .ptr m27 0 ∧ fr' 28 = .ptr m28 0 ∧ fr' 29 = .B hb) ?_ ?_
  · cases tb
    · simp (disch := omega) only [f3, f4, f5, f6, f7, f10, f11, f17, f18, f19, f22, f23, f24, f27, f28, f29, ↓SXd, SXu, slBounds, ↓sop, ↓aop, ↓reduceIte, LV.cells, AOp.dst, LV.I, LV.B, LV.U, LV.S, LV.nil, Nat.reduceEqDiff, Nat.reduceAdd, Nat.reduceMul, Nat.reduceSub, Nat.reduceLeDiff, Nat.reduceBEq, Nat.reduceDiv, Nat.reduceMod, Int.reduceToNat, Int.reduceLT, Int.reduceLE, Int.reduceAdd, Int.reduceSub, Int.reduceMul, Int.reduceEq, Int.reduceNeg, reduceCtorEq, resV, resAll, ARes.ev, LV.flat, ite_true, ite_false, exists_eq_left', exists_eq_left, keyOf, implies_true, fillC, capOf]
      all_goals first | done | exact rfl | exact ⟨rfl, by first | rfl | assumption, by first | rfl | assumption, by first | rfl | assumption, by first | rfl | assumption, by first | rfl | assumption, by first | rfl | assumption, by first | rfl | assumption, by first | rfl | assumption, by first | rfl | assumption, by first | rfl | assumption, by first | rfl | assumption, by first | rfl | assumption, by first | rfl | assumption⟩
    obtain ⟨hr1, hr2⟩ := hTT rfl
    simp (disch := omega) only [f3, f4, f5, f6, f7, f10, f11, f17, f18, f19, f22, f23, f24, f27, f28, f29, B18f.cells, ↓SXd, SXu, slBounds, ↓sop, ↓aop, ↓reduceIte, LV.cells, AOp.dst, LV.I, LV.B, LV.U, LV.S, LV.nil, Nat.reduceEqDiff, Nat.reduceAdd, Nat.reduceMul, Nat.reduceSub, Nat.reduceLeDiff, Nat.reduceBEq, Nat.reduceDiv, Nat.reduceMod, Int.reduceToNat, Int.reduceLT, Int.reduceLE, Int.reduceAdd, Int.reduceSub, Int.reduceMul, Int.reduceEq, Int.reduceNeg, reduceCtorEq, resV, resAll, ARes.ev, LV.flat, ite_true, ite_false, exists_eq_left', exists_eq_left, keyOf, implies_true, fillC, capOf]
    have hq := g_RankStair (x := T.x) (y := T.y) (z := T.z) U18f (by omega)
    rw [hr1] at hq
    refine callK_of hq ?_
    clear hq
    simp (disch := omega) only [f3, f4, f5, f6, f7, f10, f11, f17, f18, f19, f22, f23, f24, f27, f28, f29, hr2, beq_self_eq_true, Bool.not_true, ↓SXd, SXu, slBounds, ↓sop, ↓aop, ↓reduceIte, LV.cells, AOp.dst, LV.I, LV.B, LV.U, LV.S, LV.nil, Nat.reduceEqDiff, Nat.reduceAdd, Nat.reduceMul, Nat.reduceSub, Nat.reduceLeDiff, Nat.reduceBEq, Nat.reduceDiv, Nat.reduceMod, Int.reduceToNat, Int.reduceLT, Int.reduceLE, Int.reduceAdd, Int.reduceSub, Int.reduceMul, Int.reduceEq, Int.reduceNeg, reduceCtorEq, resV, resAll, ARes.ev, LV.flat, ite_true, ite_false, exists_eq_left', exists_eq_left, keyOf, implies_true, fillC, capOf]
    all_goals first | done | exact rfl | exact ⟨rfl, by first | rfl | assumption, by first | rfl | assumption, by first | rfl | assumption, by first | rfl | assumption, by first | rfl | assumption, by first | rfl | assumption, by first | rfl | assumption, by first | rfl | assumption, by first | rfl | assumption, by first | rfl | assumption, by first | rfl | assumption, by first | rfl | assumption, by first | rfl | assumption⟩
  clear f3 f4 f5 f6 f7 f10 f11 f17 f18 f19 f22 f23 f24 f27 f28 f29
  rintro fr W14 ⟨rfl, f3, f4, f5, f6, f7, f10, f11, f22, f23, f24, f27, f28, f29⟩
  simp (disch := omega) only [f3, f4, f5, f6, f7, f10, f11, f22, f23, f24, f27, f28, f29, ↓SXd, SXu, slBounds, ↓sop, ↓aop, ↓reduceIte, LV.cells, AOp.dst, LV.I, LV.B, LV.U, LV.S, LV.nil, Nat.reduceEqDiff, Nat.reduceAdd, Nat.reduceMul, Nat.reduceSub, Nat.reduceLeDiff, Nat.reduceBEq, Nat.reduceDiv, Nat.reduceMod, Int.reduceToNat, Int.reduceLT, Int.reduceLE, Int.reduceAdd, Int.reduceSub, Int.reduceMul, Int.reduceEq, Int.reduceNeg, reduceCtorEq, resV, resAll, ARes.ev, LV.flat, ite_true, ite_false, exists_eq_left', exists_eq_left, keyOf, implies_true, fillC, capOf]
  refine cond_cut (fun fr' M' => Pre W14 M' ∧ fr' 3 = .I x ∧ fr' 4 = .I y ∧ fr' 5 = .I z ∧ fr' 6 = w6 ∧ fr' 7 = .B fb ∧ fr' 10 = .I n ∧ fr' 11 = .B sb ∧ fr' 27 = .ptr m27 0 ∧ fr' 28 = .ptr m28 0 ∧ fr' 29 = .B hb) ?_ ?_
  · cases lb
    · simp (disch := omega) only [f3, f4, f5, f6, f7, f10, f11, f22, f23, f24, f27, f28, f29, ↓SXd, SXu, slBounds, ↓sop, ↓aop, ↓reduceIte, LV.cells, AOp.dst, LV.I, LV.B, LV.U, LV.S, LV.nil, Nat.reduceEqDiff, Nat.reduceAdd, Nat.reduceMul, Nat.reduceSub, Nat.reduceLeDiff, Nat.reduceBEq, Nat.reduceDiv, Nat.reduceMod, Int.reduceToNat, Int.reduceLT, Int.reduceLE, Int.reduceAdd, Int.reduceSub, Int.reduceMul, Int.reduceEq, Int.reduceNeg, reduceCtorEq, resV, resAll, ARes.ev, LV.flat, ite_true, ite_false, exists_eq_left', exists_eq_left, keyOf, implies_true, fillC, capOf]
      all_goals first | done | exact Pre.refl _ | exact ⟨Pre.refl _, by first | rfl | assumption, by first | rfl | assumption, by first | rfl | assumption, by first | rfl | assumption, by first | rfl | assumption, by first | rfl | assumption, by first | rfl | assumption, by first | rfl | assumption, by first | rfl | assumption, by first | rfl | assumption⟩
    obtain ⟨r1, r2, r3, r4, r5⟩ := hLL rfl
    have hLlen := r2.len
    simp (disch := omega) only [f3, f4, f5, f6, f7, f10, f11, f22, f23, f24, f27, f28, f29, B23f.cells, ↓SXd, SXu, slBounds, ↓sop, ↓aop, ↓reduceIte, LV.cells, AOp.dst, LV.I, LV.B, LV.U, LV.S, LV.nil, Nat.reduceEqDiff, Nat.reduceAdd, Nat.reduceMul, Nat.reduceSub, Nat.reduceLeDiff, Nat.reduceBEq, Nat.reduceDiv, Nat.reduceMod, Int.reduceToNat, Int.reduceLT, Int.reduceLE, Int.reduceAdd, Int.reduceSub, Int.reduceMul, Int.reduceEq, Int.reduceNeg, reduceCtorEq, resV, resAll, ARes.ev, LV.flat, ite_true, ite_false, exists_eq_left', exists_eq_left, keyOf, implies_true, fillC, capOf]
    have hq := g_IsStair (x := L.x) (y := L.y) (z := L.z) U23f (by omega)
    rw [r1, decide_eq_true r2] at hq
    refine callK_of hq ?_
    clear hq
    simp (disch := omega) only [f3, f4, f5, f6, f7, f10, f11, f22, f23, f24, f27, f28, f29, B23f.cells, ↓SXd, SXu, slBounds, ↓sop, ↓aop, ↓reduceIte, LV.cells, AOp.dst, LV.I, LV.B, LV.U, LV.S, LV.nil, Nat.reduceEqDiff, Nat.reduceAdd, Nat.reduceMul, Nat.reduceSub, Nat.reduceLeDiff, Nat.reduceBEq, Nat.reduceDiv, Nat.reduceMod, Int.reduceToNat, Int.reduceLT, Int.reduceLE, Int.reduceAdd, Int.reduceSub, Int.reduceMul, Int.reduceEq, Int.reduceNeg, reduceCtorEq, resV, resAll, ARes.ev, LV.flat, ite_true, ite_false, exists_eq_left', exists_eq_left, keyOf, implies_true, fillC, capOf]
    refine callR_of (heapGS (G := L) (b := true) (g_LeastStair (x := L.x) (y := L.y) (z := L.z) U23f (by omega)) (by rw [r3]; rfl) (by rw [r3]; rfl)) ?_
    rintro _ Y1 ⟨v1, rfl, hv1, hy1⟩
    have B36 : Live (Y1 ++ [some (.row [.I L.x, .I L.y, .I L.z, .ref v1 0 L.cs.length] true 0)]) Y1.length (.row [.I L.x, .I L.y, .I L.z, .ref v1 0 L.cs.length] true 0) := Live.new
    have V1 := hv1.app (L := [some (.row [.I L.x, .I L.y, .I L.z, .ref v1 0 L.cs.length] true 0)])
    have hy2 : Pre W14 (Y1 ++ [some (.row [.I L.x, .I L.y, .I L.z, .ref v1 0 L.cs.length] true 0)]) := hy1.trans (Pre.app _ _)
    simp (disch := omega) only [f3, f4, f5, f6, f7, f10, f11, f22, f23, f24, f27, f28, f29, splice, ↓SXd, SXu, slBounds, ↓sop, ↓aop, ↓reduceIte, LV.cells, AOp.dst, LV.I, LV.B, LV.U, LV.S, LV.nil, Nat.reduceEqDiff, Nat.reduceAdd, Nat.reduceMul, Nat.reduceSub, Nat.reduceLeDiff, Nat.reduceBEq, Nat.reduceDiv, Nat.reduceMod, Int.reduceToNat, Int.reduceLT, Int.reduceLE, Int.reduceAdd, Int.reduceSub, Int.reduceMul, Int.reduceEq, Int.reduceNeg, reduceCtorEq, resV, resAll, ARes.ev, LV.flat, ite_true, ite_false, exists_eq_left', exists_eq_left, keyOf, implies_true, fillC, capOf]
    generalize hm36 : Y1.length = m36 at B36 ⊢
    generalize Y1 ++ [some (Blk.row [.I L.x, .I L.y, .I L.z, .ref v1 0 L.cs.length] true 0)] = Y2 at B36 V1 hy2 ⊢
    have c22 := B22f.pre hy2
    have c23 := B23f.pre hy2
    have u23 := U23f.pre hy2
    have u22 := U2f.pre hy2
    simp (disch := omega) only [f3, f4, f5, f6, f7, f10, f11, f22, f23, f24, f27, f28, f29, beq_self_eq_true, Bool.not_true, c22.cell, c23.cell, c23.cells, c22.cells, B36.cells, ↓SXd, SXu, slBounds, ↓sop, ↓aop, ↓reduceIte, LV.cells, AOp.dst, LV.I, LV.B, LV.U, LV.S, LV.nil, Nat.reduceEqDiff, Nat.reduceAdd, Nat.reduceMul, Nat.reduceSub, Nat.reduceLeDiff, Nat.reduceBEq, Nat.reduceDiv, Nat.reduceMod, Int.reduceToNat, Int.reduceLT, Int.reduceLE, Int.reduceAdd, Int.reduceSub, Int.reduceMul, Int.reduceEq, Int.reduceNeg, reduceCtorEq, resV, resAll, ARes.ev, LV.flat, ite_true, ite_false, exists_eq_left', exists_eq_left, keyOf, implies_true, fillC, capOf]
    refine callK_of (k_vWithin (l := cs2) (l' := L.cs) (.inr ⟨u2, 0, rfl, u22.has⟩) (.inr ⟨u10, 0, rfl, u23.has⟩) (by omega) (by omega) r4) ?_
    simp (disch := omega) only [f3, f4, f5, f6, f7, f10, f11, f22, f23, f24, f27, f28, f29, beq_self_eq_true, Bool.not_true, c23.cells, B36.cells, ↓SXd, SXu, slBounds, ↓sop, ↓aop, ↓reduceIte, LV.cells, AOp.dst, LV.I, LV.B, LV.U, LV.S, LV.nil, Nat.reduceEqDiff, Nat.reduceAdd, Nat.reduceMul, Nat.reduceSub, Nat.reduceLeDiff, Nat.reduceBEq, Nat.reduceDiv, Nat.reduceMod, Int.reduceToNat, Int.reduceLT, Int.reduceLE, Int.reduceAdd, Int.reduceSub, Int.reduceMul, Int.reduceEq, Int.reduceNeg, reduceCtorEq, resV, resAll, ARes.ev, LV.flat, ite_true, ite_false, exists_eq_left', exists_eq_left, keyOf, implies_true, fillC, capOf]
    refine callK_of (k_vHeap (g := L) (h := L) (.inr ⟨v1, 0, rfl, V1.has⟩) (.inr ⟨u10, 0, rfl, u23.has⟩) (by omega) (by omega)) ?_
    rw [same_hp]
    simp (disch := omega) only [f3, f4, f5, f6, f7, f10, f11, f22, f23, f24, f27, f28, f29, beq_self_eq_true, Bool.not_true, c23.cells, ↓SXd, SXu, slBounds, ↓sop, ↓aop, ↓reduceIte, LV.cells, AOp.dst, LV.I, LV.B, LV.U, LV.S, LV.nil, Nat.reduceEqDiff, Nat.reduceAdd, Nat.reduceMul, Nat.reduceSub, Nat.reduceLeDiff, Nat.reduceBEq, Nat.reduceDiv, Nat.reduceMod, Int.reduceToNat, Int.reduceLT, Int.reduceLE, Int.reduceAdd, Int.reduceSub, Int.reduceMul, Int.reduceEq, Int.reduceNeg, reduceCtorEq, resV, resAll, ARes.ev, LV.flat, ite_true, ite_false, exists_eq_left', exists_eq_left, keyOf, implies_true, fillC, capOf]
    refine callR_of (g_StairCorners (x := L.x) (y := L.y) (z := L.z) u23 (strB_iff.1 r1)) ?_
    rintro _ Y3 ⟨v3, rfl, hv3, hy3⟩
    have c22' := c22.pre hy3
    have hcl : (cornL L.x L.y L.z L.cs).length ≤ 64 := by
      have := List.length_filter_le (cornC L.x L.y L.z fun d => decide (d ∈ L.cs)) L.cs
      unfold cornL; omega
    simp (disch := omega) only [f3, f4, f5, f6, f7, f10, f11, f22, f23, f24, f27, f28, f29, beq_self_eq_true, Bool.not_true, c22'.cell, ↓SXd, SXu, slBounds, ↓sop, ↓aop, ↓reduceIte, LV.cells, AOp.dst, LV.I, LV.B, LV.U, LV.S, LV.nil, Nat.reduceEqDiff, Nat.reduceAdd, Nat.reduceMul, Nat.reduceSub, Nat.reduceLeDiff, Nat.reduceBEq, Nat.reduceDiv, Nat.reduceMod, Int.reduceToNat, Int.reduceLT, Int.reduceLE, Int.reduceAdd, Int.reduceSub, Int.reduceMul, Int.reduceEq, Int.reduceNeg, reduceCtorEq, resV, resAll, ARes.ev, LV.flat, ite_true, ite_false, exists_eq_left', exists_eq_left, keyOf, implies_true, fillC, capOf]
    refine callK_of (k_vWithin (l := cornL L.x L.y L.z L.cs) (l' := cs2) (.inr ⟨v3, 0, rfl, hv3.has⟩) (.inr ⟨u2, 0, rfl, (u22.pre hy3).has⟩) (by omega) (by omega) r5) ?_
    simp (disch := omega) only [f3, f4, f5, f6, f7, f10, f11, f22, f23, f24, f27, f28, f29, beq_self_eq_true, Bool.not_true, ↓SXd, SXu, slBounds, ↓sop, ↓aop, ↓reduceIte, LV.cells, AOp.dst, LV.I, LV.B, LV.U, LV.S, LV.nil, Nat.reduceEqDiff, Nat.reduceAdd, Nat.reduceMul, Nat.reduceSub, Nat.reduceLeDiff, Nat.reduceBEq, Nat.reduceDiv, Nat.reduceMod, Int.reduceToNat, Int.reduceLT, Int.reduceLE, Int.reduceAdd, Int.reduceSub, Int.reduceMul, Int.reduceEq, Int.reduceNeg, reduceCtorEq, resV, resAll, ARes.ev, LV.flat, ite_true, ite_false, exists_eq_left', exists_eq_left, keyOf, implies_true, fillC, capOf]
    all_goals first | done | exact hy2.trans hy3 | exact ⟨hy2.trans hy3, by first | rfl | assumption, by first | rfl | assumption, by first | rfl | assumption, by first | rfl | assumption, by first | rfl | assumption, by first | rfl | assumption, by first | rfl | assumption, by first | rfl | assumption, by first | rfl | assumption, by first | rfl | assumption⟩
  clear f3 f4 f5 f6 f7 f10 f11 f22 f23 f24 f27 f28 f29
  rintro fr X ⟨hX, f3, f4, f5, f6, f7, f10, f11, f27, f28, f29⟩
  replace B27f := B27f.pre hX
  replace U3f := U3f.pre hX
  replace B28f := B28f.pre hX
  replace U28f := U28f.pre hX
  replace Iw6f := Iw6f.pre hX
  simp (disch := omega) only [f3, f4, f5, f6, f7, f10, f11, f27, f28, f29, ↓SXd, SXu, slBounds, ↓sop, ↓aop, ↓reduceIte, LV.cells, AOp.dst, LV.I, LV.B, LV.U, LV.S, LV.nil, Nat.reduceEqDiff, Nat.reduceAdd, Nat.reduceMul, Nat.reduceSub, Nat.reduceLeDiff, Nat.reduceBEq, Nat.reduceDiv, Nat.reduceMod, Int.reduceToNat, Int.reduceLT, Int.reduceLE, Int.reduceAdd, Int.reduceSub, Int.reduceMul, Int.reduceEq, Int.reduceNeg, reduceCtorEq, resV, resAll, ARes.ev, LV.flat, ite_true, ite_false, exists_eq_left', exists_eq_left, keyOf, implies_true, fillC, capOf]
  refine cond_cut (fun fr' M' => Pre X M' ∧ fr' 3 = .I x ∧ fr' 4 = .I y ∧ fr' 5 = .I z ∧ fr' 6 = w6 ∧ fr' 7 = .B fb ∧ fr' 10 = .I n ∧ fr' 11 = .B sb) ?_ ?_
  · cases hb
    · simp (disch := omega) only [f3, f4, f5, f6, f7, f10, f11, f27, f28, f29, ↓SXd, SXu, slBounds, ↓sop, ↓aop, ↓reduceIte, LV.cells, AOp.dst, LV.I, LV.B, LV.U, LV.S, LV.nil, Nat.reduceEqDiff, Nat.reduceAdd, Nat.reduceMul, Nat.reduceSub, Nat.reduceLeDiff, Nat.reduceBEq, Nat.reduceDiv, Nat.reduceMod, Int.reduceToNat, Int.reduceLT, Int.reduceLE, Int.reduceAdd, Int.reduceSub, Int.reduceMul, Int.reduceEq, Int.reduceNeg, reduceCtorEq, resV, resAll, ARes.ev, LV.flat, ite_true, ite_false, exists_eq_left', exists_eq_left, keyOf, implies_true, fillC, capOf]
      all_goals first | done | exact Pre.refl _ | exact ⟨Pre.refl _, by first | rfl | assumption, by first | rfl | assumption, by first | rfl | assumption, by first | rfl | assumption, by first | rfl | assumption, by first | rfl | assumption, by first | rfl | assumption⟩
    obtain ⟨r1, r2, r3, r4, r5⟩ := hHH rfl
    have hHlen := r2.len
    simp (disch := omega) only [f3, f4, f5, f6, f7, f10, f11, f27, f28, f29, B28f.cells, ↓SXd, SXu, slBounds, ↓sop, ↓aop, ↓reduceIte, LV.cells, AOp.dst, LV.I, LV.B, LV.U, LV.S, LV.nil, Nat.reduceEqDiff, Nat.reduceAdd, Nat.reduceMul, Nat.reduceSub, Nat.reduceLeDiff, Nat.reduceBEq, Nat.reduceDiv, Nat.reduceMod, Int.reduceToNat, Int.reduceLT, Int.reduceLE, Int.reduceAdd, Int.reduceSub, Int.reduceMul, Int.reduceEq, Int.reduceNeg, reduceCtorEq, resV, resAll, ARes.ev, LV.flat, ite_true, ite_false, exists_eq_left', exists_eq_left, keyOf, implies_true, fillC, capOf]
    have hq := g_IsStair (x := H.x) (y := H.y) (z := H.z) U28f (by omega)
    rw [r1, decide_eq_true r2] at hq
    refine callK_of hq ?_
    clear hq
    simp (disch := omega) only [f3, f4, f5, f6, f7, f10, f11, f27, f28, f29, B28f.cells, ↓SXd, SXu, slBounds, ↓sop, ↓aop, ↓reduceIte, LV.cells, AOp.dst, LV.I, LV.B, LV.U, LV.S, LV.nil, Nat.reduceEqDiff, Nat.reduceAdd, Nat.reduceMul, Nat.reduceSub, Nat.reduceLeDiff, Nat.reduceBEq, Nat.reduceDiv, Nat.reduceMod, Int.reduceToNat, Int.reduceLT, Int.reduceLE, Int.reduceAdd, Int.reduceSub, Int.reduceMul, Int.reduceEq, Int.reduceNeg, reduceCtorEq, resV, resAll, ARes.ev, LV.flat, ite_true, ite_false, exists_eq_left', exists_eq_left, keyOf, implies_true, fillC, capOf]
    refine callR_of (g_StairHollows (x := H.x) (y := H.y) (z := H.z) U28f (strB_iff.1 r1)) ?_
    rintro _ Y1 ⟨v1, rfl, hv1, hy1⟩
    have c27 := B27f.pre hy1
    have c28 := B28f.pre hy1
    have u27 := U3f.pre hy1
    have u28 := U28f.pre hy1
    simp (disch := omega) only [f3, f4, f5, f6, f7, f10, f11, f27, f28, f29, beq_self_eq_true, Bool.not_true, c27.cell, c28.cell, ↓SXd, SXu, slBounds, ↓sop, ↓aop, ↓reduceIte, LV.cells, AOp.dst, LV.I, LV.B, LV.U, LV.S, LV.nil, Nat.reduceEqDiff, Nat.reduceAdd, Nat.reduceMul, Nat.reduceSub, Nat.reduceLeDiff, Nat.reduceBEq, Nat.reduceDiv, Nat.reduceMod, Int.reduceToNat, Int.reduceLT, Int.reduceLE, Int.reduceAdd, Int.reduceSub, Int.reduceMul, Int.reduceEq, Int.reduceNeg, reduceCtorEq, resV, resAll, ARes.ev, LV.flat, ite_true, ite_false, exists_eq_left', exists_eq_left, keyOf, implies_true, fillC, capOf]
    refine callK_of (k_vWithin (l := H.cs) (l' := cs3) (.inr ⟨u13, 0, rfl, u28.has⟩) (.inr ⟨u3, 0, rfl, u27.has⟩) (by omega) (by omega) r3) ?_
    generalize hollL H.x H.y H.z H.cs = E at r4 r5 hv1 ⊢
    simp (disch := omega) only [f3, f4, f5, f6, f7, f10, f11, f27, f28, f29, beq_self_eq_true, Bool.not_true, ↓SXd, SXu, slBounds, ↓sop, ↓aop, ↓reduceIte, LV.cells, AOp.dst, LV.I, LV.B, LV.U, LV.S, LV.nil, Nat.reduceEqDiff, Nat.reduceAdd, Nat.reduceMul, Nat.reduceSub, Nat.reduceLeDiff, Nat.reduceBEq, Nat.reduceDiv, Nat.reduceMod, Int.reduceToNat, Int.reduceLT, Int.reduceLE, Int.reduceAdd, Int.reduceSub, Int.reduceMul, Int.reduceEq, Int.reduceNeg, reduceCtorEq, resV, resAll, ARes.ev, LV.flat, ite_true, ite_false, exists_eq_left', exists_eq_left, keyOf, implies_true, fillC, capOf]
    refine ev_loop (fun m fr' M' => ∃ i : Nat, i + m = E.length ∧ M' = Y1 ∧ fr' 42 = .ref v1 0 E.length ∧ fr' 44 = .I i ∧ fr' 3 = .I x ∧ fr' 4 = .I y ∧ fr' 5 = .I z ∧ fr' 6 = w6 ∧ fr' 7 = .B fb ∧ fr' 10 = .I n ∧ fr' 11 = .B sb ∧ fr' 27 = .ptr m27 0) E.length
      ⟨0, by omega, rfl, rfl, rfl, f3, f4, f5, f6, f7, f10, f11, f27⟩ ?_
    rintro m fr' M' ⟨i, hi, rfl, g42, g44, g3, g4, g5, g6, g7, g10, g11, g27⟩
    simp (disch := omega) only [g42, g44, g3, g4, g5, g6, g7, g10, g11, g27, ↓SXd, SXu, slBounds, ↓sop, ↓aop, ↓reduceIte, LV.cells, AOp.dst, LV.I, LV.B, LV.U, LV.S, LV.nil, Nat.reduceEqDiff, Nat.reduceAdd, Nat.reduceMul, Nat.reduceSub, Nat.reduceLeDiff, Nat.reduceBEq, Nat.reduceDiv, Nat.reduceMod, Int.reduceToNat, Int.reduceLT, Int.reduceLE, Int.reduceAdd, Int.reduceSub, Int.reduceMul, Int.reduceEq, Int.reduceNeg, reduceCtorEq, resV, resAll, ARes.ev, LV.flat, ite_true, ite_false, exists_eq_left', exists_eq_left, keyOf, implies_true, fillC, capOf]
    refine condC_dec (fun hlt => ?_) (fun hlt => ?_)
    · have hil : i < E.length := by omega
      have hci := hv1.tri0 hil
      have hcm := r4 _ (getD_mem' (d := default) hil)
      generalize E.getD i default = c at hci hcm
      simp (disch := omega) only [g42, g44, g3, g4, g5, g6, g7, g10, g11, g27, c27.cell, hci, Cell.row, ↓SXd, SXu, slBounds, ↓sop, ↓aop, ↓reduceIte, LV.cells, AOp.dst, LV.I, LV.B, LV.U, LV.S, LV.nil, Nat.reduceEqDiff, Nat.reduceAdd, Nat.reduceMul, Nat.reduceSub, Nat.reduceLeDiff, Nat.reduceBEq, Nat.reduceDiv, Nat.reduceMod, Int.reduceToNat, Int.reduceLT, Int.reduceLE, Int.reduceAdd, Int.reduceSub, Int.reduceMul, Int.reduceEq, Int.reduceNeg, reduceCtorEq, resV, resAll, ARes.ev, LV.flat, ite_true, ite_false, exists_eq_left', exists_eq_left, keyOf, implies_true, fillC, capOf]
      refine callK_of (k_vIn (.inr ⟨u3, 0, rfl, u27.has⟩) (by omega)) ?_
      rw [decide_eq_false hcm]
      simp (disch := omega) only [g42, g44, g3, g4, g5, g6, g7, g10, g11, g27, ↓SXd, SXu, slBounds, ↓sop, ↓aop, ↓reduceIte, LV.cells, AOp.dst, LV.I, LV.B, LV.U, LV.S, LV.nil, Nat.reduceEqDiff, Nat.reduceAdd, Nat.reduceMul, Nat.reduceSub, Nat.reduceLeDiff, Nat.reduceBEq, Nat.reduceDiv, Nat.reduceMod, Int.reduceToNat, Int.reduceLT, Int.reduceLE, Int.reduceAdd, Int.reduceSub, Int.reduceMul, Int.reduceEq, Int.reduceNeg, reduceCtorEq, resV, resAll, ARes.ev, LV.flat, ite_true, ite_false, exists_eq_left', exists_eq_left, keyOf, implies_true, fillC, capOf]
      exact ⟨m - 1, by omega, i + 1, by omega, rfl, g42, eqI (natI _), g3, g4, g5, g6, g7, g10, g11, g27⟩
    · simp (disch := omega) only [g42, g44, g3, g4, g5, g6, g7, g10, g11, g27, ↓SXd, SXu, slBounds, ↓sop, ↓aop, ↓reduceIte, LV.cells, AOp.dst, LV.I, LV.B, LV.U, LV.S, LV.nil, Nat.reduceEqDiff, Nat.reduceAdd, Nat.reduceMul, Nat.reduceSub, Nat.reduceLeDiff, Nat.reduceBEq, Nat.reduceDiv, Nat.reduceMod, Int.reduceToNat, Int.reduceLT, Int.reduceLE, Int.reduceAdd, Int.reduceSub, Int.reduceMul, Int.reduceEq, Int.reduceNeg, reduceCtorEq, resV, resAll, ARes.ev, LV.flat, ite_true, ite_false, exists_eq_left', exists_eq_left, keyOf, implies_true, fillC, capOf]
      all_goals first | done | exact hy1 | exact ⟨hy1, by first | rfl | assumption, by first | rfl | assumption, by first | rfl | assumption, by first | rfl | assumption, by first | rfl | assumption, by first | rfl | assumption, by first | rfl | assumption⟩
  clear f3 f4 f5 f6 f7 f10 f11 f27 f28 f29
  rintro fr X2 ⟨hX2, f3, f4, f5, f6, f7, f10, f11⟩
  replace Iw6f := Iw6f.pre hX2
  simp (disch := omega) only [f3, f4, f5, f6, f7, f10, f11, ↓SXd, SXu, slBounds, ↓sop, ↓aop, ↓reduceIte, LV.cells, AOp.dst, LV.I, LV.B, LV.U, LV.S, LV.nil, Nat.reduceEqDiff, Nat.reduceAdd, Nat.reduceMul, Nat.reduceSub, Nat.reduceLeDiff, Nat.reduceBEq, Nat.reduceDiv, Nat.reduceMod, Int.reduceToNat, Int.reduceLT, Int.reduceLE, Int.reduceAdd, Int.reduceSub, Int.reduceMul, Int.reduceEq, Int.reduceNeg, reduceCtorEq, resV, resAll, ARes.ev, LV.flat, ite_true, ite_false, exists_eq_left', exists_eq_left, keyOf, implies_true, fillC, capOf]
  refine cond_cut (fun fr' M' => M' = X2 ∧ fr' 6 = w6 ∧ fr' 7 = .B fb ∧ fr' 10 = .I n) ?_ ?_
  · cases sb
    · simp (disch := omega) only [f3, f4, f5, f6, f7, f10, f11, ↓SXd, SXu, slBounds, ↓sop, ↓aop, ↓reduceIte, LV.cells, AOp.dst, LV.I, LV.B, LV.U, LV.S, LV.nil, Nat.reduceEqDiff, Nat.reduceAdd, Nat.reduceMul, Nat.reduceSub, Nat.reduceLeDiff, Nat.reduceBEq, Nat.reduceDiv, Nat.reduceMod, Int.reduceToNat, Int.reduceLT, Int.reduceLE, Int.reduceAdd, Int.reduceSub, Int.reduceMul, Int.reduceEq, Int.reduceNeg, reduceCtorEq, resV, resAll, ARes.ev, LV.flat, ite_true, ite_false, exists_eq_left', exists_eq_left, keyOf, implies_true, fillC, capOf]
      all_goals first | done | exact rfl | exact ⟨rfl, by first | rfl | assumption, by first | rfl | assumption, by first | rfl | assumption⟩
    obtain ⟨t1, t2⟩ := hT rfl
    simp (disch := omega) only [f3, f4, f5, f6, f7, f10, f11, ↓SXd, SXu, slBounds, ↓sop, ↓aop, ↓reduceIte, LV.cells, AOp.dst, LV.I, LV.B, LV.U, LV.S, LV.nil, Nat.reduceEqDiff, Nat.reduceAdd, Nat.reduceMul, Nat.reduceSub, Nat.reduceLeDiff, Nat.reduceBEq, Nat.reduceDiv, Nat.reduceMod, Int.reduceToNat, Int.reduceLT, Int.reduceLE, Int.reduceAdd, Int.reduceSub, Int.reduceMul, Int.reduceEq, Int.reduceNeg, reduceCtorEq, resV, resAll, ARes.ev, LV.flat, ite_true, ite_false, exists_eq_left', exists_eq_left, keyOf, implies_true, fillC, capOf]
    have hq := g_CountStairs (x := z) (y := x) (z := y) (M := X2)
    rw [t1, t2] at hq
    refine callK_of hq ?_
    clear hq
    simp (disch := omega) only [f3, f4, f5, f6, f7, f10, f11, beq_self_eq_true, Bool.not_true, ↓SXd, SXu, slBounds, ↓sop, ↓aop, ↓reduceIte, LV.cells, AOp.dst, LV.I, LV.B, LV.U, LV.S, LV.nil, Nat.reduceEqDiff, Nat.reduceAdd, Nat.reduceMul, Nat.reduceSub, Nat.reduceLeDiff, Nat.reduceBEq, Nat.reduceDiv, Nat.reduceMod, Int.reduceToNat, Int.reduceLT, Int.reduceLE, Int.reduceAdd, Int.reduceSub, Int.reduceMul, Int.reduceEq, Int.reduceNeg, reduceCtorEq, resV, resAll, ARes.ev, LV.flat, ite_true, ite_false, exists_eq_left', exists_eq_left, keyOf, implies_true, fillC, capOf]
    all_goals first | done | exact rfl | exact ⟨rfl, by first | rfl | assumption, by first | rfl | assumption, by first | rfl | assumption⟩
  clear f3 f4 f5 f6 f7 f10 f11
  rintro fr X2 ⟨rfl, f6, f7, f10⟩
  have hlv := Iw6f.lenV
  cases fb
  · simp (disch := omega) only [f6, f7, f10, ↓SXd, SXu, slBounds, ↓sop, ↓aop, ↓reduceIte, LV.cells, AOp.dst, LV.I, LV.B, LV.U, LV.S, LV.nil, Nat.reduceEqDiff, Nat.reduceAdd, Nat.reduceMul, Nat.reduceSub, Nat.reduceLeDiff, Nat.reduceBEq, Nat.reduceDiv, Nat.reduceMod, Int.reduceToNat, Int.reduceLT, Int.reduceLE, Int.reduceAdd, Int.reduceSub, Int.reduceMul, Int.reduceEq, Int.reduceNeg, reduceCtorEq, resV, resAll, ARes.ev, LV.flat, ite_true, ite_false, exists_eq_left', exists_eq_left, keyOf, implies_true, fillC, capOf]
    rfl
  obtain ⟨_, a2, a3⟩ := hA rfl
  have a2' : ((A.length : Nat) : Int) = (n : Nat) := by omega
  simp (disch := omega) only [f6, f7, f10, hlv, a2', beq_self_eq_true, Bool.not_true, ↓SXd, SXu, slBounds, ↓sop, ↓aop, ↓reduceIte, LV.cells, AOp.dst, LV.I, LV.B, LV.U, LV.S, LV.nil, Nat.reduceEqDiff, Nat.reduceAdd, Nat.reduceMul, Nat.reduceSub, Nat.reduceLeDiff, Nat.reduceBEq, Nat.reduceDiv, Nat.reduceMod, Int.reduceToNat, Int.reduceLT, Int.reduceLE, Int.reduceAdd, Int.reduceSub, Int.reduceMul, Int.reduceEq, Int.reduceNeg, reduceCtorEq, resV, resAll, ARes.ev, LV.flat, ite_true, ite_false, exists_eq_left', exists_eq_left, keyOf, implies_true, fillC, capOf]
  refine ev_loop (fun m fr' M' => ∃ i : Nat, 1 ≤ i ∧ i + m = A.length + 1 ∧ M' = X2 ∧ fr' 6 = w6 ∧ fr' 47 = .I i) A.length
    ⟨1, by omega, by omega, rfl, f6, rfl⟩ ?_
  rintro m fr' M' ⟨i, hi1, hi, rfl, g6, g47⟩
  simp (disch := omega) only [g6, g47, hlv, ↓SXd, SXu, slBounds, ↓sop, ↓aop, ↓reduceIte, LV.cells, AOp.dst, LV.I, LV.B, LV.U, LV.S, LV.nil, Nat.reduceEqDiff, Nat.reduceAdd, Nat.reduceMul, Nat.reduceSub, Nat.reduceLeDiff, Nat.reduceBEq, Nat.reduceDiv, Nat.reduceMod, Int.reduceToNat, Int.reduceLT, Int.reduceLE, Int.reduceAdd, Int.reduceSub, Int.reduceMul, Int.reduceEq, Int.reduceNeg, reduceCtorEq, resV, resAll, ARes.ev, LV.flat, ite_true, ite_false, exists_eq_left', exists_eq_left, keyOf, implies_true, fillC, capOf]
  refine condC_dec (fun hlt => ?_) (fun hlt => ?_)
  · have hil : i < A.length := by omega
    obtain ⟨ta, ua, rfl, hga, hia⟩ := Iw6f.at (i := i - 1) (by omega)
    obtain ⟨tb', ub, hw, hgb, hib⟩ := Iw6f.at hil
    have hti : ((i : Int) - 1).toNat = i - 1 := by omega
    injection hw with hw _ _
    subst hw
    have hlr := lR _ (getD_mem' (d := []) (show i - 1 < A.length by omega))
    simp (disch := omega) only [g6, g47, hga, hgb, hti, Nat.mul_one, Nat.zero_add, ↓SXd, SXu, slBounds, ↓sop, ↓aop, ↓reduceIte, LV.cells, AOp.dst, LV.I, LV.B, LV.U, LV.S, LV.nil, Nat.reduceEqDiff, Nat.reduceAdd, Nat.reduceMul, Nat.reduceSub, Nat.reduceLeDiff, Nat.reduceBEq, Nat.reduceDiv, Nat.reduceMod, Int.reduceToNat, Int.reduceLT, Int.reduceLE, Int.reduceAdd, Int.reduceSub, Int.reduceMul, Int.reduceEq, Int.reduceNeg, reduceCtorEq, resV, resAll, ARes.ev, LV.flat, ite_true, ite_false, exists_eq_left', exists_eq_left, keyOf, implies_true, fillC, capOf]
    refine callK_of (k_vLess hia hib (pair_get a3 (by omega) hil) (by omega)) ?_
    simp (disch := omega) only [g6, g47, Bool.not_true, ↓SXd, SXu, slBounds, ↓sop, ↓aop, ↓reduceIte, LV.cells, AOp.dst, LV.I, LV.B, LV.U, LV.S, LV.nil, Nat.reduceEqDiff, Nat.reduceAdd, Nat.reduceMul, Nat.reduceSub, Nat.reduceLeDiff, Nat.reduceBEq, Nat.reduceDiv, Nat.reduceMod, Int.reduceToNat, Int.reduceLT, Int.reduceLE, Int.reduceAdd, Int.reduceSub, Int.reduceMul, Int.reduceEq, Int.reduceNeg, reduceCtorEq, resV, resAll, ARes.ev, LV.flat, ite_true, ite_false, exists_eq_left', exists_eq_left, keyOf, implies_true, fillC, capOf]
    exact ⟨m - 1, by omega, i + 1, by omega, by omega, rfl, g6, eqI (natI _)⟩
  · simp (disch := omega) only [g6, g47, ↓SXd, SXu, slBounds, ↓sop, ↓aop, ↓reduceIte, LV.cells, AOp.dst, LV.I, LV.B, LV.U, LV.S, LV.nil, Nat.reduceEqDiff, Nat.reduceAdd, Nat.reduceMul, Nat.reduceSub, Nat.reduceLeDiff, Nat.reduceBEq, Nat.reduceDiv, Nat.reduceMod, Int.reduceToNat, Int.reduceLT, Int.reduceLE, Int.reduceAdd, Int.reduceSub, Int.reduceMul, Int.reduceEq, Int.reduceNeg, reduceCtorEq, resV, resAll, ARes.ev, LV.flat, ite_true, ite_false, exists_eq_left', exists_eq_left, keyOf, implies_true, fillC, capOf]
    all_goals rfl
end Go.Ab

/- Bytes that came in, opened. -/
namespace Go.Ab
open Go Go.RowKit Go.Joins Go.ChangeShapes Go.WideShapes Go.Deep Go.WideElems Go.Maps

/-- What the abstract machine is told of a slice of bytes that came in. -/
def RowOfB (w : World) (a : Option Addr) (len cap : Nat) (xs : List Nat) : Prop :=
  xs.length = len ∧ len ≤ cap ∧ cap ≤ maxLen ∧ (∀ b ∈ xs, b ≤ 255) ∧ (cap = 0 ∨ ∃ b o c e fz, a = some ⟨b, o, none⟩ ∧ w.heap[b]? = some (.cells c e fz) ∧ ∀ i, i < len → c[o + i]? = some (.int .u8 ((xs.getD i 0 : Nat) : Int)))

section
variable {H : Type} {enc : TypeId × Value → H} {P : Program} {w : World} {held : Bool}
theorem open_bytesB {ts ti : TypeId} {fuel : Nat} {cs : List Value} {x : DataW H × List MemPlace} (hts : P.underlying ts = some (.slice ti)) (hti : P.underlying ti = some (.int .u8)) (hci : P.cellsOf ti = 1)
    (h : DataW.trod enc P w 0 (fun _ => true) held fuel ts cs = some x) : ∃ a len cap xs, cs = [.slice a len cap] ∧ RowOfB w a len cap xs := by
  rcases Go.ChangeShapes.open_ints hts hti hci h with ⟨rfl, _⟩ | ⟨a, len, cap, zs, rfl, _, hl, hm, hz, _, hel, hwf⟩
  · exact ⟨none, 0, 0, [], rfl, rfl, Nat.le_refl _, Nat.zero_le _, by simp, .inl rfl⟩
  · have hzl : zs.length = cap := by simpa using hz
    have hby : ∀ n ∈ zs, 0 ≤ n ∧ n ≤ 255 := fun n hn => by
      have h1 := hwf n hn
      unfold Lit.wf at h1
      rw [Bool.and_eq_true, decide_eq_true_iff, decide_eq_true_iff] at h1
      exact h1
    refine ⟨some a, len, cap, (zs.take len).map Int.toNat, rfl, by simp; omega, hl, hm, fun b hb => ?_, ?_⟩
    · obtain ⟨n, hn, rfl⟩ := List.mem_map.1 hb
      have := hby n (List.mem_of_mem_take hn)
      omega
    rcases Nat.eq_zero_or_pos cap with h0 | h0
    · exact .inl h0
    · refine .inr ?_
      have hc0 := hel 0 (by omega)
      obtain ⟨b, o, c, e, fz, ha, hh, _⟩ := cell_heap hc0
      have ha' : a = ⟨b, o, none⟩ := by simpa [Addr.add] using ha
      subst ha'
      refine ⟨b, o, c, e, fz, rfl, hh, fun i hi => ?_⟩
      have hcell := hel i (by omega)
      have hadd : (⟨b, o, none⟩ : Addr).add i = ⟨b, o + i, none⟩ := addr_add _ _ _
      rw [hadd] at hcell
      unfold World.cell? at hcell
      simp only [hh] at hcell
      have hil : i < zs.length := by omega
      have hbi := hby _ (getD_mem' (d := 0) hil)
      have hg : ((((zs.take len).map Int.toNat).getD i 0 : Nat) : Int) = zs.getD i 0 := by
        have e1 : ((zs.take len).map Int.toNat).getD i 0 = (zs.getD i 0).toNat := by simp [hi, hil]
        rw [e1]; omega
      rw [hg]
      simpa using hcell
end
theorem byL_get {bs : List Nat} {i : Nat} (h : i < bs.length) : (byL bs)[i]? = some (.val (.int .u8 ((bs.getD i 0 : Nat) : Int))) := by simp [byL, h]
/-- Bytes whose block has elements of one cell. -/
def BytesZ (M : Mem) (t o : Nat) (bs : List Nat) : Prop := Bytes M t o bs ∧ getEsz M t = some 1
theorem Inv.addBytesZ {G : Gh} {M : Mem} {w : World} (hi : Inv G M w) (hno : NoOwn M) {a : Option Addr} {len cap : Nat} {xs : List Nat} (h : RowOfB w a len cap xs) :
    ∃ (G' : Gh) (N : Mem) (t : Nat), Ext G G' ∧ Inv G' N w ∧ NoOwn N ∧ Pre M N ∧ VR1 G' (.ref t 0 len) (.slice a len cap) ∧ BytesZ N t 0 xs := by
  obtain ⟨h1, h2, h3, _, h4⟩ := h
  have key : ∃ G', Ext G G' ∧ Inv G' (M ++ [some (.row (byL xs) false 1)]) w ∧ NoOwn (M ++ [some (.row (byL xs) false 1)]) ∧ VR1 G' (.ref M.length 0 len) (.slice a len cap) := by
    refine hi.addRow hno h2 (by rw [byL_len]; omega) ?_
    rcases h4 with h0 | ⟨b, o, c, e, fz, ha, hh, hc⟩
    · refine .inl ⟨h0, ?_⟩
      have : xs = [] := List.eq_nil_of_length_eq_zero (by omega)
      rw [this]; rfl
    · refine .inr ⟨b, o, c, e, fz, ha, hh, fun j l hj => ?_⟩
      have hjl : j < xs.length := by
        rw [← byL_len]
        rcases Nat.lt_or_ge j (byL xs).length with h | h
        · exact h
        · rw [List.getElem?_eq_none h] at hj; cases hj
      rw [byL_get hjl] at hj
      cases hj
      exact ⟨_, hc j (by omega), rfl, rfl⟩
  obtain ⟨G', k1, k2, k3, k4⟩ := key
  exact ⟨G', _, _, k1, k2, k3, Pre.app _ _, k4, Has.new, by simp [getEsz]⟩
theorem RowOfB.le {w : World} {a : Option Addr} {len cap : Nat} {xs : List Nat} (h : RowOfB w a len cap xs) : xs.length ≤ 9223372036854775807 ∧ ∀ b ∈ xs, b ≤ 255 := by
  obtain ⟨h0, h1, h2, h3, _⟩ := h
  have := max63
  exact ⟨by omega, h3⟩
end Go.Ab
