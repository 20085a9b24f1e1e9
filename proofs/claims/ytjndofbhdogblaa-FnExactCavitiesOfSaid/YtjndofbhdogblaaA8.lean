/- Parts of the proof of FnExactCavitiesOfSaid: Ob Od Oe Ge Pc Pd Pe C_Qa K_Qa. -/
import Derived.Test.YtjndofbhdogblaaA7
import Derived.Test.YtjndofbhdogblaaA4
import Derived.Test.YtjndofbhdogblaaA5
import Derived.Test.YtjndofbhdogblaaA6
import Derived.Test.YtjndofbhdogblaaA3
import Derived.Test.YtjndofbhdogblaaProg
import Derived.KernelRfl
set_option linter.all false
/- Contracts: the reference's heaps with one more cube. -/
namespace Go.Ab
open Go
set_option linter.unusedSimpArgs false
set_option linter.unusedVariables false

theorem appendK_zero {e b t off len t2 o2 : Nat} {M : Mem} {A : LV → Mem → Prop} : appendK e b (.ref t off len) (.ref t2 o2 0) M A = andK (len * b ≤ 140737488355328 ∧ len ≤ 9223372036854775807) (A (.ref t off len) M) := by
  simp [appendK, lenS, winC, appV, appK]
theorem appendK_pos {e b t off len t2 o2 n : Nat} {cs new : List LV} {M : Mem} {A : LV → Mem → Prop} (hn : 0 < n) (hw : getCells M t2 o2 (n * e) = some new) (hr : M[t]? = some (some (.row cs true e))) (hl : off + len * e ≤ cs.length) :
    appendK e b (.ref t off len) (.ref t2 o2 n) M A = andK ((len + n) * b ≤ 140737488355328 ∧ len + n ≤ 9223372036854775807) (A (.ref M.length 0 (len + n)) (M.set t none ++ [some (.row ((cs.drop off).take (len * e) ++ new) true e)])) := by
  have h0 : n ≠ 0 := by omega
  simp [appendK, lenS, winC, appV, appK, h0, hw, hr, hl]

theorem Tri.take {M : Mem} {t o k : Nat} {cs : List Cell} (h : Tri M t o cs) (hk : k ≤ cs.length) : Tri M t o (cs.take k) := by
  obtain ⟨row, h1, h2, h3⟩ := h
  rw [triL_len] at h2 h3
  have hl : (cs.take k).length = k := by simp; omega
  refine ⟨row, h1, by rw [triL_len, hl]; omega, ?_⟩
  rw [triL_len, hl, ← triL_take, ← h3, List.take_take, Nat.min_eq_left (by omega)]
theorem Tri.drop {M : Mem} {t o k : Nat} {cs : List Cell} (h : Tri M t o cs) (hk : k ≤ cs.length) : Tri M t (o + k * 3) (cs.drop k) := by
  obtain ⟨row, h1, h2, h3⟩ := h
  rw [triL_len] at h2 h3
  have hl : (cs.drop k).length = cs.length - k := by simp
  refine ⟨row, h1, by rw [triL_len, hl]; omega, ?_⟩
  rw [triL_len, hl, ← triL_drop, ← h3, List.drop_take, List.drop_drop]
  congr 1
  omega
theorem Tri.all {M : Mem} {t o n : Nat} {cs : List Cell} (h : Tri M t o cs) (hn : n = cs.length) : getCells M t o (n * 3) = some (triL cs) := by
  have := Has.all h
  rw [triL_len] at this; rw [hn]; exact this

theorem h_l2Own {x y z : Int} {t o : Nat} {cs : List Cell} {M : Mem} (h : Tri M t o cs) (hn : cs.length ≤ 1000000000) :
    CallsTo PG F.spec_l2Own [.agg [.I x, .I y, .I z, .ref t o cs.length]] M (.agg [.I x, .I y, .I z, .ref M.length 0 cs.length]) (M ++ [some (.row (triL cs) true 3)]) := by
  have ht := h.lt
  refine calls_run K.spec_l2Own rfl ?_
  simp (disch := omega) only [C.spec_l2Own, ↓SXd, SXu, slBounds, ↓sop, ↓aop, ↓reduceIte, LV.cells, AOp.dst, LV.I, LV.B, LV.U, LV.S, LV.nil, Nat.reduceEqDiff, Nat.reduceAdd, Nat.reduceMul, Nat.reduceSub, Nat.reduceLeDiff, Nat.reduceBEq, Nat.reduceDiv, Nat.reduceMod, Int.reduceToNat, Int.reduceLT, Int.reduceLE, Int.reduceAdd, Int.reduceSub, Int.reduceMul, Int.reduceEq, Int.reduceNeg, reduceCtorEq, resV, resAll, ARes.ev, LV.flat, ite_true, ite_false, exists_eq_left', exists_eq_left, keyOf, implies_true, fillC, capOf]
  rcases Nat.eq_zero_or_pos cs.length with h0 | h0
  · have hc : cs = [] := List.eq_nil_of_length_eq_zero h0
    subst hc
    simp (disch := omega) only [List.length_nil, appendK_zero, ↓SXd, SXu, slBounds, ↓sop, ↓aop, ↓reduceIte, LV.cells, AOp.dst, LV.I, LV.B, LV.U, LV.S, LV.nil, Nat.reduceEqDiff, Nat.reduceAdd, Nat.reduceMul, Nat.reduceSub, Nat.reduceLeDiff, Nat.reduceBEq, Nat.reduceDiv, Nat.reduceMod, Int.reduceToNat, Int.reduceLT, Int.reduceLE, Int.reduceAdd, Int.reduceSub, Int.reduceMul, Int.reduceEq, Int.reduceNeg, reduceCtorEq, resV, resAll, ARes.ev, LV.flat, ite_true, ite_false, exists_eq_left', exists_eq_left, keyOf, implies_true, fillC, capOf]
    refine callK_of (h_l2Made (by simp)) ?_
    simp (disch := omega) only [splice, ↓SXd, SXu, slBounds, ↓sop, ↓aop, ↓reduceIte, LV.cells, AOp.dst, LV.I, LV.B, LV.U, LV.S, LV.nil, Nat.reduceEqDiff, Nat.reduceAdd, Nat.reduceMul, Nat.reduceSub, Nat.reduceLeDiff, Nat.reduceBEq, Nat.reduceDiv, Nat.reduceMod, Int.reduceToNat, Int.reduceLT, Int.reduceLE, Int.reduceAdd, Int.reduceSub, Int.reduceMul, Int.reduceEq, Int.reduceNeg, reduceCtorEq, resV, resAll, ARes.ev, LV.flat, ite_true, ite_false, exists_eq_left', exists_eq_left, keyOf, implies_true, fillC, capOf]
    exact cmp_keep1 (j := 2) rfl rfl (by simp [rn, rn0, rn1, keepR_n])
  · rw [appendK_pos h0 (Tri.all h.app rfl) (by rw [at_j]; rfl) (by simp)]
    simp (disch := omega) only [List.length_append, ↓SXd, SXu, slBounds, ↓sop, ↓aop, ↓reduceIte, LV.cells, AOp.dst, LV.I, LV.B, LV.U, LV.S, LV.nil, Nat.reduceEqDiff, Nat.reduceAdd, Nat.reduceMul, Nat.reduceSub, Nat.reduceLeDiff, Nat.reduceBEq, Nat.reduceDiv, Nat.reduceMod, Int.reduceToNat, Int.reduceLT, Int.reduceLE, Int.reduceAdd, Int.reduceSub, Int.reduceMul, Int.reduceEq, Int.reduceNeg, reduceCtorEq, resV, resAll, ARes.ev, LV.flat, ite_true, ite_false, exists_eq_left', exists_eq_left, keyOf, implies_true, fillC, capOf]
    refine callK_of (h_l2Made (by simp)) ?_
    simp (disch := omega) only [splice, ↓SXd, SXu, slBounds, ↓sop, ↓aop, ↓reduceIte, LV.cells, AOp.dst, LV.I, LV.B, LV.U, LV.S, LV.nil, Nat.reduceEqDiff, Nat.reduceAdd, Nat.reduceMul, Nat.reduceSub, Nat.reduceLeDiff, Nat.reduceBEq, Nat.reduceDiv, Nat.reduceMod, Int.reduceToNat, Int.reduceLT, Int.reduceLE, Int.reduceAdd, Int.reduceSub, Int.reduceMul, Int.reduceEq, Int.reduceNeg, reduceCtorEq, resV, resAll, ARes.ev, LV.flat, ite_true, ite_false, exists_eq_left', exists_eq_left, keyOf, implies_true, fillC, capOf]
    exact cmp_keep1 (j := 3) rfl (triL_lo cs) (by simp [rn, rn0, rn1, keepR_n])

/-- A heap with one more cell. -/
theorem with_pick {x y z : Int} {cs : List Cell} {c : Cell} {k : Nat} (hH : HeapOK x y z cs) (hc : c.inBox x y z) (hk : k ≤ cs.length) (hlo : ∀ j, j < k → (cs.getD j default).lt c) (hhi : k < cs.length → c.lt (cs.getD k default)) :
    cs.take k ++ (c :: cs.drop k) = pick x y z fun d => decide (d ∈ cs) || decide (d = c) := by
  have hs := hH.sorted
  have h1 : ∀ d ∈ cs.take k, d.lt c := fun d hd => by
    obtain ⟨j, hj, rfl⟩ := List.getElem_of_mem hd
    have hj' : j < k := by simp at hj; omega
    have := hlo j hj'
    simpa [show j < cs.length by omega] using this
  have h2 : ∀ d ∈ cs.drop k, c.lt d := fun d hd => by
    obtain ⟨j, hj, rfl⟩ := List.getElem_of_mem hd
    have hkl : k < cs.length := by simp at hj; omega
    have h3 := hhi hkl
    have hjl : k + j < cs.length := by simp at hj; omega
    rw [List.getElem_drop]
    rcases Nat.eq_zero_or_pos j with rfl | hj0
    · simpa [hkl] using h3
    · rw [List.pairwise_iff_getElem] at hs
      have := hs k (k + j) hkl hjl (by omega)
      refine Cell.lt_trans (b := cs[k]) ?_ this
      simpa [hkl] using h3
  refine sorted_ext ?_ (pick_sorted hH.1 _) fun d => ?_
  · rw [List.pairwise_append, List.pairwise_cons]
    refine ⟨hs.take, ⟨h2, hs.drop⟩, fun a ha b hb => ?_⟩
    rcases List.mem_cons.1 hb with rfl | hb
    · exact h1 a ha
    · exact Cell.lt_trans (h1 a ha) (h2 b hb)
  · rw [mem_pick hH.1]
    simp only [List.mem_append, List.mem_cons, Bool.or_eq_true, decide_eq_true_eq]
    constructor
    · rintro (h | rfl | h)
      · exact ⟨hH.mem (List.mem_of_mem_take h), .inl (List.mem_of_mem_take h)⟩
      · exact ⟨hc, .inr rfl⟩
      · exact ⟨hH.mem (List.mem_of_mem_drop h), .inl (List.mem_of_mem_drop h)⟩
    · rintro ⟨_, h | h⟩
      · rw [← List.take_append_drop k cs, List.mem_append] at h
        rcases h with h | h
        · exact .inl h
        · exact .inr (.inr h)
      · exact .inr (.inl h)

theorem h_l2With {x y z : Int} {c : Cell} {t : Nat} {w : Bool} {cs : List Cell} {M : Mem} (h : Live M t (.row (triL cs) w 3)) (hH : HeapOK x y z cs) (hc : c.inBox x y z) :
    CallsTo PG F.spec_l2With [.agg [.I x, .I y, .I z, .ref t 0 cs.length], .agg [.I c.a, .I c.b, .I c.c]] M (.agg [.I x, .I y, .I z, .ref M.length 0 (pick x y z fun d => decide (d ∈ cs) || decide (d = c)).length])
      (M ++ [some (.row (triL (pick x y z fun d => decide (d ∈ cs) || decide (d = c))) true 3)]) := by
  have hn := hH.len
  have hT : Tri M t 0 cs := h.has
  have ht := h.lt
  have hE : getEsz M t = some 3 := h.esz
  refine calls_run K.spec_l2With rfl ?_
  simp (disch := omega) only [C.spec_l2With, ↓SXd, SXu, slBounds, ↓sop, ↓aop, ↓reduceIte, LV.cells, AOp.dst, LV.I, LV.B, LV.U, LV.S, LV.nil, Nat.reduceEqDiff, Nat.reduceAdd, Nat.reduceMul, Nat.reduceSub, Nat.reduceLeDiff, Nat.reduceBEq, Nat.reduceDiv, Nat.reduceMod, Int.reduceToNat, Int.reduceLT, Int.reduceLE, Int.reduceAdd, Int.reduceSub, Int.reduceMul, Int.reduceEq, Int.reduceNeg, reduceCtorEq, resV, resAll, ARes.ev, LV.flat, ite_true, ite_false, exists_eq_left', exists_eq_left, keyOf, implies_true, fillC, capOf]
  refine ev_loop (fun m fr M' => ∃ k : Nat, k + m = cs.length ∧ M' = M ++ [some (Blk.row [.I x, .I y, .I z, .ref t 0 cs.length] true 0), some (Blk.row [.I c.a, .I c.b, .I c.c] true 0), some (Blk.row [.I 0, .I 0, .I 0, .nil] true 0)] ∧
    fr 2 = .ptr M.length 0 ∧ fr 3 = .ptr (M.length + 1) 0 ∧ fr 4 = .ptr (M.length + 2) 0 ∧ fr 5 = .I k ∧ ∀ j, j < k → (cs.getD j default).lt c) cs.length
    ⟨0, by omega, rfl, rfl, rfl, rfl, rfl, by omega⟩ ?_
  rintro m fr M' ⟨k, hk, rfl, f2, f3, f4, f5, hlo⟩
  have hgE : ∀ L : Mem, getEsz (M ++ L) t = some 3 := fun L => by rw [getEsz_app ht]; exact hE
  by_cases hkl : k < cs.length
  · simp (disch := omega) only [f2, f3, f4, f5, getCells_app, (h.tri0 hkl), Cell.row, ↓SXd, SXu, slBounds, ↓sop, ↓aop, ↓reduceIte, LV.cells, AOp.dst, LV.I, LV.B, LV.U, LV.S, LV.nil, Nat.reduceEqDiff, Nat.reduceAdd, Nat.reduceMul, Nat.reduceSub, Nat.reduceLeDiff, Nat.reduceBEq, Nat.reduceDiv, Nat.reduceMod, Int.reduceToNat, Int.reduceLT, Int.reduceLE, Int.reduceAdd, Int.reduceSub, Int.reduceMul, Int.reduceEq, Int.reduceNeg, reduceCtorEq, resV, resAll, ARes.ev, LV.flat, ite_true, ite_false, exists_eq_left', exists_eq_left, keyOf, implies_true, fillC, capOf]
    refine callK_of (h_l2Before) ?_
    simp (disch := omega) only [f2, f3, f4, f5, cell_eta, ↓SXd, SXu, slBounds, ↓sop, ↓aop, ↓reduceIte, LV.cells, AOp.dst, LV.I, LV.B, LV.U, LV.S, LV.nil, Nat.reduceEqDiff, Nat.reduceAdd, Nat.reduceMul, Nat.reduceSub, Nat.reduceLeDiff, Nat.reduceBEq, Nat.reduceDiv, Nat.reduceMod, Int.reduceToNat, Int.reduceLT, Int.reduceLE, Int.reduceAdd, Int.reduceSub, Int.reduceMul, Int.reduceEq, Int.reduceNeg, reduceCtorEq, resV, resAll, ARes.ev, LV.flat, ite_true, ite_false, exists_eq_left', exists_eq_left, keyOf, implies_true, fillC, capOf]
    refine condC_dec (fun hb => ?_) (fun hb => ?_)
    · simp (disch := omega) only [f2, f3, f4, f5, ↓SXd, SXu, slBounds, ↓sop, ↓aop, ↓reduceIte, LV.cells, AOp.dst, LV.I, LV.B, LV.U, LV.S, LV.nil, Nat.reduceEqDiff, Nat.reduceAdd, Nat.reduceMul, Nat.reduceSub, Nat.reduceLeDiff, Nat.reduceBEq, Nat.reduceDiv, Nat.reduceMod, Int.reduceToNat, Int.reduceLT, Int.reduceLE, Int.reduceAdd, Int.reduceSub, Int.reduceMul, Int.reduceEq, Int.reduceNeg, reduceCtorEq, resV, resAll, ARes.ev, LV.flat, ite_true, ite_false, exists_eq_left', exists_eq_left, keyOf, implies_true, fillC, capOf]
      exact ⟨m - 1, by omega, k + 1, by omega, rfl, f2, f3, f4, eqI (natI _), fun j hj => by
        rcases Nat.lt_or_ge j k with h1 | h1
        · exact hlo j h1
        · rw [show j = k by omega]; exact hb⟩
    · simp (disch := omega) only [f2, f3, f4, f5, getCells_app, (h.tri0 hkl), Cell.row, eqV, eqC, if_true, ite_true, Bool.and_true, ↓SXd, SXu, slBounds, ↓sop, ↓aop, ↓reduceIte, LV.cells, AOp.dst, LV.I, LV.B, LV.U, LV.S, LV.nil, Nat.reduceEqDiff, Nat.reduceAdd, Nat.reduceMul, Nat.reduceSub, Nat.reduceLeDiff, Nat.reduceBEq, Nat.reduceDiv, Nat.reduceMod, Int.reduceToNat, Int.reduceLT, Int.reduceLE, Int.reduceAdd, Int.reduceSub, Int.reduceMul, Int.reduceEq, Int.reduceNeg, reduceCtorEq, resV, resAll, ARes.ev, LV.flat, ite_true, ite_false, exists_eq_left', exists_eq_left, keyOf, implies_true, fillC, capOf]
      by_cases he : cs.getD k default = c
      · obtain ⟨e1, e2, e3⟩ := cell_eq.1 he
        simp (disch := omega) only [f2, f3, f4, f5, e1, e2, e3, beq_self_eq_true, Bool.and_self, ↓SXd, SXu, slBounds, ↓sop, ↓aop, ↓reduceIte, LV.cells, AOp.dst, LV.I, LV.B, LV.U, LV.S, LV.nil, Nat.reduceEqDiff, Nat.reduceAdd, Nat.reduceMul, Nat.reduceSub, Nat.reduceLeDiff, Nat.reduceBEq, Nat.reduceDiv, Nat.reduceMod, Int.reduceToNat, Int.reduceLT, Int.reduceLE, Int.reduceAdd, Int.reduceSub, Int.reduceMul, Int.reduceEq, Int.reduceNeg, reduceCtorEq, resV, resAll, ARes.ev, LV.flat, ite_true, ite_false, exists_eq_left', exists_eq_left, keyOf, implies_true, fillC, capOf]
        have hcm : c ∈ cs := by rw [← he]; exact getD_mem' hkl
        have hpe : pick x y z (fun d => decide (d ∈ cs) || decide (d = c)) = cs := by
          rw [pick_congr hH.1 (q := fun d => decide (d ∈ cs)) fun d _ => ?_]
          · exact hH.pick.symm
          · by_cases e : d = c
            · subst e; simp [hcm]
            · simp [e]
        rw [hpe]
        refine callK_of (h_l2Own hT.app (by omega)) ?_
        simp (disch := omega) only [f2, f3, f4, f5, splice, ↓SXd, SXu, slBounds, ↓sop, ↓aop, ↓reduceIte, LV.cells, AOp.dst, LV.I, LV.B, LV.U, LV.S, LV.nil, Nat.reduceEqDiff, Nat.reduceAdd, Nat.reduceMul, Nat.reduceSub, Nat.reduceLeDiff, Nat.reduceBEq, Nat.reduceDiv, Nat.reduceMod, Int.reduceToNat, Int.reduceLT, Int.reduceLE, Int.reduceAdd, Int.reduceSub, Int.reduceMul, Int.reduceEq, Int.reduceNeg, reduceCtorEq, resV, resAll, ARes.ev, LV.flat, ite_true, ite_false, exists_eq_left', exists_eq_left, keyOf, implies_true, fillC, capOf]
        exact cmp_keep1 (j := 3) rfl (triL_lo cs) (by simp [rn, rn0, rn1, keepR_n])
      · have hf : ((cs.getD k default).a == c.a && ((cs.getD k default).b == c.b && (cs.getD k default).c == c.c)) = false := by
          rw [Bool.eq_false_iff]
          intro e
          simp only [Bool.and_eq_true, beq_iff_eq] at e
          exact he (cell_eq.2 ⟨e.1, e.2.1, e.2.2⟩)
        have hwp := with_pick hH hc (k := k) (by omega) hlo (fun _ => ((Cell.lt_tri (cs.getD k default) c).resolve_left hb).resolve_left he)
        rw [← hwp]
        simp (disch := omega) only [f2, f3, f4, f5, hf, hgE, Nat.sub_zero, ↓SXd, SXu, slBounds, ↓sop, ↓aop, ↓reduceIte, LV.cells, AOp.dst, LV.I, LV.B, LV.U, LV.S, LV.nil, Nat.reduceEqDiff, Nat.reduceAdd, Nat.reduceMul, Nat.reduceSub, Nat.reduceLeDiff, Nat.reduceBEq, Nat.reduceDiv, Nat.reduceMod, Int.reduceToNat, Int.reduceLT, Int.reduceLE, Int.reduceAdd, Int.reduceSub, Int.reduceMul, Int.reduceEq, Int.reduceNeg, reduceCtorEq, resV, resAll, ARes.ev, LV.flat, ite_true, ite_false, exists_eq_left', exists_eq_left, keyOf, implies_true, fillC, capOf]
        have g1 : getCells M t 0 (k * 3) = some (triL (cs.take k)) := Tri.all (Tri.take hT (by omega)) (by simp; omega)
        have g2 : getCells M t (k * 3) ((cs.length - k) * 3) = some (triL (cs.drop k)) := by
          have := Tri.all (n := cs.length - k) (Tri.drop hT (k := k) (by omega)) (by simp)
          rwa [Nat.zero_add] at this
        have hT1 : (triL (cs.take k)).length = k * 3 := by rw [triL_len]; simp; omega
        have hat : ∀ L : Mem, (M ++ L)[t]? = M[t]? := fun L => List.getElem?_append_left ht
        rcases Nat.eq_zero_or_pos k with hk0 | hk0
        · subst hk0
          rw [appendK_zero]
          simp (disch := omega) only [hat, ↓SXd, SXu, slBounds, ↓sop, ↓aop, ↓reduceIte, LV.cells, AOp.dst, LV.I, LV.B, LV.U, LV.S, LV.nil, Nat.reduceEqDiff, Nat.reduceAdd, Nat.reduceMul, Nat.reduceSub, Nat.reduceLeDiff, Nat.reduceBEq, Nat.reduceDiv, Nat.reduceMod, Int.reduceToNat, Int.reduceLT, Int.reduceLE, Int.reduceAdd, Int.reduceSub, Int.reduceMul, Int.reduceEq, Int.reduceNeg, reduceCtorEq, resV, resAll, ARes.ev, LV.flat, ite_true, ite_false, exists_eq_left', exists_eq_left, keyOf, implies_true, fillC, capOf]
          rw [appendK_pos (by omega) (by rw [cells_j]; rfl) (by rw [at_j]; rfl) (by simp)]
          simp (disch := omega) only [hat, ↓SXd, SXu, slBounds, ↓sop, ↓aop, ↓reduceIte, LV.cells, AOp.dst, LV.I, LV.B, LV.U, LV.S, LV.nil, Nat.reduceEqDiff, Nat.reduceAdd, Nat.reduceMul, Nat.reduceSub, Nat.reduceLeDiff, Nat.reduceBEq, Nat.reduceDiv, Nat.reduceMod, Int.reduceToNat, Int.reduceLT, Int.reduceLE, Int.reduceAdd, Int.reduceSub, Int.reduceMul, Int.reduceEq, Int.reduceNeg, reduceCtorEq, resV, resAll, ARes.ev, LV.flat, ite_true, ite_false, exists_eq_left', exists_eq_left, keyOf, implies_true, fillC, capOf]
          rw [appendK_pos (by omega) (by rw [getCells_app ht]; exact g2) (by rw [at_j]; rfl) (by simp)]
          simp (disch := omega) only [List.length_append, List.length_set, hat, ↓SXd, SXu, slBounds, ↓sop, ↓aop, ↓reduceIte, LV.cells, AOp.dst, LV.I, LV.B, LV.U, LV.S, LV.nil, Nat.reduceEqDiff, Nat.reduceAdd, Nat.reduceMul, Nat.reduceSub, Nat.reduceLeDiff, Nat.reduceBEq, Nat.reduceDiv, Nat.reduceMod, Int.reduceToNat, Int.reduceLT, Int.reduceLE, Int.reduceAdd, Int.reduceSub, Int.reduceMul, Int.reduceEq, Int.reduceNeg, reduceCtorEq, resV, resAll, ARes.ev, LV.flat, ite_true, ite_false, exists_eq_left', exists_eq_left, keyOf, implies_true, fillC, capOf]
          refine callK_of (h_l2Made (by simp)) ?_
          simp (disch := omega) only [splice, ↓SXd, SXu, slBounds, ↓sop, ↓aop, ↓reduceIte, LV.cells, AOp.dst, LV.I, LV.B, LV.U, LV.S, LV.nil, Nat.reduceEqDiff, Nat.reduceAdd, Nat.reduceMul, Nat.reduceSub, Nat.reduceLeDiff, Nat.reduceBEq, Nat.reduceDiv, Nat.reduceMod, Int.reduceToNat, Int.reduceLT, Int.reduceLE, Int.reduceAdd, Int.reduceSub, Int.reduceMul, Int.reduceEq, Int.reduceNeg, reduceCtorEq, resV, resAll, ARes.ev, LV.flat, ite_true, ite_false, exists_eq_left', exists_eq_left, keyOf, implies_true, fillC, capOf]
          simp (disch := omega) only [f4, splice, hat, ↓SXd, SXu, slBounds, ↓sop, ↓aop, ↓reduceIte, LV.cells, AOp.dst, LV.I, LV.B, LV.U, LV.S, LV.nil, Nat.reduceEqDiff, Nat.reduceAdd, Nat.reduceMul, Nat.reduceSub, Nat.reduceLeDiff, Nat.reduceBEq, Nat.reduceDiv, Nat.reduceMod, Int.reduceToNat, Int.reduceLT, Int.reduceLE, Int.reduceAdd, Int.reduceSub, Int.reduceMul, Int.reduceEq, Int.reduceNeg, reduceCtorEq, resV, resAll, ARes.ev, LV.flat, ite_true, ite_false, exists_eq_left', exists_eq_left, keyOf, implies_true, fillC, capOf]
          rw [show (LV.val (.int .i64 c.a) :: LV.val (.int .i64 c.b) :: LV.val (.int .i64 c.c) :: triL cs) = triL (List.take 0 cs ++ c :: List.drop 0 cs) by simp [triL, Cell.row], show 1 + (cs.length - 0) = (List.take 0 cs ++ c :: List.drop 0 cs).length by simp; omega]
          exact cmp_keep1 (j := 6) rfl (triL_lo _) (by simp [rn, rn0, rn1, keepR_n])
        · rw [appendK_pos hk0 (by rw [getCells_app ht]; exact g1) (by rw [at_j]; rfl) (by simp)]
          simp (disch := omega) only [hat, ↓SXd, SXu, slBounds, ↓sop, ↓aop, ↓reduceIte, LV.cells, AOp.dst, LV.I, LV.B, LV.U, LV.S, LV.nil, Nat.reduceEqDiff, Nat.reduceAdd, Nat.reduceMul, Nat.reduceSub, Nat.reduceLeDiff, Nat.reduceBEq, Nat.reduceDiv, Nat.reduceMod, Int.reduceToNat, Int.reduceLT, Int.reduceLE, Int.reduceAdd, Int.reduceSub, Int.reduceMul, Int.reduceEq, Int.reduceNeg, reduceCtorEq, resV, resAll, ARes.ev, LV.flat, ite_true, ite_false, exists_eq_left', exists_eq_left, keyOf, implies_true, fillC, capOf]
          rw [appendK_pos (by omega) (by rw [cells_j]; rfl) (by rw [at_j]; rfl) (by simp [hT1])]
          simp (disch := omega) only [hat, ↓SXd, SXu, slBounds, ↓sop, ↓aop, ↓reduceIte, LV.cells, AOp.dst, LV.I, LV.B, LV.U, LV.S, LV.nil, Nat.reduceEqDiff, Nat.reduceAdd, Nat.reduceMul, Nat.reduceSub, Nat.reduceLeDiff, Nat.reduceBEq, Nat.reduceDiv, Nat.reduceMod, Int.reduceToNat, Int.reduceLT, Int.reduceLE, Int.reduceAdd, Int.reduceSub, Int.reduceMul, Int.reduceEq, Int.reduceNeg, reduceCtorEq, resV, resAll, ARes.ev, LV.flat, ite_true, ite_false, exists_eq_left', exists_eq_left, keyOf, implies_true, fillC, capOf]
          rw [appendK_pos (by omega) (by rw [getCells_app ht]; exact g2) (by rw [at_j]; rfl) (by simp [hT1]; omega)]
          simp (disch := omega) only [hat, ↓SXd, SXu, slBounds, ↓sop, ↓aop, ↓reduceIte, LV.cells, AOp.dst, LV.I, LV.B, LV.U, LV.S, LV.nil, Nat.reduceEqDiff, Nat.reduceAdd, Nat.reduceMul, Nat.reduceSub, Nat.reduceLeDiff, Nat.reduceBEq, Nat.reduceDiv, Nat.reduceMod, Int.reduceToNat, Int.reduceLT, Int.reduceLE, Int.reduceAdd, Int.reduceSub, Int.reduceMul, Int.reduceEq, Int.reduceNeg, reduceCtorEq, resV, resAll, ARes.ev, LV.flat, ite_true, ite_false, exists_eq_left', exists_eq_left, keyOf, implies_true, fillC, capOf]
          refine callK_of (h_l2Made (by simp)) ?_
          simp (disch := omega) only [splice, ↓SXd, SXu, slBounds, ↓sop, ↓aop, ↓reduceIte, LV.cells, AOp.dst, LV.I, LV.B, LV.U, LV.S, LV.nil, Nat.reduceEqDiff, Nat.reduceAdd, Nat.reduceMul, Nat.reduceSub, Nat.reduceLeDiff, Nat.reduceBEq, Nat.reduceDiv, Nat.reduceMod, Int.reduceToNat, Int.reduceLT, Int.reduceLE, Int.reduceAdd, Int.reduceSub, Int.reduceMul, Int.reduceEq, Int.reduceNeg, reduceCtorEq, resV, resAll, ARes.ev, LV.flat, ite_true, ite_false, exists_eq_left', exists_eq_left, keyOf, implies_true, fillC, capOf]
          simp (disch := omega) only [f4, splice, hat, ↓SXd, SXu, slBounds, ↓sop, ↓aop, ↓reduceIte, LV.cells, AOp.dst, LV.I, LV.B, LV.U, LV.S, LV.nil, Nat.reduceEqDiff, Nat.reduceAdd, Nat.reduceMul, Nat.reduceSub, Nat.reduceLeDiff, Nat.reduceBEq, Nat.reduceDiv, Nat.reduceMod, Int.reduceToNat, Int.reduceLT, Int.reduceLE, Int.reduceAdd, Int.reduceSub, Int.reduceMul, Int.reduceEq, Int.reduceNeg, reduceCtorEq, resV, resAll, ARes.ev, LV.flat, ite_true, ite_false, exists_eq_left', exists_eq_left, keyOf, implies_true, fillC, capOf]
          rw [show List.take ((k + 1) * 3) (List.take (k * 3) (triL (List.take k cs)) ++ [LV.val (.int .i64 c.a), LV.val (.int .i64 c.b), LV.val (.int .i64 c.c)]) ++ triL (List.drop k cs) = triL (List.take k cs ++ c :: List.drop k cs) by
            rw [List.take_of_length_le (by simp [hT1]; omega), List.take_of_length_le (by omega)]
            simp [triL, Cell.row], show k + 1 + (cs.length - k) = (List.take k cs ++ c :: List.drop k cs).length by simp; omega]
          exact cmp_keep1 (j := 7) rfl (triL_lo _) (by simp [rn, rn0, rn1, keepR_n])
  · have hkn : k = cs.length := by omega
    have hwp := with_pick hH hc (k := k) (by omega) hlo (fun h => absurd h hkl)
    rw [← hwp]
    have hat : ∀ L : Mem, (M ++ L)[t]? = M[t]? := fun L => List.getElem?_append_left ht
    have g1 : getCells M t 0 (k * 3) = some (triL (cs.take k)) := Tri.all (Tri.take hT (by omega)) (by simp; omega)
    have hT1 : (triL (cs.take k)).length = k * 3 := by rw [triL_len]; simp; omega
    have hz : cs.length - k = 0 := by omega
    simp (disch := omega) only [f2, f3, f4, f5, hgE, Nat.sub_zero, hz, ↓SXd, SXu, slBounds, ↓sop, ↓aop, ↓reduceIte, LV.cells, AOp.dst, LV.I, LV.B, LV.U, LV.S, LV.nil, Nat.reduceEqDiff, Nat.reduceAdd, Nat.reduceMul, Nat.reduceSub, Nat.reduceLeDiff, Nat.reduceBEq, Nat.reduceDiv, Nat.reduceMod, Int.reduceToNat, Int.reduceLT, Int.reduceLE, Int.reduceAdd, Int.reduceSub, Int.reduceMul, Int.reduceEq, Int.reduceNeg, reduceCtorEq, resV, resAll, ARes.ev, LV.flat, ite_true, ite_false, exists_eq_left', exists_eq_left, keyOf, implies_true, fillC, capOf]
    rcases Nat.eq_zero_or_pos k with hk0 | hk0
    · subst hk0
      rw [appendK_zero]
      simp (disch := omega) only [hat, ↓SXd, SXu, slBounds, ↓sop, ↓aop, ↓reduceIte, LV.cells, AOp.dst, LV.I, LV.B, LV.U, LV.S, LV.nil, Nat.reduceEqDiff, Nat.reduceAdd, Nat.reduceMul, Nat.reduceSub, Nat.reduceLeDiff, Nat.reduceBEq, Nat.reduceDiv, Nat.reduceMod, Int.reduceToNat, Int.reduceLT, Int.reduceLE, Int.reduceAdd, Int.reduceSub, Int.reduceMul, Int.reduceEq, Int.reduceNeg, reduceCtorEq, resV, resAll, ARes.ev, LV.flat, ite_true, ite_false, exists_eq_left', exists_eq_left, keyOf, implies_true, fillC, capOf]
      rw [appendK_pos (by omega) (by rw [cells_j]; rfl) (by rw [at_j]; rfl) (by simp)]
      simp (disch := omega) only [hat, ↓SXd, SXu, slBounds, ↓sop, ↓aop, ↓reduceIte, LV.cells, AOp.dst, LV.I, LV.B, LV.U, LV.S, LV.nil, Nat.reduceEqDiff, Nat.reduceAdd, Nat.reduceMul, Nat.reduceSub, Nat.reduceLeDiff, Nat.reduceBEq, Nat.reduceDiv, Nat.reduceMod, Int.reduceToNat, Int.reduceLT, Int.reduceLE, Int.reduceAdd, Int.reduceSub, Int.reduceMul, Int.reduceEq, Int.reduceNeg, reduceCtorEq, resV, resAll, ARes.ev, LV.flat, ite_true, ite_false, exists_eq_left', exists_eq_left, keyOf, implies_true, fillC, capOf]
      rw [appendK_zero]
      simp (disch := omega) only [List.length_append, List.length_set, hat, ↓SXd, SXu, slBounds, ↓sop, ↓aop, ↓reduceIte, LV.cells, AOp.dst, LV.I, LV.B, LV.U, LV.S, LV.nil, Nat.reduceEqDiff, Nat.reduceAdd, Nat.reduceMul, Nat.reduceSub, Nat.reduceLeDiff, Nat.reduceBEq, Nat.reduceDiv, Nat.reduceMod, Int.reduceToNat, Int.reduceLT, Int.reduceLE, Int.reduceAdd, Int.reduceSub, Int.reduceMul, Int.reduceEq, Int.reduceNeg, reduceCtorEq, resV, resAll, ARes.ev, LV.flat, ite_true, ite_false, exists_eq_left', exists_eq_left, keyOf, implies_true, fillC, capOf]
      refine callK_of (h_l2Made (by simp)) ?_
      simp (disch := omega) only [splice, ↓SXd, SXu, slBounds, ↓sop, ↓aop, ↓reduceIte, LV.cells, AOp.dst, LV.I, LV.B, LV.U, LV.S, LV.nil, Nat.reduceEqDiff, Nat.reduceAdd, Nat.reduceMul, Nat.reduceSub, Nat.reduceLeDiff, Nat.reduceBEq, Nat.reduceDiv, Nat.reduceMod, Int.reduceToNat, Int.reduceLT, Int.reduceLE, Int.reduceAdd, Int.reduceSub, Int.reduceMul, Int.reduceEq, Int.reduceNeg, reduceCtorEq, resV, resAll, ARes.ev, LV.flat, ite_true, ite_false, exists_eq_left', exists_eq_left, keyOf, implies_true, fillC, capOf]
      simp (disch := omega) only [f4, splice, hat, ↓SXd, SXu, slBounds, ↓sop, ↓aop, ↓reduceIte, LV.cells, AOp.dst, LV.I, LV.B, LV.U, LV.S, LV.nil, Nat.reduceEqDiff, Nat.reduceAdd, Nat.reduceMul, Nat.reduceSub, Nat.reduceLeDiff, Nat.reduceBEq, Nat.reduceDiv, Nat.reduceMod, Int.reduceToNat, Int.reduceLT, Int.reduceLE, Int.reduceAdd, Int.reduceSub, Int.reduceMul, Int.reduceEq, Int.reduceNeg, reduceCtorEq, resV, resAll, ARes.ev, LV.flat, ite_true, ite_false, exists_eq_left', exists_eq_left, keyOf, implies_true, fillC, capOf]
      have hnil : cs = [] := List.eq_nil_of_length_eq_zero (by omega)
      subst hnil
      exact cmp_keep1 (j := 5) (cs := triL [c]) rfl (triL_lo _) (by simp [rn, rn0, rn1, keepR_n])
    · rw [appendK_pos hk0 (by rw [getCells_app ht]; exact g1) (by rw [at_j]; rfl) (by simp)]
      simp (disch := omega) only [hat, ↓SXd, SXu, slBounds, ↓sop, ↓aop, ↓reduceIte, LV.cells, AOp.dst, LV.I, LV.B, LV.U, LV.S, LV.nil, Nat.reduceEqDiff, Nat.reduceAdd, Nat.reduceMul, Nat.reduceSub, Nat.reduceLeDiff, Nat.reduceBEq, Nat.reduceDiv, Nat.reduceMod, Int.reduceToNat, Int.reduceLT, Int.reduceLE, Int.reduceAdd, Int.reduceSub, Int.reduceMul, Int.reduceEq, Int.reduceNeg, reduceCtorEq, resV, resAll, ARes.ev, LV.flat, ite_true, ite_false, exists_eq_left', exists_eq_left, keyOf, implies_true, fillC, capOf]
      rw [appendK_pos (by omega) (by rw [cells_j]; rfl) (by rw [at_j]; rfl) (by simp [hT1])]
      simp (disch := omega) only [hat, ↓SXd, SXu, slBounds, ↓sop, ↓aop, ↓reduceIte, LV.cells, AOp.dst, LV.I, LV.B, LV.U, LV.S, LV.nil, Nat.reduceEqDiff, Nat.reduceAdd, Nat.reduceMul, Nat.reduceSub, Nat.reduceLeDiff, Nat.reduceBEq, Nat.reduceDiv, Nat.reduceMod, Int.reduceToNat, Int.reduceLT, Int.reduceLE, Int.reduceAdd, Int.reduceSub, Int.reduceMul, Int.reduceEq, Int.reduceNeg, reduceCtorEq, resV, resAll, ARes.ev, LV.flat, ite_true, ite_false, exists_eq_left', exists_eq_left, keyOf, implies_true, fillC, capOf]
      rw [appendK_zero]
      simp (disch := omega) only [hat, ↓SXd, SXu, slBounds, ↓sop, ↓aop, ↓reduceIte, LV.cells, AOp.dst, LV.I, LV.B, LV.U, LV.S, LV.nil, Nat.reduceEqDiff, Nat.reduceAdd, Nat.reduceMul, Nat.reduceSub, Nat.reduceLeDiff, Nat.reduceBEq, Nat.reduceDiv, Nat.reduceMod, Int.reduceToNat, Int.reduceLT, Int.reduceLE, Int.reduceAdd, Int.reduceSub, Int.reduceMul, Int.reduceEq, Int.reduceNeg, reduceCtorEq, resV, resAll, ARes.ev, LV.flat, ite_true, ite_false, exists_eq_left', exists_eq_left, keyOf, implies_true, fillC, capOf]
      refine callK_of (h_l2Made (by simp)) ?_
      simp (disch := omega) only [splice, ↓SXd, SXu, slBounds, ↓sop, ↓aop, ↓reduceIte, LV.cells, AOp.dst, LV.I, LV.B, LV.U, LV.S, LV.nil, Nat.reduceEqDiff, Nat.reduceAdd, Nat.reduceMul, Nat.reduceSub, Nat.reduceLeDiff, Nat.reduceBEq, Nat.reduceDiv, Nat.reduceMod, Int.reduceToNat, Int.reduceLT, Int.reduceLE, Int.reduceAdd, Int.reduceSub, Int.reduceMul, Int.reduceEq, Int.reduceNeg, reduceCtorEq, resV, resAll, ARes.ev, LV.flat, ite_true, ite_false, exists_eq_left', exists_eq_left, keyOf, implies_true, fillC, capOf]
      simp (disch := omega) only [f4, splice, hat, ↓SXd, SXu, slBounds, ↓sop, ↓aop, ↓reduceIte, LV.cells, AOp.dst, LV.I, LV.B, LV.U, LV.S, LV.nil, Nat.reduceEqDiff, Nat.reduceAdd, Nat.reduceMul, Nat.reduceSub, Nat.reduceLeDiff, Nat.reduceBEq, Nat.reduceDiv, Nat.reduceMod, Int.reduceToNat, Int.reduceLT, Int.reduceLE, Int.reduceAdd, Int.reduceSub, Int.reduceMul, Int.reduceEq, Int.reduceNeg, reduceCtorEq, resV, resAll, ARes.ev, LV.flat, ite_true, ite_false, exists_eq_left', exists_eq_left, keyOf, implies_true, fillC, capOf]
      rw [show List.take (k * 3) (triL (List.take k cs)) ++ [LV.val (.int .i64 c.a), LV.val (.int .i64 c.b), LV.val (.int .i64 c.c)] = triL (List.take k cs ++ c :: List.drop k cs) by
        rw [List.take_of_length_le (by omega), hkn]
        simp [triL, Cell.row], show k + 1 = (List.take k cs ++ c :: List.drop k cs).length by simp; omega]
      exact cmp_keep1 (j := 6) rfl (triL_lo _) (by simp [rn, rn0, rn1, keepR_n])
end Go.Ab

/- Contracts: the reference's parts. -/
namespace Go.Ab
open Go
set_option linter.unusedSimpArgs false
set_option linter.unusedVariables false

theorem memK_box {M : Mem} {t e : Nat} {old vs : List LV} {A : Mem → Prop} (ht : Live M t (.row old true e)) (hl : vs.length = old.length)
    (hA : ∀ M', M'.length = M.length → Live M' t (.row vs true e) → (∀ u, u ≠ t → u < M.length → M'[u]? = M[u]?) → A M') : memK (setCells M t 0 vs) A := by
  rw [ht.setC, if_pos (by omega)]
  have : splice old 0 vs = vs := by simp [splice, hl]
  rw [this]
  exact hA _ (by simp) ht.set_eq fun u hu _ => List.getElem?_set_ne (fun e => hu e.symm)

/-- What is found by and by: the queue of a search in the set q from c. -/
structure Que (x y z : Int) (q : Cell → Bool) (c : Cell) (n : Nat) (l : List Cell) : Prop where
  nodup : l.Nodup
  mem : ∀ d ∈ l, d.inBox x y z ∧ q d = true ∧ Reach x y z (fun d => decide (d = c)) q d
  start : c ∈ l
  done : ∀ i, i < n → i < l.length → ∀ e, e.inBox x y z → q e = true → apart (l.getD i default) e = 1 → e ∈ l

theorem Que.reach {x y z : Int} {q : Cell → Bool} {c : Cell} {n : Nat} {l : List Cell} (h : Que x y z q c n l) (hn : l.length ≤ n) {d : Cell} : d ∈ l ↔ reach x y z (fun d => decide (d = c)) q d = true := by
  rw [reach_iff]
  refine ⟨fun hd => (h.mem d hd).2.2, fun hd => ?_⟩
  refine hd.ind (P := fun d => d ∈ l) (fun e _ he => ?_) fun a b ha hab hb hq => ?_
  · rw [of_decide_eq_true he]; exact h.start
  · obtain ⟨i, hi, rfl⟩ := List.getElem_of_mem ha
    exact h.done i (by omega) hi b hb hq (by simpa [hi] using hab)

theorem Que.next {x y z : Int} {q : Cell → Bool} {c : Cell} {n : Nat} {l : List Cell} (hS : Sides x y z) (h : Que x y z q c n l) (hn : n < l.length) :
    Que x y z q c (n + 1) (l ++ pick x y z fun d => (q d && !decide (d ∈ l)) && decide (apart d (l.getD n default) = 1)) := by
  have hm := fun d => mem_pick hS (p := fun d => (q d && !decide (d ∈ l)) && decide (apart d (l.getD n default) = 1)) (c := d)
  simp only [Bool.and_eq_true, Bool.not_eq_true', decide_eq_false_iff_not, decide_eq_true_eq] at hm
  have hln := h.mem _ (getD_mem' (d := default) hn)
  refine ⟨?_, fun d hd => ?_, by simp [h.start], fun i hi hil e he hq ha => ?_⟩
  · rw [List.nodup_append]
    refine ⟨h.nodup, (pick_ok hS _).nodup, fun a ha b hb e => ?_⟩
    subst e
    exact ((hm a).1 hb).2.1.2 ha
  · rcases List.mem_append.1 hd with hd | hd
    · exact h.mem d hd
    · obtain ⟨h1, ⟨h2, h3⟩, h4⟩ := (hm d).1 hd
      exact ⟨h1, h2, .step hln.2.2 (by rw [apart_comm]; exact h4) h1 h2⟩
  · have hg : ∀ {j}, j < l.length → (l ++ pick x y z fun d => (q d && !decide (d ∈ l)) && decide (apart d (l.getD n default) = 1)).getD j default = l.getD j default := fun {j} hj => by
      simp only [List.getD_eq_getElem?_getD]; rw [List.getElem?_append_left hj]
    rw [List.mem_append]
    rcases Nat.lt_or_ge i n with h1 | h1
    · rw [hg (by omega)] at ha
      exact .inl (h.done i h1 (by omega) e he hq ha)
    · have hin : i = n := by omega
      subst hin
      rw [hg hn] at ha
      by_cases hel : e ∈ l
      · exact .inl hel
      · exact .inr ((hm e).2 ⟨he, ⟨hq, hel⟩, by rw [apart_comm]; exact ha⟩)

theorem h_l2Parts {x y z : Int} {t : Nat} {w : Bool} {cs : List Cell} {M : Mem} (h : Live M t (.row (triL cs) w 3)) (hH : HeapOK x y z cs) :
    CallsR PG F.spec_l2Parts [.agg [.I x, .I y, .I z, .ref t 0 cs.length]] M fun v N => ∃ (u : Nat) (refs : List LV), v = .ref u 0 refs.length ∧ M.length ≤ u ∧ Live N u (.row refs true 1) ∧ Css N M.length N.length refs (parts x y z 65 fun d => decide (d ∈ cs)) ∧ Pre M N := by
  have hS := hH.1
  have hn := hH.len
  have ht := h.lt
  refine callsR_run K.spec_l2Parts rfl ?_
  simp (disch := omega) only [C.spec_l2Parts, ↓SXd, SXu, slBounds, ↓sop, ↓aop, ↓reduceIte, LV.cells, AOp.dst, LV.I, LV.B, LV.U, LV.S, LV.nil, Nat.reduceEqDiff, Nat.reduceAdd, Nat.reduceMul, Nat.reduceSub, Nat.reduceLeDiff, Nat.reduceBEq, Nat.reduceDiv, Nat.reduceMod, Int.reduceToNat, Int.reduceLT, Int.reduceLE, Int.reduceAdd, Int.reduceSub, Int.reduceMul, Int.reduceEq, Int.reduceNeg, reduceCtorEq, resV, resAll, ARes.ev, LV.flat, ite_true, ite_false, exists_eq_left', exists_eq_left, keyOf, implies_true, fillC, capOf]
  refine callK_of (h_l2Own (Has.app h.has) (by omega)) ?_
  simp (disch := omega) only [splice, ↓SXd, SXu, slBounds, ↓sop, ↓aop, ↓reduceIte, LV.cells, AOp.dst, LV.I, LV.B, LV.U, LV.S, LV.nil, Nat.reduceEqDiff, Nat.reduceAdd, Nat.reduceMul, Nat.reduceSub, Nat.reduceLeDiff, Nat.reduceBEq, Nat.reduceDiv, Nat.reduceMod, Int.reduceToNat, Int.reduceLT, Int.reduceLE, Int.reduceAdd, Int.reduceSub, Int.reduceMul, Int.reduceEq, Int.reduceNeg, reduceCtorEq, resV, resAll, ARes.ev, LV.flat, ite_true, ite_false, exists_eq_left', exists_eq_left, keyOf, implies_true, fillC, capOf]
  have hcs := hH.pick
  refine ev_loop (fun m fr M' => ∃ (q : Cell → Bool) (refs : List LV) (L : List (List Cell)) (to tl : Nat), parts x y z 65 (fun d => decide (d ∈ cs)) = L ++ parts x y z m q ∧ (pick x y z q).length < m ∧ Pre M M' ∧ Live M' M.length (.row [.I x, .I y, .I z, .ref t 0 cs.length] true 0) ∧
    Live M' (M.length + 3) (.row [.I x, .I y, .I z, .ref tl 0 (pick x y z q).length] true 0) ∧ Live M' tl (.row (triL (pick x y z q)) true 3) ∧ M.length + 1 ≤ to ∧ Live M' to (.row refs true 1) ∧ Css M' M.length M'.length refs L ∧ refs.length = L.length ∧ L.length + m ≤ 65 ∧
    fr 1 = .ptr M.length 0 ∧ fr 3 = .ref to 0 refs.length ∧ fr 4 = .ptr (M.length + 3) 0) 65
    ⟨fun d => decide (d ∈ cs), [], [], M.length + 1, M.length + 2, rfl, by rw [← hcs]; omega, Pre.app _ _, Live.new, by rw [← hcs]; exact Live.newj rfl, by rw [← hcs]; exact Live.newj rfl, by omega, Live.newj rfl, trivial, rfl, by simp, rfl, rfl, rfl⟩ ?_
  clear hcs
  rintro m fr M' ⟨q, refs, L, to, tl, hparts, hfuel, hpre, hbox, hlb, hlr, hto, hout, hcss, hrl, hLm, f1, f3, f4⟩
  have hl0 := hlb.lt
  have hl1 := hlr.lt
  have hl2 := hout.lt
  simp (disch := omega) only [f1, f3, f4, hlb.cell, ↓SXd, SXu, slBounds, ↓sop, ↓aop, ↓reduceIte, LV.cells, AOp.dst, LV.I, LV.B, LV.U, LV.S, LV.nil, Nat.reduceEqDiff, Nat.reduceAdd, Nat.reduceMul, Nat.reduceSub, Nat.reduceLeDiff, Nat.reduceBEq, Nat.reduceDiv, Nat.reduceMod, Int.reduceToNat, Int.reduceLT, Int.reduceLE, Int.reduceAdd, Int.reduceSub, Int.reduceMul, Int.reduceEq, Int.reduceNeg, reduceCtorEq, resV, resAll, ARes.ev, LV.flat, ite_true, ite_false, exists_eq_left', exists_eq_left, keyOf, implies_true, fillC, capOf]
  refine condC_dec (fun hlt => ?_) (fun hlt => ?_)
  rotate_left
  · simp (disch := omega) only [f1, f3, f4, ↓SXd, SXu, slBounds, ↓sop, ↓aop, ↓reduceIte, LV.cells, AOp.dst, LV.I, LV.B, LV.U, LV.S, LV.nil, Nat.reduceEqDiff, Nat.reduceAdd, Nat.reduceMul, Nat.reduceSub, Nat.reduceLeDiff, Nat.reduceBEq, Nat.reduceDiv, Nat.reduceMod, Int.reduceToNat, Int.reduceLT, Int.reduceLE, Int.reduceAdd, Int.reduceSub, Int.reduceMul, Int.reduceEq, Int.reduceNeg, reduceCtorEq, resV, resAll, ARes.ev, LV.flat, ite_true, ite_false, exists_eq_left', exists_eq_left, keyOf, implies_true, fillC, capOf]
    have hnil : pick x y z q = [] := List.eq_nil_of_length_eq_zero (by omega)
    have : parts x y z m q = [] := by cases m with
      | zero => rfl
      | succ m => simp only [parts, hnil]
    rw [this, List.append_nil] at hparts
    rw [hparts]
    exact ⟨to, refs, rfl, by omega, hout, hcss, hpre⟩
  · obtain ⟨c, rs, hpk⟩ : ∃ c rs, pick x y z q = c :: rs := by
      cases hh : pick x y z q with
      | nil => rw [hh] at hlt; simp at hlt
      | cons c rs => exact ⟨c, rs, rfl⟩
    have hcq := (mem_pick hS (p := q) (c := c)).1 (by rw [hpk]; simp)
    have hg0 : (pick x y z q).getD 0 default = c := by rw [hpk]; rfl
    have hc0 := hlr.tri0 (k := 0) (by omega)
    rw [hg0, Nat.zero_mul] at hc0
    simp (disch := omega) only [f1, f3, f4, hbox.cell, hlb.cell, hc0, Cell.row, List.getElem?_append_left, splice, ↓SXd, SXu, slBounds, ↓sop, ↓aop, ↓reduceIte, LV.cells, AOp.dst, LV.I, LV.B, LV.U, LV.S, LV.nil, Nat.reduceEqDiff, Nat.reduceAdd, Nat.reduceMul, Nat.reduceSub, Nat.reduceLeDiff, Nat.reduceBEq, Nat.reduceDiv, Nat.reduceMod, Int.reduceToNat, Int.reduceLT, Int.reduceLE, Int.reduceAdd, Int.reduceSub, Int.reduceMul, Int.reduceEq, Int.reduceNeg, reduceCtorEq, resV, resAll, ARes.ev, LV.flat, ite_true, ite_false, exists_eq_left', exists_eq_left, keyOf, implies_true, fillC, capOf]
    refine callK_of (h_l2Empty) ?_
    simp (disch := omega) only [f1, f3, f4, List.getElem?_append_left, splice, ↓SXd, SXu, slBounds, ↓sop, ↓aop, ↓reduceIte, LV.cells, AOp.dst, LV.I, LV.B, LV.U, LV.S, LV.nil, Nat.reduceEqDiff, Nat.reduceAdd, Nat.reduceMul, Nat.reduceSub, Nat.reduceLeDiff, Nat.reduceBEq, Nat.reduceDiv, Nat.reduceMod, Int.reduceToNat, Int.reduceLT, Int.reduceLE, Int.reduceAdd, Int.reduceSub, Int.reduceMul, Int.reduceEq, Int.reduceNeg, reduceCtorEq, resV, resAll, ARes.ev, LV.flat, ite_true, ite_false, exists_eq_left', exists_eq_left, keyOf, implies_true, fillC, capOf]
    have e1 : Live (M' ++ [some (.row [.I c.a, .I c.b, .I c.c] true 3), some (.row [.I x, .I y, .I z, .ref (M'.length + 2) 0 0] true 0), some (.row [] true 3)]) M'.length (.row [.I c.a, .I c.b, .I c.c] true 3) := Live.new
    have e2 : Live (M' ++ [some (.row [.I c.a, .I c.b, .I c.c] true 3), some (.row [.I x, .I y, .I z, .ref (M'.length + 2) 0 0] true 0), some (.row [] true 3)]) (M'.length + 1) (.row [.I x, .I y, .I z, .ref (M'.length + 2) 0 0] true 0) := Live.newj rfl
    have e3 : Live (M' ++ [some (.row [.I c.a, .I c.b, .I c.c] true 3), some (.row [.I x, .I y, .I z, .ref (M'.length + 2) 0 0] true 0), some (.row [] true 3)]) (M'.length + 2) (.row [] true 3) := Live.newj rfl
    have hp1 : Pre M' (M' ++ [some (.row [.I c.a, .I c.b, .I c.c] true 3), some (.row [.I x, .I y, .I z, .ref (M'.length + 2) 0 0] true 0), some (.row [] true 3)]) := Pre.app _ _
    generalize M' ++ [some (.row [.I c.a, .I c.b, .I c.c] true 3), some (.row [.I x, .I y, .I z, .ref (M'.length + 2) 0 0] true 0), some (.row [] true 3)] = N1 at e1 e2 e3 hp1 ⊢
    have hlb1 := hlb.pre hp1
    have hlr1 := hlr.pre hp1
    simp (disch := omega) only [f1, f3, f4, hlb1.cells, e1.cells, ↓SXd, SXu, slBounds, ↓sop, ↓aop, ↓reduceIte, LV.cells, AOp.dst, LV.I, LV.B, LV.U, LV.S, LV.nil, Nat.reduceEqDiff, Nat.reduceAdd, Nat.reduceMul, Nat.reduceSub, Nat.reduceLeDiff, Nat.reduceBEq, Nat.reduceDiv, Nat.reduceMod, Int.reduceToNat, Int.reduceLT, Int.reduceLE, Int.reduceAdd, Int.reduceSub, Int.reduceMul, Int.reduceEq, Int.reduceNeg, reduceCtorEq, resV, resAll, ARes.ev, LV.flat, ite_true, ite_false, exists_eq_left', exists_eq_left, keyOf, implies_true, fillC, capOf]
    refine callH_of (h_l2Without hlr1.has (by have := pick_len hS q; omega)) ?_
    intro tl2 N2 htl2 hp2 hlr2
    rw [cell_eta, filter_pick] at hlr2 ⊢
    simp (disch := omega) only [f1, f3, f4, ↓SXd, SXu, slBounds, ↓sop, ↓aop, ↓reduceIte, LV.cells, AOp.dst, LV.I, LV.B, LV.U, LV.S, LV.nil, Nat.reduceEqDiff, Nat.reduceAdd, Nat.reduceMul, Nat.reduceSub, Nat.reduceLeDiff, Nat.reduceBEq, Nat.reduceDiv, Nat.reduceMod, Int.reduceToNat, Int.reduceLT, Int.reduceLE, Int.reduceAdd, Int.reduceSub, Int.reduceMul, Int.reduceEq, Int.reduceNeg, reduceCtorEq, resV, resAll, ARes.ev, LV.flat, ite_true, ite_false, exists_eq_left', exists_eq_left, keyOf, implies_true, fillC, capOf]
    refine memK_box (hlb1.pre hp2) (by simp) fun N3 k1 k2 k3 => ?_
    simp (disch := omega) only [f1, f3, f4, ↓SXd, SXu, slBounds, ↓sop, ↓aop, ↓reduceIte, LV.cells, AOp.dst, LV.I, LV.B, LV.U, LV.S, LV.nil, Nat.reduceEqDiff, Nat.reduceAdd, Nat.reduceMul, Nat.reduceSub, Nat.reduceLeDiff, Nat.reduceBEq, Nat.reduceDiv, Nat.reduceMod, Int.reduceToNat, Int.reduceLT, Int.reduceLE, Int.reduceAdd, Int.reduceSub, Int.reduceMul, Int.reduceEq, Int.reduceNeg, reduceCtorEq, resV, resAll, ARes.ev, LV.flat, ite_true, ite_false, exists_eq_left', exists_eq_left, keyOf, implies_true, fillC, capOf]
    have hN1 := hp1.1
    have hN1' := e3.lt
    have hN2 := hp2.1
    have hM3 : M.length + 3 < M'.length := hl0
    have hno := hout.ne_esz hlb (by decide)
    have hlr3 := live_step hlr2 (by omega) k3
    have hbox3 := live_step ((hbox.pre hp1).pre hp2) (by omega) k3
    have hout3 := live_step ((hout.pre hp1).pre hp2) (by omega) k3
    have g1 := live_step (e1.pre hp2) (by omega) k3
    have g2 := live_step (e2.pre hp2) (by omega) k3
    have g3 := live_step (e3.pre hp2) (by omega) k3
    have hpre3 := pre_step ((hpre.trans hp1).trans hp2) (by omega) (j := 0) k1 k3
    have hcss3 := ((hcss.pre hp1).pre hp2).keep (.inr ⟨_, _, _, hlb1.pre hp2, by decide⟩) k3
    have hrows : ∀ l : List Cell, (Blk.row [.I c.a, .I c.b, .I c.c] true 3) = .row (triL [c]) true 3 := fun _ => rfl
    refine ev_loop (fun m2 fr N => ∃ (n : Nat) (list : List Cell) (ti tl tp : Nat), n + m2 = 64 ∧ n ≤ list.length ∧ Que x y z q c n list ∧ Pre M N ∧ Live N M.length (.row [.I x, .I y, .I z, .ref t 0 cs.length] true 0) ∧
      Live N (M.length + 3) (.row [.I x, .I y, .I z, .ref tl 0 (pick x y z fun d => q d && !decide (d ∈ list)).length] true 0) ∧ Live N tl (.row (triL (pick x y z fun d => q d && !decide (d ∈ list))) true 3) ∧
      Live N (M'.length + 1) (.row [.I x, .I y, .I z, .ref tp 0 (pick x y z fun d => decide (d ∈ list.take n)).length] true 0) ∧ Live N tp (.row (triL (pick x y z fun d => decide (d ∈ list.take n))) true 3) ∧
      Live N ti (.row (triL list) true 3) ∧ Live N to (.row refs true 1) ∧ Css N M.length M'.length refs L ∧ M'.length ≤ ti ∧ M'.length ≤ tl ∧ M'.length ≤ tp ∧ ti ≠ tl ∧ ti ≠ tp ∧ ti ≠ M'.length + 1 ∧
      fr 1 = .ptr M.length 0 ∧ fr 3 = .ref to 0 refs.length ∧ fr 4 = .ptr (M.length + 3) 0 ∧ fr 5 = .ptr (M'.length + 1) 0 ∧ fr 6 = .ref ti 0 list.length ∧ fr 7 = .I n) 64
      ⟨0, [c], M'.length, tl2, M'.length + 2, rfl, by simp, ⟨by simp, fun d hd => by rw [List.mem_singleton.1 hd]; exact ⟨hcq.1, hcq.2, .base hcq.1 (by simp)⟩, by simp, by omega⟩, hpre3, hbox3, ?_, ?_, ?_, ?_, g1, hout3, hcss3, by omega, by omega, by omega, by omega, by omega, by omega, f1, f3, f4, rfl, rfl, rfl⟩ ?_
    · rw [pick_congr hS (p := fun d => q d && !decide (d ∈ [c])) (q := fun d => q d && !decide (d = c)) fun d _ => by simp]; exact k2
    · rw [pick_congr hS (p := fun d => q d && !decide (d ∈ [c])) (q := fun d => q d && !decide (d = c)) fun d _ => by simp]; exact hlr3
    · rw [show pick x y z (fun d => decide (d ∈ [c].take 0)) = [] by unfold pick; rw [List.filter_eq_nil_iff]; simp]; exact g2
    · rw [show pick x y z (fun d => decide (d ∈ [c].take 0)) = [] by unfold pick; rw [List.filter_eq_nil_iff]; simp]; exact g3
    clear f1 f3 f4 hbox hlb hlr hout hcss hpre hlb1 hlr1 hlr2 k1 k2 k3 hlr3 hbox3 hout3 g1 g2 g3 hpre3 hcss3 e1 e2 e3 hp1 hp2 hN1 hN1' hN2 htl2 hno hc0 hl0 hl1 hl2
    rintro m2 fr N ⟨n, list, ti, tl, tp, hnm, hnl, hque, hpre, hbox, hlb, hlr, hpb, hpr, hli, hout, hcss, hti, htl, htp, hd1, hd2, hd3, f1, f3, f4, f5, f6, f7⟩
    have hll := nodup_len hS hque.nodup fun d hd => (hque.mem d hd).1
    have hNl := hpb.lt
    have hl0 := hlb.lt
    simp (disch := omega) only [f1, f3, f4, f5, f6, f7, ↓SXd, SXu, slBounds, ↓sop, ↓aop, ↓reduceIte, LV.cells, AOp.dst, LV.I, LV.B, LV.U, LV.S, LV.nil, Nat.reduceEqDiff, Nat.reduceAdd, Nat.reduceMul, Nat.reduceSub, Nat.reduceLeDiff, Nat.reduceBEq, Nat.reduceDiv, Nat.reduceMod, Int.reduceToNat, Int.reduceLT, Int.reduceLE, Int.reduceAdd, Int.reduceSub, Int.reduceMul, Int.reduceEq, Int.reduceNeg, reduceCtorEq, resV, resAll, ARes.ev, LV.flat, ite_true, ite_false, exists_eq_left', exists_eq_left, keyOf, implies_true, fillC, capOf]
    refine condC_dec (fun hlt2 => ?_) (fun hlt2 => ?_)
    · have hnl' : n < list.length := by omega
      have hlc := hli.tri0 hnl'
      have hcn := hque.mem _ (getD_mem' (d := default) hnl')
      have hpk2 := pick_ok hS fun d => decide (d ∈ list.take n)
      simp (disch := omega) only [f1, f3, f4, f5, f6, f7, hpb.cells, hlc, Cell.row, ↓SXd, SXu, slBounds, ↓sop, ↓aop, ↓reduceIte, LV.cells, AOp.dst, LV.I, LV.B, LV.U, LV.S, LV.nil, Nat.reduceEqDiff, Nat.reduceAdd, Nat.reduceMul, Nat.reduceSub, Nat.reduceLeDiff, Nat.reduceBEq, Nat.reduceDiv, Nat.reduceMod, Int.reduceToNat, Int.reduceLT, Int.reduceLE, Int.reduceAdd, Int.reduceSub, Int.reduceMul, Int.reduceEq, Int.reduceNeg, reduceCtorEq, resV, resAll, ARes.ev, LV.flat, ite_true, ite_false, exists_eq_left', exists_eq_left, keyOf, implies_true, fillC, capOf]
      refine callH_of (h_l2With hpr hpk2 hcn.1) ?_
      intro tp2 N2 htp2 hp2 hpr2
      rw [pick_take_step hS hnl'] at hpr2 ⊢
      simp (disch := omega) only [f1, f3, f4, f5, f6, f7, ↓SXd, SXu, slBounds, ↓sop, ↓aop, ↓reduceIte, LV.cells, AOp.dst, LV.I, LV.B, LV.U, LV.S, LV.nil, Nat.reduceEqDiff, Nat.reduceAdd, Nat.reduceMul, Nat.reduceSub, Nat.reduceLeDiff, Nat.reduceBEq, Nat.reduceDiv, Nat.reduceMod, Int.reduceToNat, Int.reduceLT, Int.reduceLE, Int.reduceAdd, Int.reduceSub, Int.reduceMul, Int.reduceEq, Int.reduceNeg, reduceCtorEq, resV, resAll, ARes.ev, LV.flat, ite_true, ite_false, exists_eq_left', exists_eq_left, keyOf, implies_true, fillC, capOf]
      refine memK_box (hpb.pre hp2) (by simp) fun N3 k1 k2 k3 => ?_
      have hN2 := hp2.1
      have hlb3 := live_step (hlb.pre hp2) (by omega) k3
      have hlr3 := live_step (hlr.pre hp2) (hlr.ne_esz hpb (by decide)) k3
      have hli3 := live_step (hli.pre hp2) (by omega) k3
      have hbox3 := live_step (hbox.pre hp2) (by omega) k3
      have hout3 := live_step (hout.pre hp2) (hout.ne_esz hpb (by decide)) k3
      have hpr3 := live_step hpr2 (by omega) k3
      have hcss3 := (hcss.pre hp2).keep (.inr ⟨_, _, _, hpb.pre hp2, by decide⟩) k3
      have hpre3 := pre_step (hpre.trans hp2) (by omega) (j := 0) k1 k3
      have hlc3 := hli3.tri0 hnl'
      simp (disch := omega) only [f1, f3, f4, f5, f6, f7, hlb3.cells, hlc3, Cell.row, ↓SXd, SXu, slBounds, ↓sop, ↓aop, ↓reduceIte, LV.cells, AOp.dst, LV.I, LV.B, LV.U, LV.S, LV.nil, Nat.reduceEqDiff, Nat.reduceAdd, Nat.reduceMul, Nat.reduceSub, Nat.reduceLeDiff, Nat.reduceBEq, Nat.reduceDiv, Nat.reduceMod, Int.reduceToNat, Int.reduceLT, Int.reduceLE, Int.reduceAdd, Int.reduceSub, Int.reduceMul, Int.reduceEq, Int.reduceNeg, reduceCtorEq, resV, resAll, ARes.ev, LV.flat, ite_true, ite_false, exists_eq_left', exists_eq_left, keyOf, implies_true, fillC, capOf]
      refine callN_of (h_l2Near hlr3.has (by have := pick_len hS fun d => q d && !decide (d ∈ list); omega) (fun d hd => ?_) ?_) ?_
      · have := ((mem_pick hS).1 hd).1
        obtain ⟨⟨_, _⟩, ⟨_, _⟩, ⟨_, _⟩⟩ := id hS
        exact ⟨⟨this.1.1, by have := this.1.2; omega⟩, ⟨this.2.1.1, by have := this.2.1.2; omega⟩, ⟨this.2.2.1, by have := this.2.2.2; omega⟩⟩
      · have := hcn.1
        obtain ⟨⟨_, _⟩, ⟨_, _⟩, ⟨_, _⟩⟩ := id hS
        exact ⟨⟨this.1.1, by have := this.1.2; omega⟩, ⟨this.2.1.1, by have := this.2.1.2; omega⟩, ⟨this.2.2.1, by have := this.2.2.2; omega⟩⟩
      intro tn N4 htn hp4 hnr
      rw [filter_pick] at hnr ⊢
      have hnx := hque.next hS hnl'
      simp (disch := omega) only [f1, f3, f4, f5, f6, f7, ↓SXd, SXu, slBounds, ↓sop, ↓aop, ↓reduceIte, LV.cells, AOp.dst, LV.I, LV.B, LV.U, LV.S, LV.nil, Nat.reduceEqDiff, Nat.reduceAdd, Nat.reduceMul, Nat.reduceSub, Nat.reduceLeDiff, Nat.reduceBEq, Nat.reduceDiv, Nat.reduceMod, Int.reduceToNat, Int.reduceLT, Int.reduceLE, Int.reduceAdd, Int.reduceSub, Int.reduceMul, Int.reduceEq, Int.reduceNeg, reduceCtorEq, resV, resAll, ARes.ev, LV.flat, ite_true, ite_false, exists_eq_left', exists_eq_left, keyOf, implies_true, fillC, capOf]
      have hnrl := pick_len hS fun d => (q d && !decide (d ∈ list)) && decide (apart d (list.getD n default) = 1)
      have hN2 := hp2.1
      have hN4 := hp4.1
      have hN3 : N3.length = N2.length := k1
      have hlN3 := hlr3.lt
      have hlN0 := hli.lt
      have hlN4 := hli3.lt
      have hlN5 := hpr3.lt
      generalize hnrd : pick x y z (fun d => (q d && !decide (d ∈ list)) && decide (apart d (list.getD n default) = 1)) = nr at hnr hnx hnrl ⊢
      refine ev_loop (fun m3 fr N => ∃ (i ti tl : Nat), i + m3 = nr.length ∧ Pre M N ∧ Live N M.length (.row [.I x, .I y, .I z, .ref t 0 cs.length] true 0) ∧
        Live N (M.length + 3) (.row [.I x, .I y, .I z, .ref tl 0 (pick x y z fun d => q d && !decide (d ∈ list ++ nr.take i)).length] true 0) ∧ Live N tl (.row (triL (pick x y z fun d => q d && !decide (d ∈ list ++ nr.take i))) true 3) ∧
        Live N (M'.length + 1) (.row [.I x, .I y, .I z, .ref tp2 0 (pick x y z fun d => decide (d ∈ list.take (n + 1))).length] true 0) ∧ Live N tp2 (.row (triL (pick x y z fun d => decide (d ∈ list.take (n + 1)))) true 3) ∧
        Live N ti (.row (triL (list ++ nr.take i)) true 3) ∧ Live N tn (.row (triL nr) true 3) ∧ Live N to (.row refs true 1) ∧ Css N M.length M'.length refs L ∧ M'.length ≤ ti ∧ M'.length ≤ tl ∧ M'.length ≤ tp2 ∧ ti ≠ tl ∧ ti ≠ tp2 ∧ ti ≠ M'.length + 1 ∧ ti ≠ tn ∧
        fr 1 = .ptr M.length 0 ∧ fr 3 = .ref to 0 refs.length ∧ fr 4 = .ptr (M.length + 3) 0 ∧ fr 5 = .ptr (M'.length + 1) 0 ∧ fr 6 = .ref ti 0 (list ++ nr.take i).length ∧ fr 7 = .I n ∧ fr 8 = .ref tn 0 nr.length ∧ fr 9 = .I i) nr.length
        ⟨0, ti, tl, by omega, hpre3.trans hp4, hbox3.pre hp4, by simpa using hlb3.pre hp4, by simpa using hlr3.pre hp4, k2.pre hp4, hpr3.pre hp4, by simpa using hli3.pre hp4, hnr, hout3.pre hp4, hcss3.pre hp4, hti, htl, by omega, hd1, by omega, hd3, by omega, f1, f3, f4, f5, by simp only [List.take_zero, List.append_nil]; exact f6, f7, rfl, rfl⟩ ?_
      clear f1 f3 f4 f5 f6 f7 hpre3 hbox3 hlb3 hlr3 k2 hpr3 hli3 hnr hout3 hcss3 hlb hlr hpb hpr hli hout hcss hpre hbox k1 k3 hlc hlc3
      rintro m3 fr N ⟨i, ti, tl, hi, hpre, hbox, hlb, hlr, hpb, hpr, hli, hnr, hout, hcss, hti, htl, htp, hd1, hd2, hd3, hd4, f1, f3, f4, f5, f6, f7, f8, f9⟩
      simp (disch := omega) only [f1, f3, f4, f5, f6, f7, f8, f9, ↓SXd, SXu, slBounds, ↓sop, ↓aop, ↓reduceIte, LV.cells, AOp.dst, LV.I, LV.B, LV.U, LV.S, LV.nil, Nat.reduceEqDiff, Nat.reduceAdd, Nat.reduceMul, Nat.reduceSub, Nat.reduceLeDiff, Nat.reduceBEq, Nat.reduceDiv, Nat.reduceMod, Int.reduceToNat, Int.reduceLT, Int.reduceLE, Int.reduceAdd, Int.reduceSub, Int.reduceMul, Int.reduceEq, Int.reduceNeg, reduceCtorEq, resV, resAll, ARes.ev, LV.flat, ite_true, ite_false, exists_eq_left', exists_eq_left, keyOf, implies_true, fillC, capOf]
      refine condC_dec (fun hlt3 => ?_) (fun hlt3 => ?_)
      · have hin : i < nr.length := by omega
        have hnc := hnr.tri0 hin
        have hts : nr.take (i + 1) = nr.take i ++ [nr.getD i default] := by
          rw [List.take_succ, List.getElem?_eq_getElem hin]; simp [hin]
        have hll2 : (list ++ nr.take i).length ≤ 1000 := by simp; omega
        simp (disch := omega) only [f1, f3, f4, f5, f6, f7, f8, f9, hnc, Cell.row, splice, ↓SXd, SXu, slBounds, ↓sop, ↓aop, ↓reduceIte, LV.cells, AOp.dst, LV.I, LV.B, LV.U, LV.S, LV.nil, Nat.reduceEqDiff, Nat.reduceAdd, Nat.reduceMul, Nat.reduceSub, Nat.reduceLeDiff, Nat.reduceBEq, Nat.reduceDiv, Nat.reduceMod, Int.reduceToNat, Int.reduceLT, Int.reduceLE, Int.reduceAdd, Int.reduceSub, Int.reduceMul, Int.reduceEq, Int.reduceNeg, reduceCtorEq, resV, resAll, ARes.ev, LV.flat, ite_true, ite_false, exists_eq_left', exists_eq_left, keyOf, implies_true, fillC, capOf]
        refine appendK_cell hli (by omega) fun N5 l1 l2 l3 => ?_
        have hlb5 := live_step hlb (hlb.ne_esz hli (by decide)) l3
        have hnr5 := live_step hnr (by omega) l3
        have hlr5 := live_step hlr (by omega) l3
        rw [cell_eta, List.append_assoc, ← hts] at l2
        have hnc5 := hnr5.tri0 hin
        simp (disch := omega) only [f1, f3, f4, f5, f6, f7, f8, f9, hlb5.cells, hnc5, Cell.row, ↓SXd, SXu, slBounds, ↓sop, ↓aop, ↓reduceIte, LV.cells, AOp.dst, LV.I, LV.B, LV.U, LV.S, LV.nil, Nat.reduceEqDiff, Nat.reduceAdd, Nat.reduceMul, Nat.reduceSub, Nat.reduceLeDiff, Nat.reduceBEq, Nat.reduceDiv, Nat.reduceMod, Int.reduceToNat, Int.reduceLT, Int.reduceLE, Int.reduceAdd, Int.reduceSub, Int.reduceMul, Int.reduceEq, Int.reduceNeg, reduceCtorEq, resV, resAll, ARes.ev, LV.flat, ite_true, ite_false, exists_eq_left', exists_eq_left, keyOf, implies_true, fillC, capOf]
        refine callH_of (h_l2Without hlr5.has (by have := pick_len hS fun d => q d && !decide (d ∈ list ++ nr.take i); omega)) ?_
        intro tl3 N6 htl3 hp6 hlr6
        have hpe : pick x y z (fun d => (q d && !decide (d ∈ list ++ nr.take i)) && !decide (d = nr.getD i default)) = pick x y z fun d => q d && !decide (d ∈ list ++ nr.take (i + 1)) := pick_congr hS fun d _ => by
          rw [hts, ← List.append_assoc]
          simp only [List.mem_append (s := list ++ nr.take i), List.mem_singleton, Bool.decide_or, Bool.not_or, Bool.and_assoc]
        rw [cell_eta, filter_pick, hpe] at hlr6 ⊢
        simp (disch := omega) only [f1, f3, f4, f5, f6, f7, f8, f9, ↓SXd, SXu, slBounds, ↓sop, ↓aop, ↓reduceIte, LV.cells, AOp.dst, LV.I, LV.B, LV.U, LV.S, LV.nil, Nat.reduceEqDiff, Nat.reduceAdd, Nat.reduceMul, Nat.reduceSub, Nat.reduceLeDiff, Nat.reduceBEq, Nat.reduceDiv, Nat.reduceMod, Int.reduceToNat, Int.reduceLT, Int.reduceLE, Int.reduceAdd, Int.reduceSub, Int.reduceMul, Int.reduceEq, Int.reduceNeg, reduceCtorEq, resV, resAll, ARes.ev, LV.flat, ite_true, ite_false, exists_eq_left', exists_eq_left, keyOf, implies_true, fillC, capOf]
        refine memK_box (hlb5.pre hp6) (by simp) fun N7 j1 j2 j3 => ?_
        have hlM := hpb.lt
        have hl6 := hp6.1
        have hla := hpr.lt
        have hlb' := hnr.lt
        simp (disch := omega) only [f1, f3, f4, f5, f6, f7, f8, f9, ↓SXd, SXu, slBounds, ↓sop, ↓aop, ↓reduceIte, LV.cells, AOp.dst, LV.I, LV.B, LV.U, LV.S, LV.nil, Nat.reduceEqDiff, Nat.reduceAdd, Nat.reduceMul, Nat.reduceSub, Nat.reduceLeDiff, Nat.reduceBEq, Nat.reduceDiv, Nat.reduceMod, Int.reduceToNat, Int.reduceLT, Int.reduceLE, Int.reduceAdd, Int.reduceSub, Int.reduceMul, Int.reduceEq, Int.reduceNeg, reduceCtorEq, resV, resAll, ARes.ev, LV.flat, ite_true, ite_false, exists_eq_left', exists_eq_left, keyOf, implies_true, fillC, capOf]
        refine ⟨m3 - 1, by omega, i + 1, N.length + 1, tl3, by omega, pre_step ((pre_step hpre (by omega) l1 l3).trans hp6) (by omega) (j := 0) j1 j3, live_step ((live_step hbox (hbox.ne_esz hli (by decide)) l3).pre hp6) (by omega) j3, j2, live_step hlr6 (by omega) j3,
          live_step ((live_step hpb (by omega) l3).pre hp6) (by omega) j3, live_step ((live_step hpr (by omega) l3).pre hp6) ?_ j3, live_step (l2.pre hp6) (by omega) j3, live_step (hnr5.pre hp6) ?_ j3, live_step ((live_step hout (hout.ne_esz hli (by decide)) l3).pre hp6) ?_ j3,
          (((hcss.keep (.inl (.inl hti)) l3).pre hp6).keep (.inr ⟨_, _, _, hlb5.pre hp6, by decide⟩) j3), by omega, by omega, htp, by omega, by omega, by omega, by omega, f1, f3, f4, f5, ?_, f7, f8, eqI (natI _)⟩
        · exact hpr.ne_esz hlb (by decide)
        · exact hnr.ne_esz hlb (by decide)
        · exact hout.ne_esz hlb (by decide)
        · simp only [List.append_assoc, hts, cell_eta]; rfl
      · simp (disch := omega) only [f1, f3, f4, f5, f6, f7, f8, f9, ↓SXd, SXu, slBounds, ↓sop, ↓aop, ↓reduceIte, LV.cells, AOp.dst, LV.I, LV.B, LV.U, LV.S, LV.nil, Nat.reduceEqDiff, Nat.reduceAdd, Nat.reduceMul, Nat.reduceSub, Nat.reduceLeDiff, Nat.reduceBEq, Nat.reduceDiv, Nat.reduceMod, Int.reduceToNat, Int.reduceLT, Int.reduceLE, Int.reduceAdd, Int.reduceSub, Int.reduceMul, Int.reduceEq, Int.reduceNeg, reduceCtorEq, resV, resAll, ARes.ev, LV.flat, ite_true, ite_false, exists_eq_left', exists_eq_left, keyOf, implies_true, fillC, capOf]
        have : i = nr.length := by omega
        subst this
        rw [List.take_length] at *
        have htk : (list ++ nr).take (n + 1) = list.take (n + 1) := List.take_append_of_le_length (by omega)
        exact ⟨m2 - 1, by omega, n + 1, list ++ nr, ti, tl, tp2, by omega, by simp; omega, hnx, hpre, hbox, hlb, hlr, by rw [htk]; exact hpb, by rw [htk]; exact hpr, hli, hout, hcss, hti, htl, htp, hd1, hd2, hd3, f1, f3, f4, f5, f6, eqI (natI _)⟩
    · have hnn : n = list.length := by omega
      subst hnn
      have hr := fun d => hque.reach (d := d) (Nat.le_refl _)
      rw [List.take_length] at hpb hpr
      have hpe : pick x y z (fun d => decide (d ∈ list)) = pick x y z (reach x y z (fun d => decide (d = c)) q) := pick_congr hS fun d _ => by
        rw [Bool.eq_iff_iff, decide_eq_true_iff]; exact hr d
      have hqe : pick x y z (fun d => q d && !decide (d ∈ list)) = pick x y z fun d => q d && !reach x y z (fun d => decide (d = c)) q d := pick_congr hS fun d _ => by
        congr 2
        rw [Bool.eq_iff_iff, decide_eq_true_iff]; exact hr d
      rw [hpe] at hpb hpr
      rw [hqe] at hlb hlr
      simp (disch := omega) only [f1, f3, f4, f5, f6, f7, hpb.cell, splice, ↓SXd, SXu, slBounds, ↓sop, ↓aop, ↓reduceIte, LV.cells, AOp.dst, LV.I, LV.B, LV.U, LV.S, LV.nil, Nat.reduceEqDiff, Nat.reduceAdd, Nat.reduceMul, Nat.reduceSub, Nat.reduceLeDiff, Nat.reduceBEq, Nat.reduceDiv, Nat.reduceMod, Int.reduceToNat, Int.reduceLT, Int.reduceLE, Int.reduceAdd, Int.reduceSub, Int.reduceMul, Int.reduceEq, Int.reduceNeg, reduceCtorEq, resV, resAll, ARes.ev, LV.flat, ite_true, ite_false, exists_eq_left', exists_eq_left, keyOf, implies_true, fillC, capOf]
      refine appendK_1 (acc := refs) (new := [.ref tp 0 (pick x y z (reach x y z (fun d => decide (d = c)) q)).length]) hout (by omega) rfl (by omega) (by omega) (by omega) fun N5 l1 l2 l3 => ?_
      simp (disch := omega) only [f1, f3, f4, f5, f6, f7, ↓SXd, SXu, slBounds, ↓sop, ↓aop, ↓reduceIte, LV.cells, AOp.dst, LV.I, LV.B, LV.U, LV.S, LV.nil, Nat.reduceEqDiff, Nat.reduceAdd, Nat.reduceMul, Nat.reduceSub, Nat.reduceLeDiff, Nat.reduceBEq, Nat.reduceDiv, Nat.reduceMod, Int.reduceToNat, Int.reduceLT, Int.reduceLE, Int.reduceAdd, Int.reduceSub, Int.reduceMul, Int.reduceEq, Int.reduceNeg, reduceCtorEq, resV, resAll, ARes.ev, LV.flat, ite_true, ite_false, exists_eq_left', exists_eq_left, keyOf, implies_true, fillC, capOf]
      obtain ⟨m', rfl⟩ : ∃ m', m = m' + 1 := ⟨m - 1, by omega⟩
      have hlM := hpr.lt
      have hpl := hpre.1
      have hpp : parts x y z (m' + 1) q = pick x y z (reach x y z (fun d => decide (d = c)) q) :: parts x y z m' fun d => q d && !reach x y z (fun d => decide (d = c)) q d := by simp only [parts, hpk]
      rw [hpp] at hparts
      refine ⟨m', by omega, fun d => q d && !reach x y z (fun d => decide (d = c)) q d, refs ++ [.ref tp 0 (pick x y z (reach x y z (fun d => decide (d = c)) q)).length], L ++ [pick x y z (reach x y z (fun d => decide (d = c)) q)], N.length + 1, tl, ?_, ?_,
        pre_step hpre (by omega) l1 l3, live_step hbox (hbox.ne_esz hout (by decide)) l3, live_step hlb (hlb.ne_esz hout (by decide)) l3, live_step hlr (hlr.ne_esz hout (by decide)) l3, by omega, l2, ?_, by simp [hrl], by simp; omega, f1, ?_, f4⟩
      · rw [hparts, List.append_assoc]; rfl
      · have := filter_lt hS (l := cellsOf x y z) (p := fun d => q d && !reach x y z (fun d => decide (d = c)) q d) (q := q) (fun a _ ha => by simp only [Bool.and_eq_true] at ha; exact ha.1)
          ⟨c, (mem_cellsOf hS).2 hcq.1, hcq.2, by rw [(reach_iff (c := c)).2 (.base hcq.1 (by simp))]; simp⟩
        unfold pick at hfuel ⊢
        omega
      · exact (hcss.keep (.inr ⟨_, _, _, hout, by decide⟩) l3).snoc htp (by omega) (live_step hpr (hpr.ne_esz hout (by decide)) l3) (by omega)
      · rw [List.length_append, List.length_singleton]; rfl
end Go.Ab

/- Plain words: what stands and what hangs, by parts and by growing. -/
namespace Go.Ab

theorem Reach.symm {x y z : Int} {q : Cell → Bool} {c d : Cell} (hc : c.inBox x y z) (hqc : q c = true) (h : Reach x y z (fun e => decide (e = c)) q d) : Reach x y z (fun e => decide (e = d)) q c ∧ q d = true := by
  induction h with
  | base h1 h2 => rw [of_decide_eq_true h2]; exact ⟨.base hc (by simp), hqc⟩
  | @step a b h1 h2 h3 h4 ih =>
    refine ⟨?_, h4⟩
    have hb : Reach x y z (fun e => decide (e = b)) q b := .base h3 (by simp)
    have hba : Reach x y z (fun e => decide (e = b)) q a := .step hb (by rw [apart_comm]; exact h2) h1.inBox ih.2
    have htr : ∀ {u}, Reach x y z (fun e => decide (e = a)) q u → Reach x y z (fun e => decide (e = b)) q u := fun hu =>
      hu.mono (fun e _ he => by rw [of_decide_eq_true he]; exact hba) fun _ _ h => h
    exact htr ih.1
theorem Reach.trans {x y z : Int} {q p : Cell → Bool} {c d : Cell} (h : Reach x y z p q c) (k : Reach x y z (fun e => decide (e = c)) q d) : Reach x y z p q d :=
  k.mono (fun e _ he => by rw [of_decide_eq_true he]; exact h) fun _ _ h => h

section
variable {x y z : Int} (hS : Sides x y z)
include hS
/-- Each part is what one of its cells reaches, and each cell is in a part. -/
theorem parts_spec : ∀ (f : Nat) (q : Cell → Bool), (pick x y z q).length < f →
    (∀ l ∈ parts x y z f q, ∃ c, c.inBox x y z ∧ q c = true ∧ l = pick x y z (reach x y z (fun d => decide (d = c)) q)) ∧ ∀ d, d.inBox x y z → q d = true → ∃ l ∈ parts x y z f q, d ∈ l
  | 0, q, h => by omega
  | f + 1, q, h => by
    cases hpk : pick x y z q with
    | nil =>
      simp only [parts, hpk]
      refine ⟨fun l hl => by simp at hl, fun d hd hq => ?_⟩
      have := (mem_pick hS (p := q) (c := d)).2 ⟨hd, hq⟩
      rw [hpk] at this; simp at this
    | cons c rs =>
      have hcq := (mem_pick hS (p := q) (c := c)).1 (by rw [hpk]; simp)
      simp only [parts, hpk]
      have hlt := filter_lt hS (l := cellsOf x y z) (p := fun d => q d && !reach x y z (fun d => decide (d = c)) q d) (q := q) (fun a _ ha => by simp only [Bool.and_eq_true] at ha; exact ha.1)
        ⟨c, (mem_cellsOf hS).2 hcq.1, hcq.2, by rw [(reach_iff (c := c)).2 (.base hcq.1 (by simp))]; simp⟩
      obtain ⟨h1, h2⟩ := parts_spec f (fun d => q d && !reach x y z (fun d => decide (d = c)) q d) (by unfold pick at h ⊢; omega)
      have key : ∀ a, a.inBox x y z → q a = true → reach x y z (fun d => decide (d = c)) q a = false → ∀ d, reach x y z (fun d => decide (d = a)) q d = reach x y z (fun d => decide (d = a)) (fun d => q d && !reach x y z (fun d => decide (d = c)) q d) d := by
        intro a ha hqa hna d
        rw [Bool.eq_iff_iff, reach_iff, reach_iff]
        constructor
        · intro hr
          refine hr.ind (P := fun e => Reach x y z (fun d => decide (d = a)) (fun d => q d && !reach x y z (fun d => decide (d = c)) q d) e) (fun e he1 he2 => .base he1 he2) (fun e e' he hab hb hq => ?_)
          refine .step he hab hb ?_
          rw [Bool.and_eq_true]
          refine ⟨hq, ?_⟩
          cases hh : reach x y z (fun d => decide (d = c)) q e' with
          | false => rfl
          | true =>
            exfalso
            have hre' := reach_iff.1 hh
            have hqe : q e = true := by
              cases he with
              | base h1 h2 => rw [of_decide_eq_true h2]; exact hqa
              | step _ _ _ h4 => simp only [Bool.and_eq_true] at h4; exact h4.1
            have hrea : Reach x y z (fun d => decide (d = a)) q e := he.mono (fun u hu1 hu2 => .base hu1 hu2) fun u _ hu => by simp only [Bool.and_eq_true] at hu; exact hu.1
            have hce : Reach x y z (fun d => decide (d = c)) q e := .step hre' (by rw [apart_comm]; exact hab) he.inBox hqe
            have hea := (Reach.symm ha hqa hrea).1
            have := (reach_iff (c := a)).2 (hce.trans hea)
            rw [hna] at this; cases this
        · intro hr
          exact hr.mono (fun u hu1 hu2 => .base hu1 hu2) fun u _ hu => by simp only [Bool.and_eq_true] at hu; exact hu.1
      refine ⟨fun l hl => ?_, fun d hd hq => ?_⟩
      · rcases List.mem_cons.1 hl with rfl | hl
        · exact ⟨c, hcq.1, hcq.2, rfl⟩
        · obtain ⟨a, ha1, ha2, ha3⟩ := h1 l hl
          simp only [Bool.and_eq_true, Bool.not_eq_true'] at ha2
          exact ⟨a, ha1, ha2.1, by rw [ha3]; exact (pick_congr hS fun d _ => key a ha1 ha2.1 ha2.2 d).symm⟩
      · cases hh : reach x y z (fun d => decide (d = c)) q d with
        | true => exact ⟨_, List.mem_cons_self .., (mem_pick hS).2 ⟨hd, hh⟩⟩
        | false =>
          obtain ⟨l, hl1, hl2⟩ := h2 d hd (by simp only [hq, hh]; rfl)
          exact ⟨l, List.mem_cons_of_mem _ hl1, hl2⟩

/-- What stands of a set. -/
noncomputable def stand (x y z : Int) (q : Cell → Bool) : Cell → Bool := reach x y z (fun e => q e && decide (e.c = 0)) q
theorem stand_part {f : Nat} {q : Cell → Bool} (hf : (pick x y z q).length < f) {l : List Cell} (hl : l ∈ parts x y z f q) {d : Cell} (hd : d ∈ l) : d.inBox x y z ∧ q d = true ∧ (stand x y z q d = true ↔ ∃ e ∈ l, e.c = 0) := by
  obtain ⟨c, h1, h2, rfl⟩ := (parts_spec hS f q hf).1 l hl
  obtain ⟨hd1, hd2⟩ := (mem_pick hS).1 hd
  have hrd := reach_iff.1 hd2
  have hqd := (Reach.symm h1 h2 hrd)
  refine ⟨hd1, hqd.2, ?_⟩
  unfold stand
  rw [reach_iff]
  constructor
  · intro hr
    -- a floor cell that reaches d
    have : ∃ e, e.inBox x y z ∧ q e = true ∧ e.c = 0 ∧ Reach x y z (fun u => decide (u = e)) q d := by
      refine hr.ind (P := fun d => ∃ e, e.inBox x y z ∧ q e = true ∧ e.c = 0 ∧ Reach x y z (fun u => decide (u = e)) q d) (fun e he1 he2 => ?_) (fun a b ha hab hb hq => ?_)
      · simp only [Bool.and_eq_true, decide_eq_true_eq] at he2
        exact ⟨e, he1, he2.1, he2.2, .base he1 (by simp)⟩
      · obtain ⟨e, k1, k2, k3, k4⟩ := ha
        exact ⟨e, k1, k2, k3, .step k4 hab hb hq⟩
    obtain ⟨e, k1, k2, k3, k4⟩ := this
    exact ⟨e, (mem_pick hS).2 ⟨k1, reach_iff.2 (hrd.trans (Reach.symm k1 k2 k4).1)⟩, k3⟩
  · rintro ⟨e, he, he0⟩
    obtain ⟨he1, he2⟩ := (mem_pick hS).1 he
    have hre := reach_iff.1 he2
    have hqe := Reach.symm h1 h2 hre
    have : Reach x y z (fun u => decide (u = e)) q d := hqe.1.trans hrd
    exact this.mono (fun u hu1 hu2 => by rw [of_decide_eq_true hu2]; exact .base he1 (by simp [hqe.2, he0])) fun _ _ h => h
/-- The cells that stand, or those that hang. -/
noncomputable def parted (x y z : Int) (q : Cell → Bool) (hang : Bool) : Cell → Bool := fun d => q d && (stand x y z q d != hang)
end

def floorOf (l : List Cell) : Bool := l.any fun e => decide (e.c = 0)
/-- The cells of the first k lists, of those on the floor, or of the others. -/
def selK (L : List (List Cell)) (hang : Bool) (k : Nat) : Cell → Bool := fun d => (L.take k).any fun l => (floorOf l != hang) && decide (d ∈ l)
theorem selK_succ {L : List (List Cell)} {hang : Bool} {k : Nat} (hk : k < L.length) (d : Cell) : selK L hang (k + 1) d = (selK L hang k d || ((floorOf (L.getD k []) != hang) && decide (d ∈ L.getD k []))) := by
  unfold selK
  rw [List.take_succ, List.getElem?_eq_getElem hk, List.any_append]
  simp [hk]
theorem selK_all {x y z : Int} (hS : Sides x y z) {f : Nat} {q : Cell → Bool} {hang : Bool} (hf : (pick x y z q).length < f) {d : Cell} (hd : d.inBox x y z) :
    selK (parts x y z f q) hang (parts x y z f q).length d = parted x y z q hang d := by
  have hsp := parts_spec hS f q hf
  unfold selK parted
  rw [List.take_length, Bool.eq_iff_iff, List.any_eq_true]
  have hfl : ∀ l ∈ parts x y z f q, d ∈ l → q d = true ∧ stand x y z q d = floorOf l := fun l hl hdl => by
    obtain ⟨_, h2, h3⟩ := stand_part hS hf hl hdl
    refine ⟨h2, ?_⟩
    rw [Bool.eq_iff_iff, h3]
    unfold floorOf
    simp [List.any_eq_true]
  constructor
  · rintro ⟨l, hl, h⟩
    simp only [Bool.and_eq_true, decide_eq_true_eq] at h
    obtain ⟨h1, h2⟩ := hfl l hl h.2
    rw [h1, h2, h.1]; rfl
  · intro h
    simp only [Bool.and_eq_true] at h
    obtain ⟨l, hl, hdl⟩ := hsp.2 d hd h.1
    obtain ⟨h1, h2⟩ := hfl l hl hdl
    refine ⟨l, hl, ?_⟩
    rw [h2] at h
    simp only [Bool.and_eq_true, decide_eq_true_eq]
    exact ⟨h.2, hdl⟩
theorem floor_take {l : List Cell} {j : Nat} (h : j < l.length) : floorOf (l.take (j + 1)) = (floorOf (l.take j) || decide ((l.getD j default).c = 0)) := by
  unfold floorOf
  rw [List.take_succ, List.getElem?_eq_getElem h, List.any_append]
  simp [h]
theorem parts_len {x y z : Int} : ∀ (f : Nat) (q : Cell → Bool), (parts x y z f q).length ≤ f
  | 0, _ => by simp [parts]
  | f + 1, q => by
    cases h : pick x y z q with
    | nil => simp [parts, h]
    | cons c rs => simp only [parts, h, List.length_cons]; have := parts_len f (x := x) (y := y) (z := z) fun d => q d && !reach x y z (fun d => decide (d = c)) q d; omega
end Go.Ab

/- What laws are told of heaps as results. -/
namespace Go.Ab
open Go

structure Hp where
  x : Int
  y : Int
  z : Int
  cs : List Cell
def Hp.none : Hp := ⟨0, 0, 0, []⟩
abbrev Hp.row (r : Hp) (w : LV) : Blk := .row [.I r.x, .I r.y, .I r.z, w] true 0
/-- A heap, or the one of all zeros, what else there is, and whether there is one. -/
def HeapRes (M : Mem) (r : Option Hp) (ext : List LV) (v : LV) (N : Mem) : Prop :=
  ∃ w, v = .tup (.agg [.I (r.getD Hp.none).x, .I (r.getD Hp.none).y, .I (r.getD Hp.none).z, w] :: (ext ++ [.B r.isSome])) ∧ SlC N w (r.getD Hp.none).cs ∧ Newer M w ∧ Pre M N
theorem Older.off {M : Mem} {v : LV} {u : Nat} (h : Older M v) (hu : M.length ≤ u) : Off v u := by
  cases v with
  | ref t o n => have := h t o n rfl; show u ≠ t; omega
  | _ => trivial
end Go.Ab

/- Contracts: what is enclosed; the program's FillCavities. -/
namespace Go.Ab
open Go
set_option linter.unusedSimpArgs false
set_option linter.unusedVariables false

/-- What is outside: reached from the rim, by way of cells without cubes. -/
noncomputable def outer (x y z : Int) (p : Cell → Bool) : Cell → Bool := reach x y z (fun c => !p c && onRim x y z c) fun c => !p c
noncomputable def closed (x y z : Int) (p : Cell → Bool) (c : Cell) : Bool := !p c && !outer x y z p c
noncomputable def fillOf (x y z : Int) (cs : List Cell) : Option Hp := by
  classical
  exact if HeapOK x y z cs then some ⟨x, y, z, pick x y z fun c => decide (c ∈ cs) || closed x y z (fun c => decide (c ∈ cs)) c⟩ else none
theorem fillOf_len {x y z : Int} {cs : List Cell} : ((fillOf x y z cs).getD Hp.none).cs.length ≤ 1000000000 := by
  unfold fillOf
  split
  · rename_i h
    have := pick_len h.1 (fun c => decide (c ∈ cs) || closed x y z (fun c => decide (c ∈ cs)) c)
    simp only [Option.getD_some]; omega
  · simp [Hp.none]

theorem g_enclosed_1 {x y z : Int} {c : Cell} {t : Nat} {M : Mem} (hS : Sides x y z) (hb : Live M t (.row [.I x, .I y, .I z] true 0)) (hc : c.inBox x y z) :
    CallsTo PG F.impl_Heap_enclosed_1 [.agg [.I c.a, .I c.b, .I c.c], .ptr t 0] M (.B (onRim x y z c)) M := by
  refine calls_run K.impl_Heap_enclosed_1 rfl ?_
  simp (disch := omega) only [C.impl_Heap_enclosed_1, hb.app.cells, ↓SXd, SXu, slBounds, ↓sop, ↓aop, ↓reduceIte, LV.cells, AOp.dst, LV.I, LV.B, LV.U, LV.S, LV.nil, Nat.reduceEqDiff, Nat.reduceAdd, Nat.reduceMul, Nat.reduceSub, Nat.reduceLeDiff, Nat.reduceBEq, Nat.reduceDiv, Nat.reduceMod, Int.reduceToNat, Int.reduceLT, Int.reduceLE, Int.reduceAdd, Int.reduceSub, Int.reduceMul, Int.reduceEq, Int.reduceNeg, reduceCtorEq, resV, resAll, ARes.ev, LV.flat, ite_true, ite_false, exists_eq_left', exists_eq_left, keyOf, implies_true, fillC, capOf]
  refine callK_of (g_nearSet hS hc) ?_
  simp (disch := omega) only [↓SXd, SXu, slBounds, ↓sop, ↓aop, ↓reduceIte, LV.cells, AOp.dst, LV.I, LV.B, LV.U, LV.S, LV.nil, Nat.reduceEqDiff, Nat.reduceAdd, Nat.reduceMul, Nat.reduceSub, Nat.reduceLeDiff, Nat.reduceBEq, Nat.reduceDiv, Nat.reduceMod, Int.reduceToNat, Int.reduceLT, Int.reduceLE, Int.reduceAdd, Int.reduceSub, Int.reduceMul, Int.reduceEq, Int.reduceNeg, reduceCtorEq, resV, resAll, ARes.ev, LV.flat, ite_true, ite_false, exists_eq_left', exists_eq_left, keyOf, implies_true, fillC, capOf]
  refine callK_of (g_count) ?_
  simp (disch := omega) only [↓SXd, SXu, slBounds, ↓sop, ↓aop, ↓reduceIte, LV.cells, AOp.dst, LV.I, LV.B, LV.U, LV.S, LV.nil, Nat.reduceEqDiff, Nat.reduceAdd, Nat.reduceMul, Nat.reduceSub, Nat.reduceLeDiff, Nat.reduceBEq, Nat.reduceDiv, Nat.reduceMod, Int.reduceToNat, Int.reduceLT, Int.reduceLE, Int.reduceAdd, Int.reduceSub, Int.reduceMul, Int.reduceEq, Int.reduceNeg, reduceCtorEq, resV, resAll, ARes.ev, LV.flat, ite_true, ite_false, exists_eq_left', exists_eq_left, keyOf, implies_true, fillC, capOf]
  have h := rim_count hS hc
  rw [h]
  exact cmp_drop rfl

theorem g_enclosed {x y z : Int} {t o : Nat} {cs : List Cell} {M : Mem} (h : Tri M t o cs) (hn : cs.length ≤ 1000000000) (hH : HeapOK x y z cs) :
    CallsTo PG F.impl_Heap_enclosed [.agg [.I x, .I y, .I z, .ref t o cs.length]] M (.W (bs x y z (closed x y z fun c => decide (c ∈ cs)))) M := by
  have hS := hH.1
  have hv := vol_cast hS
  refine calls_run K.impl_Heap_enclosed rfl ?_
  simp (disch := omega) only [C.impl_Heap_enclosed, ↓SXd, SXu, slBounds, ↓sop, ↓aop, ↓reduceIte, LV.cells, AOp.dst, LV.I, LV.B, LV.U, LV.S, LV.nil, Nat.reduceEqDiff, Nat.reduceAdd, Nat.reduceMul, Nat.reduceSub, Nat.reduceLeDiff, Nat.reduceBEq, Nat.reduceDiv, Nat.reduceMod, Int.reduceToNat, Int.reduceLT, Int.reduceLE, Int.reduceAdd, Int.reduceSub, Int.reduceMul, Int.reduceEq, Int.reduceNeg, reduceCtorEq, resV, resAll, ARes.ev, LV.flat, ite_true, ite_false, exists_eq_left', exists_eq_left, keyOf, implies_true, fillC, capOf]
  refine callK_of (g_box) ?_
  simp (disch := omega) only [↓SXd, SXu, slBounds, ↓sop, ↓aop, ↓reduceIte, LV.cells, AOp.dst, LV.I, LV.B, LV.U, LV.S, LV.nil, Nat.reduceEqDiff, Nat.reduceAdd, Nat.reduceMul, Nat.reduceSub, Nat.reduceLeDiff, Nat.reduceBEq, Nat.reduceDiv, Nat.reduceMod, Int.reduceToNat, Int.reduceLT, Int.reduceLE, Int.reduceAdd, Int.reduceSub, Int.reduceMul, Int.reduceEq, Int.reduceNeg, reduceCtorEq, resV, resAll, ARes.ev, LV.flat, ite_true, ite_false, exists_eq_left', exists_eq_left, keyOf, implies_true, fillC, capOf]
  refine callK_of (g_full hS) ?_
  simp (disch := omega) only [↓SXd, SXu, slBounds, ↓sop, ↓aop, ↓reduceIte, LV.cells, AOp.dst, LV.I, LV.B, LV.U, LV.S, LV.nil, Nat.reduceEqDiff, Nat.reduceAdd, Nat.reduceMul, Nat.reduceSub, Nat.reduceLeDiff, Nat.reduceBEq, Nat.reduceDiv, Nat.reduceMod, Int.reduceToNat, Int.reduceLT, Int.reduceLE, Int.reduceAdd, Int.reduceSub, Int.reduceMul, Int.reduceEq, Int.reduceNeg, reduceCtorEq, resV, resAll, ARes.ev, LV.flat, ite_true, ite_false, exists_eq_left', exists_eq_left, keyOf, implies_true, fillC, capOf]
  refine callK_of (g_cubes h.app hn hS (fun c hc => hH.mem hc)) ?_
  simp (disch := omega) only [↓SXd, SXu, slBounds, ↓sop, ↓aop, ↓reduceIte, LV.cells, AOp.dst, LV.I, LV.B, LV.U, LV.S, LV.nil, Nat.reduceEqDiff, Nat.reduceAdd, Nat.reduceMul, Nat.reduceSub, Nat.reduceLeDiff, Nat.reduceBEq, Nat.reduceDiv, Nat.reduceMod, Int.reduceToNat, Int.reduceLT, Int.reduceLE, Int.reduceAdd, Int.reduceSub, Int.reduceMul, Int.reduceEq, Int.reduceNeg, reduceCtorEq, resV, resAll, ARes.ev, LV.flat, ite_true, ite_false, exists_eq_left', exists_eq_left, keyOf, implies_true, fillC, capOf]
  rw [bs_diff hS]
  refine callK_of (g_those hS (p := onRim x y z) (f := F.impl_Heap_enclosed_1) (caps := [(M.length + 1, 0)]) fun M' hp i hi => ?_) ?_
  · exact g_enclosed_1 hS ((Live.newj rfl).pre hp) (cellAt_in hS (by omega) (by omega)).1
  simp (disch := omega) only [↓SXd, SXu, slBounds, ↓sop, ↓aop, ↓reduceIte, LV.cells, AOp.dst, LV.I, LV.B, LV.U, LV.S, LV.nil, Nat.reduceEqDiff, Nat.reduceAdd, Nat.reduceMul, Nat.reduceSub, Nat.reduceLeDiff, Nat.reduceBEq, Nat.reduceDiv, Nat.reduceMod, Int.reduceToNat, Int.reduceLT, Int.reduceLE, Int.reduceAdd, Int.reduceSub, Int.reduceMul, Int.reduceEq, Int.reduceNeg, reduceCtorEq, resV, resAll, ARes.ev, LV.flat, ite_true, ite_false, exists_eq_left', exists_eq_left, keyOf, implies_true, fillC, capOf]
  rw [bs_and hS]
  refine callK_of (g_grown hS) ?_
  simp (disch := omega) only [↓SXd, SXu, slBounds, ↓sop, ↓aop, ↓reduceIte, LV.cells, AOp.dst, LV.I, LV.B, LV.U, LV.S, LV.nil, Nat.reduceEqDiff, Nat.reduceAdd, Nat.reduceMul, Nat.reduceSub, Nat.reduceLeDiff, Nat.reduceBEq, Nat.reduceDiv, Nat.reduceMod, Int.reduceToNat, Int.reduceLT, Int.reduceLE, Int.reduceAdd, Int.reduceSub, Int.reduceMul, Int.reduceEq, Int.reduceNeg, reduceCtorEq, resV, resAll, ARes.ev, LV.flat, ite_true, ite_false, exists_eq_left', exists_eq_left, keyOf, implies_true, fillC, capOf]
  rw [bs_diff hS]
  rw [show bs x y z (closed x y z fun c => decide (c ∈ cs)) = _ from (bs_eq hS).2 fun c _ => by unfold closed outer; rfl]
  simp only [Bool.true_and]
  exact cmp_pre (Pre.app _ _) rfl

theorem g_FillCavities {x y z : Int} {t : Nat} {w : Bool} {cs : List Cell} {M : Mem} (h0 : Live M t (.row (triL cs) w 3)) (hn : cs.length ≤ 1000000000) :
    CallsR PG F.impl_FillCavities [.agg [.I x, .I y, .I z, .ref t 0 cs.length]] M (HeapRes M (fillOf x y z cs) []) := by
  have h : Tri M t 0 cs := h0.has
  refine callsR_run K.impl_FillCavities rfl ?_
  simp (disch := omega) only [C.impl_FillCavities, ↓SXd, SXu, slBounds, ↓sop, ↓aop, ↓reduceIte, LV.cells, AOp.dst, LV.I, LV.B, LV.U, LV.S, LV.nil, Nat.reduceEqDiff, Nat.reduceAdd, Nat.reduceMul, Nat.reduceSub, Nat.reduceLeDiff, Nat.reduceBEq, Nat.reduceDiv, Nat.reduceMod, Int.reduceToNat, Int.reduceLT, Int.reduceLE, Int.reduceAdd, Int.reduceSub, Int.reduceMul, Int.reduceEq, Int.reduceNeg, reduceCtorEq, resV, resAll, ARes.ev, LV.flat, ite_true, ite_false, exists_eq_left', exists_eq_left, keyOf, implies_true, fillC, capOf]
  refine callK_of (g_IsHeap h.app hn) ?_
  simp (disch := omega) only [↓SXd, SXu, slBounds, ↓sop, ↓aop, ↓reduceIte, LV.cells, AOp.dst, LV.I, LV.B, LV.U, LV.S, LV.nil, Nat.reduceEqDiff, Nat.reduceAdd, Nat.reduceMul, Nat.reduceSub, Nat.reduceLeDiff, Nat.reduceBEq, Nat.reduceDiv, Nat.reduceMod, Int.reduceToNat, Int.reduceLT, Int.reduceLE, Int.reduceAdd, Int.reduceSub, Int.reduceMul, Int.reduceEq, Int.reduceNeg, reduceCtorEq, resV, resAll, ARes.ev, LV.flat, ite_true, ite_false, exists_eq_left', exists_eq_left, keyOf, implies_true, fillC, capOf]
  unfold fillOf
  by_cases hH : HeapOK x y z cs
  · have hS := hH.1
    rw [if_pos hH]
    simp (disch := omega) only [hH, ↓SXd, SXu, slBounds, ↓sop, ↓aop, ↓reduceIte, LV.cells, AOp.dst, LV.I, LV.B, LV.U, LV.S, LV.nil, Nat.reduceEqDiff, Nat.reduceAdd, Nat.reduceMul, Nat.reduceSub, Nat.reduceLeDiff, Nat.reduceBEq, Nat.reduceDiv, Nat.reduceMod, Int.reduceToNat, Int.reduceLT, Int.reduceLE, Int.reduceAdd, Int.reduceSub, Int.reduceMul, Int.reduceEq, Int.reduceNeg, reduceCtorEq, resV, resAll, ARes.ev, LV.flat, ite_true, ite_false, exists_eq_left', exists_eq_left, keyOf, implies_true, fillC, capOf]
    refine callK_of (g_box) ?_
    simp (disch := omega) only [↓SXd, SXu, slBounds, ↓sop, ↓aop, ↓reduceIte, LV.cells, AOp.dst, LV.I, LV.B, LV.U, LV.S, LV.nil, Nat.reduceEqDiff, Nat.reduceAdd, Nat.reduceMul, Nat.reduceSub, Nat.reduceLeDiff, Nat.reduceBEq, Nat.reduceDiv, Nat.reduceMod, Int.reduceToNat, Int.reduceLT, Int.reduceLE, Int.reduceAdd, Int.reduceSub, Int.reduceMul, Int.reduceEq, Int.reduceNeg, reduceCtorEq, resV, resAll, ARes.ev, LV.flat, ite_true, ite_false, exists_eq_left', exists_eq_left, keyOf, implies_true, fillC, capOf]
    refine callK_of (g_cubes h.app hn hS (fun c hc => hH.mem hc)) ?_
    simp (disch := omega) only [↓SXd, SXu, slBounds, ↓sop, ↓aop, ↓reduceIte, LV.cells, AOp.dst, LV.I, LV.B, LV.U, LV.S, LV.nil, Nat.reduceEqDiff, Nat.reduceAdd, Nat.reduceMul, Nat.reduceSub, Nat.reduceLeDiff, Nat.reduceBEq, Nat.reduceDiv, Nat.reduceMod, Int.reduceToNat, Int.reduceLT, Int.reduceLE, Int.reduceAdd, Int.reduceSub, Int.reduceMul, Int.reduceEq, Int.reduceNeg, reduceCtorEq, resV, resAll, ARes.ev, LV.flat, ite_true, ite_false, exists_eq_left', exists_eq_left, keyOf, implies_true, fillC, capOf]
    refine callK_of (g_enclosed h.app hn hH) ?_
    simp (disch := omega) only [↓SXd, SXu, slBounds, ↓sop, ↓aop, ↓reduceIte, LV.cells, AOp.dst, LV.I, LV.B, LV.U, LV.S, LV.nil, Nat.reduceEqDiff, Nat.reduceAdd, Nat.reduceMul, Nat.reduceSub, Nat.reduceLeDiff, Nat.reduceBEq, Nat.reduceDiv, Nat.reduceMod, Int.reduceToNat, Int.reduceLT, Int.reduceLE, Int.reduceAdd, Int.reduceSub, Int.reduceMul, Int.reduceEq, Int.reduceNeg, reduceCtorEq, resV, resAll, ARes.ev, LV.flat, ite_true, ite_false, exists_eq_left', exists_eq_left, keyOf, implies_true, fillC, capOf]
    rw [bs_or hS]
    refine callH_of (g_heap hS) ?_
    intro tn N2 htn hp2 hnr
    simp (disch := omega) only [↓SXd, SXu, slBounds, ↓sop, ↓aop, ↓reduceIte, LV.cells, AOp.dst, LV.I, LV.B, LV.U, LV.S, LV.nil, Nat.reduceEqDiff, Nat.reduceAdd, Nat.reduceMul, Nat.reduceSub, Nat.reduceLeDiff, Nat.reduceBEq, Nat.reduceDiv, Nat.reduceMod, Int.reduceToNat, Int.reduceLT, Int.reduceLE, Int.reduceAdd, Int.reduceSub, Int.reduceMul, Int.reduceEq, Int.reduceNeg, reduceCtorEq, resV, resAll, ARes.ev, LV.flat, ite_true, ite_false, exists_eq_left', exists_eq_left, keyOf, implies_true, fillC, capOf]
    refine memK_box ((Live.newj (j := 1) rfl).pre hp2) (by simp) fun N3 k1 k2 k3 => ?_
    have hN2 := hp2.1
    simp (disch := omega) only [k2.cells, ↓SXd, SXu, slBounds, ↓sop, ↓aop, ↓reduceIte, LV.cells, AOp.dst, LV.I, LV.B, LV.U, LV.S, LV.nil, Nat.reduceEqDiff, Nat.reduceAdd, Nat.reduceMul, Nat.reduceSub, Nat.reduceLeDiff, Nat.reduceBEq, Nat.reduceDiv, Nat.reduceMod, Int.reduceToNat, Int.reduceLT, Int.reduceLE, Int.reduceAdd, Int.reduceSub, Int.reduceMul, Int.reduceEq, Int.reduceNeg, reduceCtorEq, resV, resAll, ARes.ev, LV.flat, ite_true, ite_false, exists_eq_left', exists_eq_left, keyOf, implies_true, fillC, capOf]
    simp only [List.length_append, List.length_cons, List.length_nil] at htn
    exact ⟨_, rfl, SlC.of (live_step hnr (by omega) k3), Newer.of (by omega), pre_step ((Pre.app _ _).trans hp2) (by omega) (j := 0) k1 k3⟩
  · rw [if_neg hH]
    simp (disch := omega) only [hH, fillC, splice, ↓SXd, SXu, slBounds, ↓sop, ↓aop, ↓reduceIte, LV.cells, AOp.dst, LV.I, LV.B, LV.U, LV.S, LV.nil, Nat.reduceEqDiff, Nat.reduceAdd, Nat.reduceMul, Nat.reduceSub, Nat.reduceLeDiff, Nat.reduceBEq, Nat.reduceDiv, Nat.reduceMod, Int.reduceToNat, Int.reduceLT, Int.reduceLE, Int.reduceAdd, Int.reduceSub, Int.reduceMul, Int.reduceEq, Int.reduceNeg, reduceCtorEq, resV, resAll, ARes.ev, LV.flat, ite_true, ite_false, exists_eq_left', exists_eq_left, keyOf, implies_true, fillC, capOf]
    exact ⟨_, rfl, SlC.nil, Newer.nil, Pre.app _ _⟩
end Go.Ab

/- Plain words: a search from beyond the box. -/
namespace Go.Ab

theorem getD_get {α : Type} {l : List α} {i : Nat} {d : α} (h : i < l.length) : l.getD i d = l[i] := by simp [h]
def ExtC (x y z : Int) (c : Cell) : Prop := (-1 ≤ c.a ∧ c.a ≤ x) ∧ (-1 ≤ c.b ∧ c.b ≤ y) ∧ (-1 ≤ c.c ∧ c.c ≤ z)
theorem Cell.inBox.ext {x y z : Int} {c : Cell} (h : c.inBox x y z) : ExtC x y z c := by
  obtain ⟨⟨_, _⟩, ⟨_, _⟩, ⟨_, _⟩⟩ := h
  exact ⟨⟨by omega, by omega⟩, ⟨by omega, by omega⟩, ⟨by omega, by omega⟩⟩
/-- What comes before a place. -/
def Bef (c : Cell) (i j k : Int) : Prop := c.a < i ∨ (c.a = i ∧ (c.b < j ∨ (c.b = j ∧ c.c < k)))
structure Mgn (x y z i j k : Int) (l : List Cell) : Prop where
  mem : ∀ c ∈ l, ExtC x y z c ∧ ¬ c.inBox x y z
  all : ∀ c, ExtC x y z c → ¬ c.inBox x y z → Bef c i j k → c ∈ l
  len : (l.length : Int) ≤ (i + 1) * 36 + (j + 1) * 6 + (k + 1)
theorem Mgn.nil {x y z : Int} : Mgn x y z (-1) (-1) (-1) [] := by
  refine ⟨by simp, fun c ⟨⟨_, _⟩, ⟨_, _⟩, ⟨_, _⟩⟩ _ hb => ?_, by simp⟩
  unfold Bef at hb
  omega
theorem Mgn.out {x y z i j k : Int} {l : List Cell} (h : Mgn x y z i j k l) (hk : k < 6) (hc : ExtC x y z ⟨i, j, k⟩) (ho : ¬ Cell.inBox x y z ⟨i, j, k⟩) : Mgn x y z i j (k + 1) (l ++ [⟨i, j, k⟩]) := by
  refine ⟨fun c hm => ?_, fun c h1 h2 h3 => ?_, ?_⟩
  · rcases List.mem_append.1 hm with hm | hm
    · exact h.mem c hm
    · rw [List.mem_singleton.1 hm]; exact ⟨hc, ho⟩
  · rw [List.mem_append, List.mem_singleton, cell_eq]
    unfold Bef at h3
    by_cases hb : Bef c i j k
    · exact .inl (h.all c h1 h2 hb)
    · right; unfold Bef at hb; simp only; omega
  · have := h.len; rw [List.length_append, List.length_singleton]; omega
theorem Mgn.in {x y z i j k : Int} {l : List Cell} (h : Mgn x y z i j k l) (ho : Cell.inBox x y z ⟨i, j, k⟩) : Mgn x y z i j (k + 1) l := by
  refine ⟨h.mem, fun c h1 h2 h3 => ?_, by have := h.len; omega⟩
  unfold Bef at h3
  by_cases hb : Bef c i j k
  · exact h.all c h1 h2 hb
  · unfold Bef at hb
    exact absurd (by rw [show c = ⟨i, j, k⟩ from cell_eq.2 (by simp only; omega)]; exact ho) h2
theorem Mgn.row {x y z i j k : Int} {l : List Cell} (h : Mgn x y z i j k l) (hk : z < k) (hz : k ≤ 5) : Mgn x y z i (j + 1) (-1) l := by
  refine ⟨h.mem, fun c h1 h2 h3 => h.all c h1 h2 ?_, by have := h.len; omega⟩
  obtain ⟨_, _, _, _⟩ := h1
  unfold Bef at h3 ⊢
  omega
theorem Mgn.plane {x y z i j : Int} {l : List Cell} (h : Mgn x y z i j (-1) l) (hk : y < j) (hz : j ≤ 5) : Mgn x y z (i + 1) (-1) (-1) l := by
  refine ⟨h.mem, fun c h1 h2 h3 => h.all c h1 h2 ?_, by have := h.len; omega⟩
  obtain ⟨_, ⟨_, _⟩, _, _⟩ := h1
  unfold Bef at h3 ⊢
  omega

structure Out (x y z : Int) (p : Cell → Bool) (n k : Nat) (mg r : List Cell) : Prop where
  base : ∀ c, ExtC x y z c → ¬ c.inBox x y z → c ∈ mg
  mgm : ∀ c ∈ mg, ExtC x y z c ∧ ¬ c.inBox x y z
  nodup : r.Nodup
  mem : ∀ d ∈ r, d.inBox x y z ∧ p d = false ∧ outer x y z p d = true
  done : ∀ i, i < n → i < (mg ++ r).length → ∀ e, e.inBox x y z → p e = false → apart ((mg ++ r).getD i default) e = 1 → e ∈ r
  part : ∀ j, j < k → ((nbrs ((mg ++ r).getD n default)).getD j default).inBox x y z → p ((nbrs ((mg ++ r).getD n default)).getD j default) = false → (nbrs ((mg ++ r).getD n default)).getD j default ∈ r

section
variable {x y z : Int} {p : Cell → Bool} {n k : Nat} {mg r : List Cell}
theorem Out.skip (h : Out x y z p n k mg r) (hs : ¬ ((((nbrs ((mg ++ r).getD n default)).getD k default).inBox x y z ∧ p ((nbrs ((mg ++ r).getD n default)).getD k default) = false) ∧ (nbrs ((mg ++ r).getD n default)).getD k default ∉ r)) : Out x y z p n (k + 1) mg r :=
  ⟨h.base, h.mgm, h.nodup, h.mem, h.done, fun j hj h1 h2 => by
    rcases Nat.lt_or_ge j k with h3 | h3
    · exact h.part j h3 h1 h2
    · rw [show j = k by omega] at h1 h2 ⊢
      exact Classical.byContradiction fun h4 => hs ⟨⟨h1, h2⟩, h4⟩⟩
theorem Out.add (h : Out x y z p n k mg r) (hk : k < 6) (hn : n < (mg ++ r).length) {e : Cell} (he : (nbrs ((mg ++ r).getD n default)).getD k default = e) (h1 : e.inBox x y z) (h2 : p e = false) (h3 : e ∉ r) : Out x y z p n (k + 1) mg (r ++ [e]) := by
  have hg : ∀ {j}, j < (mg ++ r).length → (mg ++ (r ++ [e])).getD j default = (mg ++ r).getD j default := fun {j} hj => by
    rw [← List.append_assoc]
    simp only [List.getD_eq_getElem?_getD]; rw [List.getElem?_append_left hj]
  have hap : apart ((mg ++ r).getD n default) e = 1 := mem_nbrs.1 (by rw [← he]; exact getD_mem' (by simpa [nbrs] using hk))
  have hout : outer x y z p e = true := by
    unfold outer
    rw [reach_iff]
    rcases List.mem_append.1 (getD_mem' (d := default) hn) with hm | hm
    · refine .base h1 ?_
      have := h.mgm _ hm
      rw [h2, (onRim_iff h1).2 ⟨_, by rw [apart_comm]; exact hap, this.2⟩]; rfl
    · have := (h.mem _ hm).2.2
      unfold outer at this
      rw [reach_iff] at this
      exact .step this hap h1 (by rw [h2]; rfl)
  refine ⟨h.base, h.mgm, ?_, fun d hd => ?_, fun i hi hil d hd hpd ha => ?_, fun j hj hb hpb => ?_⟩
  · rw [List.nodup_append]
    exact ⟨h.nodup, by simp, fun a ha b hb e' => by rw [List.mem_singleton.1 hb] at e'; subst e'; exact h3 ha⟩
  · rcases List.mem_append.1 hd with hd | hd
    · exact h.mem d hd
    · rw [List.mem_singleton.1 hd]; exact ⟨h1, h2, hout⟩
  · rw [hg (by omega)] at ha
    exact List.mem_append.2 (.inl (h.done i hi (by omega) d hd hpd ha))
  · rw [hg hn] at hb hpb ⊢
    rcases Nat.lt_or_ge j k with h5 | h5
    · exact List.mem_append.2 (.inl (h.part j h5 hb hpb))
    · rw [show j = k by omega, he]; simp
theorem Out.next (h : Out x y z p n 6 mg r) : Out x y z p (n + 1) 0 mg r := by
  refine ⟨h.base, h.mgm, h.nodup, h.mem, fun i hi hil d hd hpd ha => ?_, by omega⟩
  rcases Nat.lt_or_ge i n with h1 | h1
  · exact h.done i h1 hil d hd hpd ha
  · rw [show i = n by omega] at ha
    have hm := mem_nbrs.2 ha
    obtain ⟨j, hj, rfl⟩ := List.getElem_of_mem hm
    have hj6 : j < 6 := by simpa [nbrs] using hj
    rw [← getD_get (d := default) hj] at hd hpd ⊢
    exact h.part j hj6 hd hpd
theorem Out.final (h : Out x y z p n k mg r) (hn : (mg ++ r).length ≤ n) {d : Cell} (hd : d.inBox x y z) : d ∈ r ↔ outer x y z p d = true := by
  refine ⟨fun hm => (h.mem d hm).2.2, fun ho => ?_⟩
  have key : ∀ c e, c ∈ mg ++ r → e.inBox x y z → p e = false → apart c e = 1 → e ∈ r := fun c e hc he hpe ha => by
    obtain ⟨i, hi, rfl⟩ := List.getElem_of_mem hc
    exact h.done i (by omega) hi e he hpe (by rw [getD_get hi]; exact ha)
  unfold outer at ho
  rw [reach_iff] at ho
  refine ho.ind (P := fun d => d ∈ r) (fun c hc hp => ?_) fun c e hc ha he hq => ?_
  · simp only [Bool.and_eq_true, Bool.not_eq_true'] at hp
    obtain ⟨e, h1, h2⟩ := (onRim_iff hc).1 hp.2
    refine key e c (List.mem_append.2 (.inl (h.base e ?_ h2))) hc hp.1 (by rw [apart_comm]; exact h1)
    obtain ⟨⟨_, _⟩, ⟨_, _⟩, ⟨_, _⟩⟩ := hc
    unfold apart at h1
    exact ⟨⟨by omega, by omega⟩, ⟨by omega, by omega⟩, ⟨by omega, by omega⟩⟩
  · exact key c e (List.mem_append.2 (.inr hc)) he (by simpa using hq) ha
end
end Go.Ab

/- Contracts: the reference's search from beyond the box. -/
namespace Go.Ab
open Go
set_option linter.unusedSimpArgs false
set_option linter.unusedVariables false

theorem h_l6Steps {M : Mem} : CallsTo PG F.spec_l6Steps [] M (.agg [.I (-1), .I 0, .I 0, .I 1, .I 0, .I 0, .I 0, .I (-1), .I 0, .I 0, .I 1, .I 0, .I 0, .I 0, .I (-1), .I 0, .I 0, .I 1]) M := by
  refine calls_run K.spec_l6Steps rfl ?_
  simp (disch := omega) only [C.spec_l6Steps, splice, ↓SXd, SXu, slBounds, ↓sop, ↓aop, ↓reduceIte, LV.cells, AOp.dst, LV.I, LV.B, LV.U, LV.S, LV.nil, Nat.reduceEqDiff, Nat.reduceAdd, Nat.reduceMul, Nat.reduceSub, Nat.reduceLeDiff, Nat.reduceBEq, Nat.reduceDiv, Nat.reduceMod, Int.reduceToNat, Int.reduceLT, Int.reduceLE, Int.reduceAdd, Int.reduceSub, Int.reduceMul, Int.reduceEq, Int.reduceNeg, reduceCtorEq, resV, resAll, ARes.ev, LV.flat, ite_true, ite_false, exists_eq_left', exists_eq_left, keyOf, implies_true, fillC, capOf]
  exact cmp_drop rfl
theorem h_l6Beside {a b c d e f : Int} {M : Mem} (h : (-100 ≤ a ∧ a ≤ 100) ∧ (-100 ≤ b ∧ b ≤ 100) ∧ (-100 ≤ c ∧ c ≤ 100) ∧ (-100 ≤ d ∧ d ≤ 100) ∧ (-100 ≤ e ∧ e ≤ 100) ∧ (-100 ≤ f ∧ f ≤ 100)) :
    CallsTo PG F.spec_l6Beside [.agg [.I a, .I b, .I c], .agg [.I d, .I e, .I f]] M (.agg [.I (a + d), .I (b + e), .I (c + f)]) M := by
  obtain ⟨⟨_, _⟩, ⟨_, _⟩, ⟨_, _⟩, ⟨_, _⟩, ⟨_, _⟩, ⟨_, _⟩⟩ := h
  refine calls_run K.spec_l6Beside rfl ?_
  simp (disch := omega) only [C.spec_l6Beside, splice, ↓SXd, SXu, slBounds, ↓sop, ↓aop, ↓reduceIte, LV.cells, AOp.dst, LV.I, LV.B, LV.U, LV.S, LV.nil, Nat.reduceEqDiff, Nat.reduceAdd, Nat.reduceMul, Nat.reduceSub, Nat.reduceLeDiff, Nat.reduceBEq, Nat.reduceDiv, Nat.reduceMod, Int.reduceToNat, Int.reduceLT, Int.reduceLE, Int.reduceAdd, Int.reduceSub, Int.reduceMul, Int.reduceEq, Int.reduceNeg, reduceCtorEq, resV, resAll, ARes.ev, LV.flat, ite_true, ite_false, exists_eq_left', exists_eq_left, keyOf, implies_true, fillC, capOf]
  exact cmp_drop rfl

def steps : List Cell := [⟨-1, 0, 0⟩, ⟨1, 0, 0⟩, ⟨0, -1, 0⟩, ⟨0, 1, 0⟩, ⟨0, 0, -1⟩, ⟨0, 0, 1⟩]
theorem steps_nbrs {c : Cell} {k : Nat} (hk : k < 6) : (nbrs c).getD k default = ⟨c.a + (steps.getD k default).a, c.b + (steps.getD k default).b, c.c + (steps.getD k default).c⟩ := by
  rcases (show k = 0 ∨ k = 1 ∨ k = 2 ∨ k = 3 ∨ k = 4 ∨ k = 5 by omega) with rfl | rfl | rfl | rfl | rfl | rfl <;> simp [nbrs, steps]
theorem steps_le {k : Nat} (hk : k < 6) : (-1 ≤ (steps.getD k default).a ∧ (steps.getD k default).a ≤ 1) ∧ (-1 ≤ (steps.getD k default).b ∧ (steps.getD k default).b ≤ 1) ∧ (-1 ≤ (steps.getD k default).c ∧ (steps.getD k default).c ≤ 1) := by
  rcases (show k = 0 ∨ k = 1 ∨ k = 2 ∨ k = 3 ∨ k = 4 ∨ k = 5 by omega) with rfl | rfl | rfl | rfl | rfl | rfl <;> simp [steps]
theorem Live.step {N : Mem} {t k : Nat} (h : Live N t (.row (triL steps) true 0)) (hk : k < 6) : getCells N t (k * 3) 3 = some (steps.getD k default).row := by
  have := Tri.get (cs := steps) (o := 0) h.has (k := k) hk
  rwa [Nat.zero_add] at this

theorem h_l6Enclosed {x y z : Int} {t : Nat} {w : Bool} {cs : List Cell} {M : Mem} (h : Live M t (.row (triL cs) w 3)) (hH : HeapOK x y z cs) :
    CallsTo PG F.spec_l6Enclosed [.agg [.I x, .I y, .I z, .ref t 0 cs.length]] M (.ref M.length 0 (pick x y z (closed x y z fun c => decide (c ∈ cs))).length) (M ++ [some (.row (triL (pick x y z (closed x y z fun c => decide (c ∈ cs)))) true 3)]) := by
  have hS := hH.1
  have hn : cs.length ≤ 1000000000 := by have := hH.len; omega
  obtain ⟨⟨hx0, hx⟩, ⟨hy0, hy⟩, ⟨hz0, hz⟩⟩ := id hS
  have ht := h.lt
  refine calls_run K.spec_l6Enclosed rfl ?_
  simp (disch := omega) only [C.spec_l6Enclosed, ↓SXd, SXu, slBounds, ↓sop, ↓aop, ↓reduceIte, LV.cells, AOp.dst, LV.I, LV.B, LV.U, LV.S, LV.nil, Nat.reduceEqDiff, Nat.reduceAdd, Nat.reduceMul, Nat.reduceSub, Nat.reduceLeDiff, Nat.reduceBEq, Nat.reduceDiv, Nat.reduceMod, Int.reduceToNat, Int.reduceLT, Int.reduceLE, Int.reduceAdd, Int.reduceSub, Int.reduceMul, Int.reduceEq, Int.reduceNeg, reduceCtorEq, resV, resAll, ARes.ev, LV.flat, ite_true, ite_false, exists_eq_left', exists_eq_left, keyOf, implies_true, fillC, capOf]
  refine callK_of (h_l2Empty) ?_
  simp (disch := omega) only [↓SXd, SXu, slBounds, ↓sop, ↓aop, ↓reduceIte, LV.cells, AOp.dst, LV.I, LV.B, LV.U, LV.S, LV.nil, Nat.reduceEqDiff, Nat.reduceAdd, Nat.reduceMul, Nat.reduceSub, Nat.reduceLeDiff, Nat.reduceBEq, Nat.reduceDiv, Nat.reduceMod, Int.reduceToNat, Int.reduceLT, Int.reduceLE, Int.reduceAdd, Int.reduceSub, Int.reduceMul, Int.reduceEq, Int.reduceNeg, reduceCtorEq, resV, resAll, ARes.ev, LV.flat, ite_true, ite_false, exists_eq_left', exists_eq_left, keyOf, implies_true, fillC, capOf]
  refine callK_of (h_l6Steps) ?_
  simp (disch := omega) only [splice, ↓SXd, SXu, slBounds, ↓sop, ↓aop, ↓reduceIte, LV.cells, AOp.dst, LV.I, LV.B, LV.U, LV.S, LV.nil, Nat.reduceEqDiff, Nat.reduceAdd, Nat.reduceMul, Nat.reduceSub, Nat.reduceLeDiff, Nat.reduceBEq, Nat.reduceDiv, Nat.reduceMod, Int.reduceToNat, Int.reduceLT, Int.reduceLE, Int.reduceAdd, Int.reduceSub, Int.reduceMul, Int.reduceEq, Int.reduceNeg, reduceCtorEq, resV, resAll, ARes.ev, LV.flat, ite_true, ite_false, exists_eq_left', exists_eq_left, keyOf, implies_true, fillC, capOf]
  refine ev_loop (fun m fr N => ∃ (i : Int) (u : Nat) (l : List Cell), i + m = x + 1 ∧ -1 ≤ i ∧ Mgn x y z i (-1) (-1) l ∧ Pre M N ∧ Live N M.length (.row [.I x, .I y, .I z, .ref t 0 cs.length] true 0) ∧
    Live N (M.length + 1) (.row [] true 3) ∧ Live N (M.length + 2) (.row [.I x, .I y, .I z, .ref (M.length + 1) 0 0] true 0) ∧ 
    Live N (M.length + 4) (.row (triL steps) true 0) ∧ Live N u (.row (triL l) true 3) ∧ (u = M.length + 3 ∨ M.length + 4 < u) ∧
    fr 1 = .ptr M.length 0 ∧ fr 3 = .ptr (M.length + 2) 0 ∧ fr 4 = .ref u 0 l.length ∧ fr 5 = .ptr (M.length + 4) 0 ∧ fr 6 = .I i) (x + 2).toNat
    ⟨-1, M.length + 3, [], by omega, by omega, Mgn.nil, Pre.app _ _, Live.new, Live.newj rfl, Live.newj rfl, Live.newj rfl, Live.newj rfl, .inl rfl, rfl, rfl, rfl, rfl, rfl⟩ ?_
  rintro m fr N ⟨i, u, l, hi, hi1, hm, hpre, b1, b1', b3, b5, bu, hu, f1, f3, f4, f5, f6⟩
  simp (disch := omega) only [f1, f3, f4, f5, f6, b1.cell, ↓SXd, SXu, slBounds, ↓sop, ↓aop, ↓reduceIte, LV.cells, AOp.dst, LV.I, LV.B, LV.U, LV.S, LV.nil, Nat.reduceEqDiff, Nat.reduceAdd, Nat.reduceMul, Nat.reduceSub, Nat.reduceLeDiff, Nat.reduceBEq, Nat.reduceDiv, Nat.reduceMod, Int.reduceToNat, Int.reduceLT, Int.reduceLE, Int.reduceAdd, Int.reduceSub, Int.reduceMul, Int.reduceEq, Int.reduceNeg, reduceCtorEq, resV, resAll, ARes.ev, LV.flat, ite_true, ite_false, exists_eq_left', exists_eq_left, keyOf, implies_true, fillC, capOf]
  refine condC_dec (fun hlt => ?_) (fun hlt => ?_)
  · simp (disch := omega) only [f1, f3, f4, f5, f6, ↓SXd, SXu, slBounds, ↓sop, ↓aop, ↓reduceIte, LV.cells, AOp.dst, LV.I, LV.B, LV.U, LV.S, LV.nil, Nat.reduceEqDiff, Nat.reduceAdd, Nat.reduceMul, Nat.reduceSub, Nat.reduceLeDiff, Nat.reduceBEq, Nat.reduceDiv, Nat.reduceMod, Int.reduceToNat, Int.reduceLT, Int.reduceLE, Int.reduceAdd, Int.reduceSub, Int.reduceMul, Int.reduceEq, Int.reduceNeg, reduceCtorEq, resV, resAll, ARes.ev, LV.flat, ite_true, ite_false, exists_eq_left', exists_eq_left, keyOf, implies_true, fillC, capOf]
    refine ev_loop (fun m2 fr N => ∃ (j : Int) (u : Nat) (l : List Cell), j + m2 = y + 1 ∧ -1 ≤ j ∧ Mgn x y z i j (-1) l ∧ Pre M N ∧ Live N M.length (.row [.I x, .I y, .I z, .ref t 0 cs.length] true 0) ∧
      Live N (M.length + 1) (.row [] true 3) ∧ Live N (M.length + 2) (.row [.I x, .I y, .I z, .ref (M.length + 1) 0 0] true 0) ∧ 
      Live N (M.length + 4) (.row (triL steps) true 0) ∧ Live N u (.row (triL l) true 3) ∧ (u = M.length + 3 ∨ M.length + 4 < u) ∧
      fr 1 = .ptr M.length 0 ∧ fr 3 = .ptr (M.length + 2) 0 ∧ fr 4 = .ref u 0 l.length ∧ fr 5 = .ptr (M.length + 4) 0 ∧ fr 6 = .I i ∧ fr 7 = .I j) (y + 2).toNat
      ⟨-1, u, l, by omega, by omega, hm, hpre, b1, b1', b3, b5, bu, hu, f1, f3, f4, f5, f6, rfl⟩ ?_
    clear f1 f3 f4 f5 f6 hpre b1 b1' b3 b5 bu hu hm
    rintro m2 fr N ⟨j, u, l, hj, hj1, hm, hpre, b1, b1', b3, b5, bu, hu, f1, f3, f4, f5, f6, f7⟩
    simp (disch := omega) only [f1, f3, f4, f5, f6, f7, b1.cell, ↓SXd, SXu, slBounds, ↓sop, ↓aop, ↓reduceIte, LV.cells, AOp.dst, LV.I, LV.B, LV.U, LV.S, LV.nil, Nat.reduceEqDiff, Nat.reduceAdd, Nat.reduceMul, Nat.reduceSub, Nat.reduceLeDiff, Nat.reduceBEq, Nat.reduceDiv, Nat.reduceMod, Int.reduceToNat, Int.reduceLT, Int.reduceLE, Int.reduceAdd, Int.reduceSub, Int.reduceMul, Int.reduceEq, Int.reduceNeg, reduceCtorEq, resV, resAll, ARes.ev, LV.flat, ite_true, ite_false, exists_eq_left', exists_eq_left, keyOf, implies_true, fillC, capOf]
    refine condC_dec (fun hlt2 => ?_) (fun hlt2 => ?_)
    · simp (disch := omega) only [f1, f3, f4, f5, f6, f7, ↓SXd, SXu, slBounds, ↓sop, ↓aop, ↓reduceIte, LV.cells, AOp.dst, LV.I, LV.B, LV.U, LV.S, LV.nil, Nat.reduceEqDiff, Nat.reduceAdd, Nat.reduceMul, Nat.reduceSub, Nat.reduceLeDiff, Nat.reduceBEq, Nat.reduceDiv, Nat.reduceMod, Int.reduceToNat, Int.reduceLT, Int.reduceLE, Int.reduceAdd, Int.reduceSub, Int.reduceMul, Int.reduceEq, Int.reduceNeg, reduceCtorEq, resV, resAll, ARes.ev, LV.flat, ite_true, ite_false, exists_eq_left', exists_eq_left, keyOf, implies_true, fillC, capOf]
      refine ev_loop (fun m3 fr N => ∃ (k : Int) (u : Nat) (l : List Cell), k + m3 = z + 1 ∧ -1 ≤ k ∧ Mgn x y z i j k l ∧ Pre M N ∧ Live N M.length (.row [.I x, .I y, .I z, .ref t 0 cs.length] true 0) ∧
        Live N (M.length + 1) (.row [] true 3) ∧ Live N (M.length + 2) (.row [.I x, .I y, .I z, .ref (M.length + 1) 0 0] true 0) ∧ 
        Live N (M.length + 4) (.row (triL steps) true 0) ∧ Live N u (.row (triL l) true 3) ∧ (u = M.length + 3 ∨ M.length + 4 < u) ∧
        fr 1 = .ptr M.length 0 ∧ fr 3 = .ptr (M.length + 2) 0 ∧ fr 4 = .ref u 0 l.length ∧ fr 5 = .ptr (M.length + 4) 0 ∧ fr 6 = .I i ∧ fr 7 = .I j ∧ fr 8 = .I k) (z + 2).toNat
        ⟨-1, u, l, by omega, by omega, hm, hpre, b1, b1', b3, b5, bu, hu, f1, f3, f4, f5, f6, f7, rfl⟩ ?_
      clear f1 f3 f4 f5 f6 f7 hpre b1 b1' b3 b5 bu hu hm
      rintro m3 fr N ⟨k, u, l, hk, hk1, hm, hpre, b1, b1', b3, b5, bu, hu, f1, f3, f4, f5, f6, f7, f8⟩
      simp (disch := omega) only [f1, f3, f4, f5, f6, f7, f8, b1.cell, ↓SXd, SXu, slBounds, ↓sop, ↓aop, ↓reduceIte, LV.cells, AOp.dst, LV.I, LV.B, LV.U, LV.S, LV.nil, Nat.reduceEqDiff, Nat.reduceAdd, Nat.reduceMul, Nat.reduceSub, Nat.reduceLeDiff, Nat.reduceBEq, Nat.reduceDiv, Nat.reduceMod, Int.reduceToNat, Int.reduceLT, Int.reduceLE, Int.reduceAdd, Int.reduceSub, Int.reduceMul, Int.reduceEq, Int.reduceNeg, reduceCtorEq, resV, resAll, ARes.ev, LV.flat, ite_true, ite_false, exists_eq_left', exists_eq_left, keyOf, implies_true, fillC, capOf]
      refine condC_dec (fun hlt3 => ?_) (fun hlt3 => ?_)
      · simp (disch := omega) only [f1, f3, f4, f5, f6, f7, f8, b1.cells, splice, ↓SXd, SXu, slBounds, ↓sop, ↓aop, ↓reduceIte, LV.cells, AOp.dst, LV.I, LV.B, LV.U, LV.S, LV.nil, Nat.reduceEqDiff, Nat.reduceAdd, Nat.reduceMul, Nat.reduceSub, Nat.reduceLeDiff, Nat.reduceBEq, Nat.reduceDiv, Nat.reduceMod, Int.reduceToNat, Int.reduceLT, Int.reduceLE, Int.reduceAdd, Int.reduceSub, Int.reduceMul, Int.reduceEq, Int.reduceNeg, reduceCtorEq, resV, resAll, ARes.ev, LV.flat, ite_true, ite_false, exists_eq_left', exists_eq_left, keyOf, implies_true, fillC, capOf]
        refine callK_of (h_l2In hS) ?_
        simp (disch := omega) only [f1, f3, f4, f5, f6, f7, f8, ↓SXd, SXu, slBounds, ↓sop, ↓aop, ↓reduceIte, LV.cells, AOp.dst, LV.I, LV.B, LV.U, LV.S, LV.nil, Nat.reduceEqDiff, Nat.reduceAdd, Nat.reduceMul, Nat.reduceSub, Nat.reduceLeDiff, Nat.reduceBEq, Nat.reduceDiv, Nat.reduceMod, Int.reduceToNat, Int.reduceLT, Int.reduceLE, Int.reduceAdd, Int.reduceSub, Int.reduceMul, Int.reduceEq, Int.reduceNeg, reduceCtorEq, resV, resAll, ARes.ev, LV.flat, ite_true, ite_false, exists_eq_left', exists_eq_left, keyOf, implies_true, fillC, capOf]
        refine condC_dec (fun hin => ?_) (fun hin => ?_)
        · simp (disch := omega) only [f1, f3, f4, f5, f6, f7, f8, splice, ↓SXd, SXu, slBounds, ↓sop, ↓aop, ↓reduceIte, LV.cells, AOp.dst, LV.I, LV.B, LV.U, LV.S, LV.nil, Nat.reduceEqDiff, Nat.reduceAdd, Nat.reduceMul, Nat.reduceSub, Nat.reduceLeDiff, Nat.reduceBEq, Nat.reduceDiv, Nat.reduceMod, Int.reduceToNat, Int.reduceLT, Int.reduceLE, Int.reduceAdd, Int.reduceSub, Int.reduceMul, Int.reduceEq, Int.reduceNeg, reduceCtorEq, resV, resAll, ARes.ev, LV.flat, ite_true, ite_false, exists_eq_left', exists_eq_left, keyOf, implies_true, fillC, capOf]
          exact ⟨m3 - 1, by omega, k + 1, u, l, by omega, by omega, hm.in hin, hpre, b1, b1', b3, b5, bu, hu, f1, f3, f4, f5, f6, f7, rfl⟩
        · simp (disch := omega) only [f1, f3, f4, f5, f6, f7, f8, splice, ↓SXd, SXu, slBounds, ↓sop, ↓aop, ↓reduceIte, LV.cells, AOp.dst, LV.I, LV.B, LV.U, LV.S, LV.nil, Nat.reduceEqDiff, Nat.reduceAdd, Nat.reduceMul, Nat.reduceSub, Nat.reduceLeDiff, Nat.reduceBEq, Nat.reduceDiv, Nat.reduceMod, Int.reduceToNat, Int.reduceLT, Int.reduceLE, Int.reduceAdd, Int.reduceSub, Int.reduceMul, Int.reduceEq, Int.reduceNeg, reduceCtorEq, resV, resAll, ARes.ev, LV.flat, ite_true, ite_false, exists_eq_left', exists_eq_left, keyOf, implies_true, fillC, capOf]
          have hml := hm.len
          refine appendK_cell bu (by omega) fun N' l1 l2 l3 => ?_
          have hb5 := b5.lt
          simp (disch := omega) only [f1, f3, f4, f5, f6, f7, f8, splice, ↓SXd, SXu, slBounds, ↓sop, ↓aop, ↓reduceIte, LV.cells, AOp.dst, LV.I, LV.B, LV.U, LV.S, LV.nil, Nat.reduceEqDiff, Nat.reduceAdd, Nat.reduceMul, Nat.reduceSub, Nat.reduceLeDiff, Nat.reduceBEq, Nat.reduceDiv, Nat.reduceMod, Int.reduceToNat, Int.reduceLT, Int.reduceLE, Int.reduceAdd, Int.reduceSub, Int.reduceMul, Int.reduceEq, Int.reduceNeg, reduceCtorEq, resV, resAll, ARes.ev, LV.flat, ite_true, ite_false, exists_eq_left', exists_eq_left, keyOf, implies_true, fillC, capOf]
          exact ⟨m3 - 1, by omega, k + 1, _, l ++ [⟨i, j, k⟩], by omega, by omega, hm.out (by omega) ⟨⟨by simp only; omega, by simp only; omega⟩, ⟨by simp only; omega, by simp only; omega⟩, ⟨by simp only; omega, by simp only; omega⟩⟩ hin,
            pre_step hpre (by omega) l1 l3, live_step b1 (by omega) l3, live_step b1' (by omega) l3, live_step b3 (by omega) l3, live_step b5 (by omega) l3, l2, by omega, f1, f3, rfl, f5, f6, f7, rfl⟩
      · simp (disch := omega) only [f1, f3, f4, f5, f6, f7, f8, ↓SXd, SXu, slBounds, ↓sop, ↓aop, ↓reduceIte, LV.cells, AOp.dst, LV.I, LV.B, LV.U, LV.S, LV.nil, Nat.reduceEqDiff, Nat.reduceAdd, Nat.reduceMul, Nat.reduceSub, Nat.reduceLeDiff, Nat.reduceBEq, Nat.reduceDiv, Nat.reduceMod, Int.reduceToNat, Int.reduceLT, Int.reduceLE, Int.reduceAdd, Int.reduceSub, Int.reduceMul, Int.reduceEq, Int.reduceNeg, reduceCtorEq, resV, resAll, ARes.ev, LV.flat, ite_true, ite_false, exists_eq_left', exists_eq_left, keyOf, implies_true, fillC, capOf]
        have : k = z + 1 := by omega
        exact ⟨m2 - 1, by omega, j + 1, u, l, by omega, by omega, hm.row (by omega) (by omega), hpre, b1, b1', b3, b5, bu, hu, f1, f3, f4, f5, f6, rfl⟩
    · simp (disch := omega) only [f1, f3, f4, f5, f6, f7, ↓SXd, SXu, slBounds, ↓sop, ↓aop, ↓reduceIte, LV.cells, AOp.dst, LV.I, LV.B, LV.U, LV.S, LV.nil, Nat.reduceEqDiff, Nat.reduceAdd, Nat.reduceMul, Nat.reduceSub, Nat.reduceLeDiff, Nat.reduceBEq, Nat.reduceDiv, Nat.reduceMod, Int.reduceToNat, Int.reduceLT, Int.reduceLE, Int.reduceAdd, Int.reduceSub, Int.reduceMul, Int.reduceEq, Int.reduceNeg, reduceCtorEq, resV, resAll, ARes.ev, LV.flat, ite_true, ite_false, exists_eq_left', exists_eq_left, keyOf, implies_true, fillC, capOf]
      exact ⟨m - 1, by omega, i + 1, u, l, by omega, by omega, hm.plane (by omega) (by omega), hpre, b1, b1', b3, b5, bu, hu, f1, f3, f4, f5, rfl⟩
  · simp (disch := omega) only [f1, f3, f4, f5, f6, ↓SXd, SXu, slBounds, ↓sop, ↓aop, ↓reduceIte, LV.cells, AOp.dst, LV.I, LV.B, LV.U, LV.S, LV.nil, Nat.reduceEqDiff, Nat.reduceAdd, Nat.reduceMul, Nat.reduceSub, Nat.reduceLeDiff, Nat.reduceBEq, Nat.reduceDiv, Nat.reduceMod, Int.reduceToNat, Int.reduceLT, Int.reduceLE, Int.reduceAdd, Int.reduceSub, Int.reduceMul, Int.reduceEq, Int.reduceNeg, reduceCtorEq, resV, resAll, ARes.ev, LV.flat, ite_true, ite_false, exists_eq_left', exists_eq_left, keyOf, implies_true, fillC, capOf]
    have hix : i = x + 1 := by omega
    subst hix
    have hml := hm.len
    have hout : Out x y z (fun c => decide (c ∈ cs)) 0 0 l [] := ⟨fun c h1 h2 => hm.all c h1 h2 (by have := h1.1.2; unfold Bef; omega), hm.mem, by simp, by simp, by omega, by omega⟩
    refine ev_loop (fun m fr N => ∃ (n u s : Nat) (r : List Cell), n + m = 300 ∧ n ≤ (l ++ r).length ∧ Out x y z (fun c => decide (c ∈ cs)) n 0 l r ∧ Pre M N ∧ Live N M.length (.row [.I x, .I y, .I z, .ref t 0 cs.length] true 0) ∧
      Live N s (.row (triL (pick x y z fun d => decide (d ∈ r))) true 3) ∧ Live N (M.length + 2) (.row [.I x, .I y, .I z, .ref s 0 (pick x y z fun d => decide (d ∈ r)).length] true 0) ∧ 
      Live N (M.length + 4) (.row (triL steps) true 0) ∧ Live N u (.row (triL (l ++ r)) true 3) ∧ u ≠ s ∧ M.length < u ∧ M.length < s ∧
      fr 1 = .ptr M.length 0 ∧ fr 3 = .ptr (M.length + 2) 0 ∧ fr 4 = .ref u 0 (l ++ r).length ∧ fr 5 = .ptr (M.length + 4) 0 ∧ fr 9 = .I n) 300
      ⟨0, u, M.length + 1, [], rfl, by omega, hout, hpre, b1, ?_, ?_, b5, by rw [List.append_nil]; exact bu, by omega, by omega, by omega, f1, f3, by rw [List.append_nil]; exact f4, f5, rfl⟩ ?_
    · rw [show pick x y z (fun d => decide (d ∈ ([] : List Cell))) = [] by unfold pick; rw [List.filter_eq_nil_iff]; simp]; exact b1'
    · rw [show pick x y z (fun d => decide (d ∈ ([] : List Cell))) = [] by unfold pick; rw [List.filter_eq_nil_iff]; simp]; exact b3
    clear f1 f3 f4 f5 f6 hpre b1 b1' b3 b5 bu hu hm hout
    rintro m fr N ⟨n, u, s, r, hnm, hnl, hout, hpre, b1, bs, b3, b5, bu, hus, hu, hs, f1, f3, f4, f5, f9⟩
    have hrl := nodup_len hS hout.nodup fun d hd => (hout.mem d hd).1
    have hll : (l ++ r).length = l.length + r.length := List.length_append
    simp (disch := omega) only [f1, f3, f4, f5, f9, ↓SXd, SXu, slBounds, ↓sop, ↓aop, ↓reduceIte, LV.cells, AOp.dst, LV.I, LV.B, LV.U, LV.S, LV.nil, Nat.reduceEqDiff, Nat.reduceAdd, Nat.reduceMul, Nat.reduceSub, Nat.reduceLeDiff, Nat.reduceBEq, Nat.reduceDiv, Nat.reduceMod, Int.reduceToNat, Int.reduceLT, Int.reduceLE, Int.reduceAdd, Int.reduceSub, Int.reduceMul, Int.reduceEq, Int.reduceNeg, reduceCtorEq, resV, resAll, ARes.ev, LV.flat, ite_true, ite_false, exists_eq_left', exists_eq_left, keyOf, implies_true, fillC, capOf]
    refine condC_dec (fun hlt2 => ?_) (fun hlt2 => ?_)
    · simp (disch := omega) only [f1, f3, f4, f5, f9, ↓SXd, SXu, slBounds, ↓sop, ↓aop, ↓reduceIte, LV.cells, AOp.dst, LV.I, LV.B, LV.U, LV.S, LV.nil, Nat.reduceEqDiff, Nat.reduceAdd, Nat.reduceMul, Nat.reduceSub, Nat.reduceLeDiff, Nat.reduceBEq, Nat.reduceDiv, Nat.reduceMod, Int.reduceToNat, Int.reduceLT, Int.reduceLE, Int.reduceAdd, Int.reduceSub, Int.reduceMul, Int.reduceEq, Int.reduceNeg, reduceCtorEq, resV, resAll, ARes.ev, LV.flat, ite_true, ite_false, exists_eq_left', exists_eq_left, keyOf, implies_true, fillC, capOf]
      have hnl' : n < (l ++ r).length := by omega
      refine ev_loop (fun m2 fr N => ∃ (k u s : Nat) (r : List Cell), k + m2 = 6 ∧ n < (l ++ r).length ∧ Out x y z (fun c => decide (c ∈ cs)) n k l r ∧ Pre M N ∧ Live N M.length (.row [.I x, .I y, .I z, .ref t 0 cs.length] true 0) ∧
        Live N s (.row (triL (pick x y z fun d => decide (d ∈ r))) true 3) ∧ Live N (M.length + 2) (.row [.I x, .I y, .I z, .ref s 0 (pick x y z fun d => decide (d ∈ r)).length] true 0) ∧ 
        Live N (M.length + 4) (.row (triL steps) true 0) ∧ Live N u (.row (triL (l ++ r)) true 3) ∧ u ≠ s ∧ M.length < u ∧ M.length < s ∧
        fr 1 = .ptr M.length 0 ∧ fr 3 = .ptr (M.length + 2) 0 ∧ fr 4 = .ref u 0 (l ++ r).length ∧ fr 5 = .ptr (M.length + 4) 0 ∧ fr 9 = .I n ∧ fr 10 = .I k) 6
        ⟨0, u, s, r, rfl, hnl', hout, hpre, b1, bs, b3, b5, bu, hus, hu, hs, f1, f3, f4, f5, f9, rfl⟩ ?_
      clear f1 f3 f4 f5 f9 hpre b1 bs b3 b5 bu hus hu hs hout hnl hrl hll hnl'
      rintro m2 fr N ⟨k, u, s, r, hk, hnl, hout, hpre, b1, bs, b3, b5, bu, hus, hu, hs, f1, f3, f4, f5, f9, f10⟩
      simp (disch := omega) only [f1, f3, f4, f5, f9, f10, ↓SXd, SXu, slBounds, ↓sop, ↓aop, ↓reduceIte, LV.cells, AOp.dst, LV.I, LV.B, LV.U, LV.S, LV.nil, Nat.reduceEqDiff, Nat.reduceAdd, Nat.reduceMul, Nat.reduceSub, Nat.reduceLeDiff, Nat.reduceBEq, Nat.reduceDiv, Nat.reduceMod, Int.reduceToNat, Int.reduceLT, Int.reduceLE, Int.reduceAdd, Int.reduceSub, Int.reduceMul, Int.reduceEq, Int.reduceNeg, reduceCtorEq, resV, resAll, ARes.ev, LV.flat, ite_true, ite_false, exists_eq_left', exists_eq_left, keyOf, implies_true, fillC, capOf]
      refine condC_dec (fun hlt3 => ?_) (fun hlt3 => ?_)
      · have hk6 : k < 6 := by omega
        have hc1 := bu.tri0 hnl
        have hst := steps_nbrs (c := (l ++ r).getD n default) hk6
        have hsl := steps_le hk6
        simp (disch := omega) only [f1, f3, f4, f5, f9, f10, hc1, (b5.step hk6), Cell.row, List.getElem?_append_left, ↓SXd, SXu, slBounds, ↓sop, ↓aop, ↓reduceIte, LV.cells, AOp.dst, LV.I, LV.B, LV.U, LV.S, LV.nil, Nat.reduceEqDiff, Nat.reduceAdd, Nat.reduceMul, Nat.reduceSub, Nat.reduceLeDiff, Nat.reduceBEq, Nat.reduceDiv, Nat.reduceMod, Int.reduceToNat, Int.reduceLT, Int.reduceLE, Int.reduceAdd, Int.reduceSub, Int.reduceMul, Int.reduceEq, Int.reduceNeg, reduceCtorEq, resV, resAll, ARes.ev, LV.flat, ite_true, ite_false, exists_eq_left', exists_eq_left, keyOf, implies_true, fillC, capOf]
        have hce : ExtC x y z ((l ++ r).getD n default) := by
          rcases List.mem_append.1 (getD_mem' (d := default) hnl) with hm | hm
          · exact (hout.mgm _ hm).1
          · exact (hout.mem _ hm).1.ext
        obtain ⟨⟨_, _⟩, ⟨_, _⟩, ⟨_, _⟩⟩ := id hce
        obtain ⟨⟨_, _⟩, ⟨_, _⟩, ⟨_, _⟩⟩ := id hsl
        refine callK_of (h_l6Beside ⟨⟨by omega, by omega⟩, ⟨by omega, by omega⟩, ⟨by omega, by omega⟩, ⟨by omega, by omega⟩, ⟨by omega, by omega⟩, ⟨by omega, by omega⟩⟩) ?_
        simp (disch := omega) only [f1, f3, f4, f5, f9, f10, splice, ↓SXd, SXu, slBounds, ↓sop, ↓aop, ↓reduceIte, LV.cells, AOp.dst, LV.I, LV.B, LV.U, LV.S, LV.nil, Nat.reduceEqDiff, Nat.reduceAdd, Nat.reduceMul, Nat.reduceSub, Nat.reduceLeDiff, Nat.reduceBEq, Nat.reduceDiv, Nat.reduceMod, Int.reduceToNat, Int.reduceLT, Int.reduceLE, Int.reduceAdd, Int.reduceSub, Int.reduceMul, Int.reduceEq, Int.reduceNeg, reduceCtorEq, resV, resAll, ARes.ev, LV.flat, ite_true, ite_false, exists_eq_left', exists_eq_left, keyOf, implies_true, fillC, capOf]
        generalize ((l ++ r).getD n default).a + (steps.getD k default).a = ea at hst ⊢
        generalize ((l ++ r).getD n default).b + (steps.getD k default).b = eb at hst ⊢
        generalize ((l ++ r).getD n default).c + (steps.getD k default).c = ec at hst ⊢
        have e0 : Live (N ++ [some (.row [.I ea, .I eb, .I ec] true 0)]) N.length (.row [.I ea, .I eb, .I ec] true 0) := Live.new
        have hpN : Pre N (N ++ [some (.row [.I ea, .I eb, .I ec] true 0)]) := Pre.app _ _
        generalize N ++ [some (.row [.I ea, .I eb, .I ec] true 0)] = N1 at e0 hpN ⊢
        have hNl := hpN.1
        have hlb5 := b5.lt
        have hlu := bu.lt
        have hls := bs.lt
        have c1 := b1.pre hpN
        have cs' := bs.pre hpN
        have c3 := b3.pre hpN
        have c5 := b5.pre hpN
        have cu := bu.pre hpN
        have hpre1 := hpre.trans hpN
        have hTri : Tri N1 t 0 cs := (h.pre hpre1).has
        have hrl := nodup_len hS hout.nodup fun d hd => (hout.mem d hd).1
        have hpl := pick_len hS fun d => decide (d ∈ r)
        have hll : (l ++ r).length = l.length + r.length := List.length_append
        have hmr : decide ((⟨ea, eb, ec⟩ : Cell) ∈ pick x y z fun d => decide (d ∈ r)) = decide ((⟨ea, eb, ec⟩ : Cell) ∈ r) := decide_eq_decide.2 ⟨fun h => by have := ((mem_pick hS).1 h).2; exact of_decide_eq_true this, fun h => (mem_pick hS).2 ⟨(hout.mem _ h).1, decide_eq_true h⟩⟩
        have hskip : ¬ ((Cell.inBox x y z ⟨ea, eb, ec⟩ ∧ (⟨ea, eb, ec⟩ : Cell) ∉ cs) ∧ (⟨ea, eb, ec⟩ : Cell) ∉ r) → Out x y z (fun c => decide (c ∈ cs)) n (k + 1) l r := fun hno => hout.skip (by rw [hst, decide_eq_false_iff_not]; exact hno)
        simp (disch := omega) only [f1, f3, f4, f5, f9, f10, c1.cells, e0.cells, ↓SXd, SXu, slBounds, ↓sop, ↓aop, ↓reduceIte, LV.cells, AOp.dst, LV.I, LV.B, LV.U, LV.S, LV.nil, Nat.reduceEqDiff, Nat.reduceAdd, Nat.reduceMul, Nat.reduceSub, Nat.reduceLeDiff, Nat.reduceBEq, Nat.reduceDiv, Nat.reduceMod, Int.reduceToNat, Int.reduceLT, Int.reduceLE, Int.reduceAdd, Int.reduceSub, Int.reduceMul, Int.reduceEq, Int.reduceNeg, reduceCtorEq, resV, resAll, ARes.ev, LV.flat, ite_true, ite_false, exists_eq_left', exists_eq_left, keyOf, implies_true, fillC, capOf]
        refine callK_of (h_l2In hS) ?_
        simp (disch := omega) only [f1, f3, f4, f5, f9, f10, ↓SXd, SXu, slBounds, ↓sop, ↓aop, ↓reduceIte, LV.cells, AOp.dst, LV.I, LV.B, LV.U, LV.S, LV.nil, Nat.reduceEqDiff, Nat.reduceAdd, Nat.reduceMul, Nat.reduceSub, Nat.reduceLeDiff, Nat.reduceBEq, Nat.reduceDiv, Nat.reduceMod, Int.reduceToNat, Int.reduceLT, Int.reduceLE, Int.reduceAdd, Int.reduceSub, Int.reduceMul, Int.reduceEq, Int.reduceNeg, reduceCtorEq, resV, resAll, ARes.ev, LV.flat, ite_true, ite_false, exists_eq_left', exists_eq_left, keyOf, implies_true, fillC, capOf]
        by_cases hin : Cell.inBox x y z ⟨ea, eb, ec⟩
        · simp (disch := omega) only [f1, f3, f4, f5, f9, f10, hin, c1.cells, e0.cells, ↓SXd, SXu, slBounds, ↓sop, ↓aop, ↓reduceIte, LV.cells, AOp.dst, LV.I, LV.B, LV.U, LV.S, LV.nil, Nat.reduceEqDiff, Nat.reduceAdd, Nat.reduceMul, Nat.reduceSub, Nat.reduceLeDiff, Nat.reduceBEq, Nat.reduceDiv, Nat.reduceMod, Int.reduceToNat, Int.reduceLT, Int.reduceLE, Int.reduceAdd, Int.reduceSub, Int.reduceMul, Int.reduceEq, Int.reduceNeg, reduceCtorEq, resV, resAll, ARes.ev, LV.flat, ite_true, ite_false, exists_eq_left', exists_eq_left, keyOf, implies_true, fillC, capOf]
          refine callK_of (h_l2Has hTri hn) ?_
          simp (disch := omega) only [f1, f3, f4, f5, f9, f10, ↓SXd, SXu, slBounds, ↓sop, ↓aop, ↓reduceIte, LV.cells, AOp.dst, LV.I, LV.B, LV.U, LV.S, LV.nil, Nat.reduceEqDiff, Nat.reduceAdd, Nat.reduceMul, Nat.reduceSub, Nat.reduceLeDiff, Nat.reduceBEq, Nat.reduceDiv, Nat.reduceMod, Int.reduceToNat, Int.reduceLT, Int.reduceLE, Int.reduceAdd, Int.reduceSub, Int.reduceMul, Int.reduceEq, Int.reduceNeg, reduceCtorEq, resV, resAll, ARes.ev, LV.flat, ite_true, ite_false, exists_eq_left', exists_eq_left, keyOf, implies_true, fillC, capOf]
          by_cases hcs : (⟨ea, eb, ec⟩ : Cell) ∈ cs
          · simp (disch := omega) only [f1, f3, f4, f5, f9, f10, hcs, ↓SXd, SXu, slBounds, ↓sop, ↓aop, ↓reduceIte, LV.cells, AOp.dst, LV.I, LV.B, LV.U, LV.S, LV.nil, Nat.reduceEqDiff, Nat.reduceAdd, Nat.reduceMul, Nat.reduceSub, Nat.reduceLeDiff, Nat.reduceBEq, Nat.reduceDiv, Nat.reduceMod, Int.reduceToNat, Int.reduceLT, Int.reduceLE, Int.reduceAdd, Int.reduceSub, Int.reduceMul, Int.reduceEq, Int.reduceNeg, reduceCtorEq, resV, resAll, ARes.ev, LV.flat, ite_true, ite_false, exists_eq_left', exists_eq_left, keyOf, implies_true, fillC, capOf]
            exact ⟨m2 - 1, by omega, k + 1, u, s, r, by omega, hnl, hskip (by simp [hcs]), hpre1, c1, cs', c3, c5, cu, hus, hu, hs, f1, f3, f4, f5, f9, eqI (natI _)⟩
          · simp (disch := omega) only [f1, f3, f4, f5, f9, f10, hcs, c3.cells, e0.cells, ↓SXd, SXu, slBounds, ↓sop, ↓aop, ↓reduceIte, LV.cells, AOp.dst, LV.I, LV.B, LV.U, LV.S, LV.nil, Nat.reduceEqDiff, Nat.reduceAdd, Nat.reduceMul, Nat.reduceSub, Nat.reduceLeDiff, Nat.reduceBEq, Nat.reduceDiv, Nat.reduceMod, Int.reduceToNat, Int.reduceLT, Int.reduceLE, Int.reduceAdd, Int.reduceSub, Int.reduceMul, Int.reduceEq, Int.reduceNeg, reduceCtorEq, resV, resAll, ARes.ev, LV.flat, ite_true, ite_false, exists_eq_left', exists_eq_left, keyOf, implies_true, fillC, capOf]
            refine callK_of (h_l2Has cs'.has (by omega)) ?_
            simp (disch := omega) only [f1, f3, f4, f5, f9, f10, ↓SXd, SXu, slBounds, ↓sop, ↓aop, ↓reduceIte, LV.cells, AOp.dst, LV.I, LV.B, LV.U, LV.S, LV.nil, Nat.reduceEqDiff, Nat.reduceAdd, Nat.reduceMul, Nat.reduceSub, Nat.reduceLeDiff, Nat.reduceBEq, Nat.reduceDiv, Nat.reduceMod, Int.reduceToNat, Int.reduceLT, Int.reduceLE, Int.reduceAdd, Int.reduceSub, Int.reduceMul, Int.reduceEq, Int.reduceNeg, reduceCtorEq, resV, resAll, ARes.ev, LV.flat, ite_true, ite_false, exists_eq_left', exists_eq_left, keyOf, implies_true, fillC, capOf]
            rw [hmr]
            by_cases hr : (⟨ea, eb, ec⟩ : Cell) ∈ r
            · simp (disch := omega) only [f1, f3, f4, f5, f9, f10, hr, ↓SXd, SXu, slBounds, ↓sop, ↓aop, ↓reduceIte, LV.cells, AOp.dst, LV.I, LV.B, LV.U, LV.S, LV.nil, Nat.reduceEqDiff, Nat.reduceAdd, Nat.reduceMul, Nat.reduceSub, Nat.reduceLeDiff, Nat.reduceBEq, Nat.reduceDiv, Nat.reduceMod, Int.reduceToNat, Int.reduceLT, Int.reduceLE, Int.reduceAdd, Int.reduceSub, Int.reduceMul, Int.reduceEq, Int.reduceNeg, reduceCtorEq, resV, resAll, ARes.ev, LV.flat, ite_true, ite_false, exists_eq_left', exists_eq_left, keyOf, implies_true, fillC, capOf]
              exact ⟨m2 - 1, by omega, k + 1, u, s, r, by omega, hnl, hskip (by simp [hr]), hpre1, c1, cs', c3, c5, cu, hus, hu, hs, f1, f3, f4, f5, f9, eqI (natI _)⟩
            · simp (disch := omega) only [f1, f3, f4, f5, f9, f10, hr, c3.cells, e0.cells, ↓SXd, SXu, slBounds, ↓sop, ↓aop, ↓reduceIte, LV.cells, AOp.dst, LV.I, LV.B, LV.U, LV.S, LV.nil, Nat.reduceEqDiff, Nat.reduceAdd, Nat.reduceMul, Nat.reduceSub, Nat.reduceLeDiff, Nat.reduceBEq, Nat.reduceDiv, Nat.reduceMod, Int.reduceToNat, Int.reduceLT, Int.reduceLE, Int.reduceAdd, Int.reduceSub, Int.reduceMul, Int.reduceEq, Int.reduceNeg, reduceCtorEq, resV, resAll, ARes.ev, LV.flat, ite_true, ite_false, exists_eq_left', exists_eq_left, keyOf, implies_true, fillC, capOf]
              refine callH_of (h_l2With (c := ⟨ea, eb, ec⟩) cs' (pick_ok hS _) hin) ?_
              intro sn N2 hsn hp2 hsr
              simp (disch := omega) only [f1, f3, f4, f5, f9, f10, ↓SXd, SXu, slBounds, ↓sop, ↓aop, ↓reduceIte, LV.cells, AOp.dst, LV.I, LV.B, LV.U, LV.S, LV.nil, Nat.reduceEqDiff, Nat.reduceAdd, Nat.reduceMul, Nat.reduceSub, Nat.reduceLeDiff, Nat.reduceBEq, Nat.reduceDiv, Nat.reduceMod, Int.reduceToNat, Int.reduceLT, Int.reduceLE, Int.reduceAdd, Int.reduceSub, Int.reduceMul, Int.reduceEq, Int.reduceNeg, reduceCtorEq, resV, resAll, ARes.ev, LV.flat, ite_true, ite_false, exists_eq_left', exists_eq_left, keyOf, implies_true, fillC, capOf]
              refine memK_box (c3.pre hp2) (by simp) fun N3 k1 k2 k3 => ?_
              have hN2 := hp2.1
              have hle0 := e0.lt
              have hlc5 := c5.lt
              have e3 := live_step (e0.pre hp2) (by omega) k3
              have d1 := live_step (c1.pre hp2) (by omega) k3
              have d5 := live_step (c5.pre hp2) (by omega) k3
              have du := live_step (cu.pre hp2) (cu.ne_esz c3 (by decide)) k3
              have ds := live_step hsr (by omega) k3
              have hlsn := hsr.lt
              have hu5 := cu.ne_esz c5 (by decide)
              have hu3 := cu.ne_esz c3 (by decide)
              have hpre3 := pre_step (hpre1.trans hp2) (by omega) (j := 0) k1 k3
              simp (disch := omega) only [f1, f3, f4, f5, f9, f10, e3.cells, splice, ↓SXd, SXu, slBounds, ↓sop, ↓aop, ↓reduceIte, LV.cells, AOp.dst, LV.I, LV.B, LV.U, LV.S, LV.nil, Nat.reduceEqDiff, Nat.reduceAdd, Nat.reduceMul, Nat.reduceSub, Nat.reduceLeDiff, Nat.reduceBEq, Nat.reduceDiv, Nat.reduceMod, Int.reduceToNat, Int.reduceLT, Int.reduceLE, Int.reduceAdd, Int.reduceSub, Int.reduceMul, Int.reduceEq, Int.reduceNeg, reduceCtorEq, resV, resAll, ARes.ev, LV.flat, ite_true, ite_false, exists_eq_left', exists_eq_left, keyOf, implies_true, fillC, capOf]
              refine appendK_cell du (by omega) fun N5 l1 l2 l3 => ?_
              simp (disch := omega) only [f1, f3, f4, f5, f9, f10, ↓SXd, SXu, slBounds, ↓sop, ↓aop, ↓reduceIte, LV.cells, AOp.dst, LV.I, LV.B, LV.U, LV.S, LV.nil, Nat.reduceEqDiff, Nat.reduceAdd, Nat.reduceMul, Nat.reduceSub, Nat.reduceLeDiff, Nat.reduceBEq, Nat.reduceDiv, Nat.reduceMod, Int.reduceToNat, Int.reduceLT, Int.reduceLE, Int.reduceAdd, Int.reduceSub, Int.reduceMul, Int.reduceEq, Int.reduceNeg, reduceCtorEq, resV, resAll, ARes.ev, LV.flat, ite_true, ite_false, exists_eq_left', exists_eq_left, keyOf, implies_true, fillC, capOf]
              have hpe : pick x y z (fun d => decide (d ∈ pick x y z fun d => decide (d ∈ r)) || decide (d = ⟨ea, eb, ec⟩)) = pick x y z fun d => decide (d ∈ r ++ [⟨ea, eb, ec⟩]) := pick_congr hS fun d hd => by
                rw [Bool.eq_iff_iff, Bool.or_eq_true, decide_eq_true_iff, decide_eq_true_iff, decide_eq_true_iff, mem_pick hS, decide_eq_true_iff, List.mem_append, List.mem_singleton]
                exact ⟨fun h => h.elim (fun h => .inl h.2) .inr, fun h => h.elim (fun h => .inl ⟨hd, h⟩) .inr⟩
              rw [hpe] at ds k2
              refine ⟨m2 - 1, by omega, k + 1, N3.length + 1, sn, r ++ [⟨ea, eb, ec⟩], by omega, by simp at hnl ⊢; omega, hout.add hk6 hnl hst hin (decide_eq_false hcs) hr, pre_step hpre3 (by omega) l1 l3, live_step d1 (by omega) l3, live_step ds (by omega) l3, live_step k2 (by omega) l3, live_step d5 (by omega) l3, by rw [← List.append_assoc]; exact l2, by omega, by omega, by omega, f1, f3, by rw [← List.append_assoc]; rfl, f5, f9, eqI (natI _)⟩
        · simp (disch := omega) only [f1, f3, f4, f5, f9, f10, hin, ↓SXd, SXu, slBounds, ↓sop, ↓aop, ↓reduceIte, LV.cells, AOp.dst, LV.I, LV.B, LV.U, LV.S, LV.nil, Nat.reduceEqDiff, Nat.reduceAdd, Nat.reduceMul, Nat.reduceSub, Nat.reduceLeDiff, Nat.reduceBEq, Nat.reduceDiv, Nat.reduceMod, Int.reduceToNat, Int.reduceLT, Int.reduceLE, Int.reduceAdd, Int.reduceSub, Int.reduceMul, Int.reduceEq, Int.reduceNeg, reduceCtorEq, resV, resAll, ARes.ev, LV.flat, ite_true, ite_false, exists_eq_left', exists_eq_left, keyOf, implies_true, fillC, capOf]
          exact ⟨m2 - 1, by omega, k + 1, u, s, r, by omega, hnl, hskip (by simp [hin]), hpre1, c1, cs', c3, c5, cu, hus, hu, hs, f1, f3, f4, f5, f9, eqI (natI _)⟩
      · simp (disch := omega) only [f1, f3, f4, f5, f9, f10, ↓SXd, SXu, slBounds, ↓sop, ↓aop, ↓reduceIte, LV.cells, AOp.dst, LV.I, LV.B, LV.U, LV.S, LV.nil, Nat.reduceEqDiff, Nat.reduceAdd, Nat.reduceMul, Nat.reduceSub, Nat.reduceLeDiff, Nat.reduceBEq, Nat.reduceDiv, Nat.reduceMod, Int.reduceToNat, Int.reduceLT, Int.reduceLE, Int.reduceAdd, Int.reduceSub, Int.reduceMul, Int.reduceEq, Int.reduceNeg, reduceCtorEq, resV, resAll, ARes.ev, LV.flat, ite_true, ite_false, exists_eq_left', exists_eq_left, keyOf, implies_true, fillC, capOf]
        have : k = 6 := by omega
        subst this
        have hrl := nodup_len hS hout.nodup fun d hd => (hout.mem d hd).1
        have hll : (l ++ r).length = l.length + r.length := List.length_append
        exact ⟨m - 1, by omega, n + 1, u, s, r, by omega, by omega, hout.next, hpre, b1, bs, b3, b5, bu, hus, hu, hs, f1, f3, f4, f5, eqI (natI _)⟩
    · have hfin := fun d hd => hout.final (d := d) (by omega) hd
      clear f4 f5 f9
      simp (disch := omega) only [f1, f3, b1.app.cells, ↓SXd, SXu, slBounds, ↓sop, ↓aop, ↓reduceIte, LV.cells, AOp.dst, LV.I, LV.B, LV.U, LV.S, LV.nil, Nat.reduceEqDiff, Nat.reduceAdd, Nat.reduceMul, Nat.reduceSub, Nat.reduceLeDiff, Nat.reduceBEq, Nat.reduceDiv, Nat.reduceMod, Int.reduceToNat, Int.reduceLT, Int.reduceLE, Int.reduceAdd, Int.reduceSub, Int.reduceMul, Int.reduceEq, Int.reduceNeg, reduceCtorEq, resV, resAll, ARes.ev, LV.flat, ite_true, ite_false, exists_eq_left', exists_eq_left, keyOf, implies_true, fillC, capOf]
      have hlN := b5.lt
      refine callN_of (h_l2All hS) ?_
      intro ta N2 hta hp2 har
      have hv := vol_cast hS
      have hcl : (cellsOf x y z).length = vol x y z := by simp [cellsOf]
      simp only [List.length_append, List.length_singleton] at hta
      have hN2 := hp2.1
      simp only [List.length_append, List.length_singleton] at hN2
      simp (disch := omega) only [f1, f3, ↓SXd, SXu, slBounds, ↓sop, ↓aop, ↓reduceIte, LV.cells, AOp.dst, LV.I, LV.B, LV.U, LV.S, LV.nil, Nat.reduceEqDiff, Nat.reduceAdd, Nat.reduceMul, Nat.reduceSub, Nat.reduceLeDiff, Nat.reduceBEq, Nat.reduceDiv, Nat.reduceMod, Int.reduceToNat, Int.reduceLT, Int.reduceLE, Int.reduceAdd, Int.reduceSub, Int.reduceMul, Int.reduceEq, Int.reduceNeg, reduceCtorEq, resV, resAll, ARes.ev, LV.flat, ite_true, ite_false, exists_eq_left', exists_eq_left, keyOf, implies_true, fillC, capOf]
      refine ev_loop (fun m fr N' => ∃ (i uo : Nat) (acc : List Cell), i + m = (cellsOf x y z).length ∧ acc = ((cellsOf x y z).take i).filter (closed x y z fun c => decide (c ∈ cs)) ∧ Pre M N' ∧ Live N' M.length (.row [.I x, .I y, .I z, .ref t 0 cs.length] true 0) ∧
        Live N' s (.row (triL (pick x y z fun d => decide (d ∈ r))) true 3) ∧ Live N' (M.length + 2) (.row [.I x, .I y, .I z, .ref s 0 (pick x y z fun d => decide (d ∈ r)).length] true 0) ∧
        Live N' ta (.row (triL (cellsOf x y z)) true 3) ∧ Live N' uo (.row (triL acc) true 3) ∧ uo ≠ ta ∧ uo ≠ s ∧ M.length ≤ uo ∧ ta < N'.length ∧ s < N'.length ∧
        fr 1 = .ptr M.length 0 ∧ fr 3 = .ptr (M.length + 2) 0 ∧ fr 12 = .ref uo 0 acc.length ∧ fr 13 = .ref ta 0 (cellsOf x y z).length ∧ fr 14 = .I i) (cellsOf x y z).length
        ⟨0, N.length, [], by omega, by simp, (hpre.trans (Pre.app _ _)).trans hp2, b1.app.pre hp2, bs.app.pre hp2, b3.app.pre hp2, har, Live.new.pre hp2, by omega, by have := bs.lt; omega, by omega, har.lt, by have := bs.lt; omega, f1, f3, rfl, rfl, rfl⟩ ?_
      clear f1 f3 hpre b1 bs b3 b5 bu har
      rintro m fr N' ⟨i, uo, acc, hi, hacc, hpre, b1, bs, b3, ba, bo, hne1, hne2, huo, hta', hs', f1, f3, f12, f13, f14⟩
      have hal : acc.length ≤ 64 := by
        have h1 := List.length_filter_le (closed x y z fun c => decide (c ∈ cs)) ((cellsOf x y z).take i)
        have h2 := List.length_take_le i (cellsOf x y z)
        rw [hacc]; omega
      simp (disch := omega) only [f1, f3, f12, f13, f14, ↓SXd, SXu, slBounds, ↓sop, ↓aop, ↓reduceIte, LV.cells, AOp.dst, LV.I, LV.B, LV.U, LV.S, LV.nil, Nat.reduceEqDiff, Nat.reduceAdd, Nat.reduceMul, Nat.reduceSub, Nat.reduceLeDiff, Nat.reduceBEq, Nat.reduceDiv, Nat.reduceMod, Int.reduceToNat, Int.reduceLT, Int.reduceLE, Int.reduceAdd, Int.reduceSub, Int.reduceMul, Int.reduceEq, Int.reduceNeg, reduceCtorEq, resV, resAll, ARes.ev, LV.flat, ite_true, ite_false, exists_eq_left', exists_eq_left, keyOf, implies_true, fillC, capOf]
      refine condC_dec (fun hlt => ?_) (fun hlt => ?_)
      · have hil : i < (cellsOf x y z).length := by omega
        have hcb := (mem_cellsOf hS).1 (getD_mem' (d := default) hil)
        have hci := ba.tri0 hil
        have hts : (cellsOf x y z).take (i + 1) = (cellsOf x y z).take i ++ [(cellsOf x y z).getD i default] := by
          rw [List.take_succ, List.getElem?_eq_getElem hil]; simp [hil]
        have hpl := pick_len hS fun d => decide (d ∈ r)
        have hTri : Tri N' t 0 cs := (h.pre hpre).has
        generalize (cellsOf x y z).getD i default = c at hcb hci hts
        have hmr : decide (c ∈ pick x y z fun d => decide (d ∈ r)) = outer x y z (fun c => decide (c ∈ cs)) c := by
          rw [Bool.eq_iff_iff, decide_eq_true_iff, mem_pick hS, decide_eq_true_iff, ← hfin c hcb]
          exact ⟨fun h => h.2, fun h => ⟨hcb, h⟩⟩
        have hstep : acc ++ (if closed x y z (fun c => decide (c ∈ cs)) c then [c] else []) = ((cellsOf x y z).take (i + 1)).filter (closed x y z fun c => decide (c ∈ cs)) := by
          rw [hts, List.filter_append, ← hacc, List.filter_cons, List.filter_nil]
        simp (disch := omega) only [f1, f3, f12, f13, f14, b1.cells, hci, Cell.row, ↓SXd, SXu, slBounds, ↓sop, ↓aop, ↓reduceIte, LV.cells, AOp.dst, LV.I, LV.B, LV.U, LV.S, LV.nil, Nat.reduceEqDiff, Nat.reduceAdd, Nat.reduceMul, Nat.reduceSub, Nat.reduceLeDiff, Nat.reduceBEq, Nat.reduceDiv, Nat.reduceMod, Int.reduceToNat, Int.reduceLT, Int.reduceLE, Int.reduceAdd, Int.reduceSub, Int.reduceMul, Int.reduceEq, Int.reduceNeg, reduceCtorEq, resV, resAll, ARes.ev, LV.flat, ite_true, ite_false, exists_eq_left', exists_eq_left, keyOf, implies_true, fillC, capOf]
        refine callK_of (h_l2Has hTri hn) ?_
        simp (disch := omega) only [f1, f3, f12, f13, f14, cell_eta, ↓SXd, SXu, slBounds, ↓sop, ↓aop, ↓reduceIte, LV.cells, AOp.dst, LV.I, LV.B, LV.U, LV.S, LV.nil, Nat.reduceEqDiff, Nat.reduceAdd, Nat.reduceMul, Nat.reduceSub, Nat.reduceLeDiff, Nat.reduceBEq, Nat.reduceDiv, Nat.reduceMod, Int.reduceToNat, Int.reduceLT, Int.reduceLE, Int.reduceAdd, Int.reduceSub, Int.reduceMul, Int.reduceEq, Int.reduceNeg, reduceCtorEq, resV, resAll, ARes.ev, LV.flat, ite_true, ite_false, exists_eq_left', exists_eq_left, keyOf, implies_true, fillC, capOf]
        by_cases hc : c ∈ cs
        · simp (disch := omega) only [f1, f3, f12, f13, f14, hc, ↓SXd, SXu, slBounds, ↓sop, ↓aop, ↓reduceIte, LV.cells, AOp.dst, LV.I, LV.B, LV.U, LV.S, LV.nil, Nat.reduceEqDiff, Nat.reduceAdd, Nat.reduceMul, Nat.reduceSub, Nat.reduceLeDiff, Nat.reduceBEq, Nat.reduceDiv, Nat.reduceMod, Int.reduceToNat, Int.reduceLT, Int.reduceLE, Int.reduceAdd, Int.reduceSub, Int.reduceMul, Int.reduceEq, Int.reduceNeg, reduceCtorEq, resV, resAll, ARes.ev, LV.flat, ite_true, ite_false, exists_eq_left', exists_eq_left, keyOf, implies_true, fillC, capOf]
          exact ⟨m - 1, by omega, i + 1, uo, acc, by omega, by rw [← hstep, if_neg (by unfold closed; simp [hc]), List.append_nil], hpre, b1, bs, b3, ba, bo, hne1, hne2, huo, hta', hs', f1, f3, f12, f13, eqI (natI _)⟩
        · simp (disch := omega) only [f1, f3, f12, f13, f14, hc, b3.cells, hci, Cell.row, ↓SXd, SXu, slBounds, ↓sop, ↓aop, ↓reduceIte, LV.cells, AOp.dst, LV.I, LV.B, LV.U, LV.S, LV.nil, Nat.reduceEqDiff, Nat.reduceAdd, Nat.reduceMul, Nat.reduceSub, Nat.reduceLeDiff, Nat.reduceBEq, Nat.reduceDiv, Nat.reduceMod, Int.reduceToNat, Int.reduceLT, Int.reduceLE, Int.reduceAdd, Int.reduceSub, Int.reduceMul, Int.reduceEq, Int.reduceNeg, reduceCtorEq, resV, resAll, ARes.ev, LV.flat, ite_true, ite_false, exists_eq_left', exists_eq_left, keyOf, implies_true, fillC, capOf]
          refine callK_of (h_l2Has bs.has (by omega)) ?_
          simp (disch := omega) only [f1, f3, f12, f13, f14, cell_eta, ↓SXd, SXu, slBounds, ↓sop, ↓aop, ↓reduceIte, LV.cells, AOp.dst, LV.I, LV.B, LV.U, LV.S, LV.nil, Nat.reduceEqDiff, Nat.reduceAdd, Nat.reduceMul, Nat.reduceSub, Nat.reduceLeDiff, Nat.reduceBEq, Nat.reduceDiv, Nat.reduceMod, Int.reduceToNat, Int.reduceLT, Int.reduceLE, Int.reduceAdd, Int.reduceSub, Int.reduceMul, Int.reduceEq, Int.reduceNeg, reduceCtorEq, resV, resAll, ARes.ev, LV.flat, ite_true, ite_false, exists_eq_left', exists_eq_left, keyOf, implies_true, fillC, capOf]
          rw [hmr]
          cases ho : outer x y z (fun c => decide (c ∈ cs)) c with
          | true =>
            simp (disch := omega) only [f1, f3, f12, f13, f14, ho, ↓SXd, SXu, slBounds, ↓sop, ↓aop, ↓reduceIte, LV.cells, AOp.dst, LV.I, LV.B, LV.U, LV.S, LV.nil, Nat.reduceEqDiff, Nat.reduceAdd, Nat.reduceMul, Nat.reduceSub, Nat.reduceLeDiff, Nat.reduceBEq, Nat.reduceDiv, Nat.reduceMod, Int.reduceToNat, Int.reduceLT, Int.reduceLE, Int.reduceAdd, Int.reduceSub, Int.reduceMul, Int.reduceEq, Int.reduceNeg, reduceCtorEq, resV, resAll, ARes.ev, LV.flat, ite_true, ite_false, exists_eq_left', exists_eq_left, keyOf, implies_true, fillC, capOf]
            exact ⟨m - 1, by omega, i + 1, uo, acc, by omega, by rw [← hstep, if_neg (by unfold closed; simp [ho]), List.append_nil], hpre, b1, bs, b3, ba, bo, hne1, hne2, huo, hta', hs', f1, f3, f12, f13, eqI (natI _)⟩
          | false =>
            simp (disch := omega) only [f1, f3, f12, f13, f14, ho, hci, Cell.row, splice, ↓SXd, SXu, slBounds, ↓sop, ↓aop, ↓reduceIte, LV.cells, AOp.dst, LV.I, LV.B, LV.U, LV.S, LV.nil, Nat.reduceEqDiff, Nat.reduceAdd, Nat.reduceMul, Nat.reduceSub, Nat.reduceLeDiff, Nat.reduceBEq, Nat.reduceDiv, Nat.reduceMod, Int.reduceToNat, Int.reduceLT, Int.reduceLE, Int.reduceAdd, Int.reduceSub, Int.reduceMul, Int.reduceEq, Int.reduceNeg, reduceCtorEq, resV, resAll, ARes.ev, LV.flat, ite_true, ite_false, exists_eq_left', exists_eq_left, keyOf, implies_true, fillC, capOf]
            refine appendK_cell bo (by omega) fun N5 l1 l2 l3 => ?_
            simp (disch := omega) only [f1, f3, f12, f13, f14, ↓SXd, SXu, slBounds, ↓sop, ↓aop, ↓reduceIte, LV.cells, AOp.dst, LV.I, LV.B, LV.U, LV.S, LV.nil, Nat.reduceEqDiff, Nat.reduceAdd, Nat.reduceMul, Nat.reduceSub, Nat.reduceLeDiff, Nat.reduceBEq, Nat.reduceDiv, Nat.reduceMod, Int.reduceToNat, Int.reduceLT, Int.reduceLE, Int.reduceAdd, Int.reduceSub, Int.reduceMul, Int.reduceEq, Int.reduceNeg, reduceCtorEq, resV, resAll, ARes.ev, LV.flat, ite_true, ite_false, exists_eq_left', exists_eq_left, keyOf, implies_true, fillC, capOf]
            rw [if_pos (by unfold closed; simp [ho, hc])] at hstep
            rw [cell_eta, hstep] at l2 ⊢
            exact ⟨m - 1, by omega, i + 1, _, _, by omega, rfl, pre_step hpre (by omega) l1 l3, live_step b1 (fun e => by have := b1.ne_esz bo (by decide); exact this e) l3, live_step bs (by omega) l3, live_step b3 (b3.ne_esz bo (by decide)) l3, live_step ba (by omega) l3, l2, by omega, by omega, by have := hpre.1; omega, by omega, by omega, f1, f3, rfl, f13, eqI (natI _)⟩
      · simp (disch := omega) only [f1, f3, f12, f13, f14, ↓SXd, SXu, slBounds, ↓sop, ↓aop, ↓reduceIte, LV.cells, AOp.dst, LV.I, LV.B, LV.U, LV.S, LV.nil, Nat.reduceEqDiff, Nat.reduceAdd, Nat.reduceMul, Nat.reduceSub, Nat.reduceLeDiff, Nat.reduceBEq, Nat.reduceDiv, Nat.reduceMod, Int.reduceToNat, Int.reduceLT, Int.reduceLE, Int.reduceAdd, Int.reduceSub, Int.reduceMul, Int.reduceEq, Int.reduceNeg, reduceCtorEq, resV, resAll, ARes.ev, LV.flat, ite_true, ite_false, exists_eq_left', exists_eq_left, keyOf, implies_true, fillC, capOf]
        have : i = (cellsOf x y z).length := by omega
        subst this
        rw [List.take_length] at hacc
        have : acc = pick x y z (closed x y z fun c => decide (c ∈ cs)) := hacc
        rw [← this]
        exact cmp_keepL hpre (by omega) bo (triL_lo acc) (by simp [rn, rn0, rn1])
end Go.Ab

/- The abstract code of some functions (written by a program of mine from the translation, by way of prepF). -/
namespace Go.Ab.C
open Go.Ab
def impl_box_parts : AFn :=
  ⟨2, 25, [.tmp 4],
    .seq (.ops [(none, .box 2 (.t 0)),
       (none, .mv 4 (.c .nil))])
    (.seq (.ops [(none, .buildSl 7 0 1 [] []),
        (none, .mv 5 (.t 7))])
     (.seq (.block 0 (.loop (.seq (.seq (.ops [(none, .mv 8 (.t 1)),
             (none, .bin 9 .neq (.t 8) (.c (.U 0)))])
          (.cond (.t 9) (.skip)
           (.exit 0)))
         (.block 1 (.seq (.ops [(none, .loadN 10 3 (.t 2)),
              (none, .mv 11 (.t 1)),
              (none, .mv 12 (.t 1)),
              (none, .un 13 .neg (.t 12)),
              (none, .bin 14 .and (.t 11) (.t 13)),
              (none, .mv 15 (.t 1)),
              (none, .call (some 16) F.impl_box_grown [(.t 10), (.t 14), (.t 15)]),
              (none, .mv 6 (.t 16))])
           (.seq (.ops [(none, .mv 17 (.t 5)),
               (none, .mv 18 (.t 6)),
               (none, .buildSl 19 1 1 [(.U 0)] [(0, 1, (.t 18))]),
               (none, .append 20 1 8 (.t 17) (.t 19)),
               (none, .mv 5 (.t 20))])
            (.ops [(none, .mv 21 (.t 1)),
               (none, .mv 22 (.t 6)),
               (none, .bin 23 .andNot (.t 21) (.t 22)),
               (none, .mv 1 (.t 23))])))))))
      (.seq (.ops [(none, .mv 24 (.t 5)),
          (none, .mv 4 (.t 24))])
       (.ret))))⟩
def impl_box_lists : AFn :=
  ⟨2, 23, [.tmp 4],
    .seq (.ops [(none, .box 2 (.t 0)),
       (none, .mv 4 (.c .nil))])
    (.seq (.ops [(none, .buildSl 8 0 1 [] []),
        (none, .mv 5 (.t 8))])
     (.seq (.seq (.ops [(none, .mv 9 (.t 1)),
          (none, .len 10 (.t 9)),
          (none, .mv 11 (.c (.I 0)))])
       (.block 0 (.loop (.seq (.ops [(none, .bin 12 .lss (.t 11) (.t 10))])
          (.seq (.cond (.t 12) (.skip)
            (.exit 0))
           (.seq (.block 1 (.seq (.ops [(none, .idxS 13 1 (.t 9) (.t 11)),
                 (none, .load1 14 (.t 13)),
                 (none, .mv 7 (.t 14))])
              (.ops [(none, .mv 15 (.t 5)),
                 (none, .loadN 16 3 (.t 2)),
                 (none, .mv 17 (.t 7)),
                 (none, .call (some 18) F.impl_box_list [(.t 16), (.t 17)]),
                 (none, .buildSl 19 1 1 [.nil] [(0, 1, (.t 18))]),
                 (none, .append 20 1 24 (.t 15) (.t 19)),
                 (none, .mv 5 (.t 20))])))
            (.ops [(none, .bin 21 .add (.t 11) (.c (.I 1))),
               (none, .mv 11 (.t 21))])))))))
      (.seq (.ops [(none, .mv 22 (.t 5)),
          (none, .mv 4 (.t 22))])
       (.ret))))⟩
def impl_CavitiesOf : AFn :=
  ⟨1, 12, [.tmp 2, .tmp 3],
    .seq (.ops [(none, .box 1 (.t 0)),
       (none, .mv 2 (.c .nil)),
       (none, .mv 3 (.c (.B false)))])
    (.seq (.seq (.ops [(none, .loadN 4 4 (.t 1)),
         (none, .call (some 5) F.impl_IsHeap [(.t 4)]),
         (none, .un 6 .not (.t 5))])
      (.cond (.t 6) (.seq (.ops [(none, .mv 2 (.c .nil)),
           (none, .mv 3 (.c (.B false)))])
        (.ret))
       (.skip)))
     (.seq (.draw [⟨(none, .loadN 7 4 (.t 1)), [], []⟩,
         ⟨(none, .loadN 9 4 (.t 1)), [], []⟩,
         ⟨(none, .call (some 8) F.impl_Heap_box [(.t 7)]), [], [1]⟩,
         ⟨(none, .call (some 10) F.impl_Heap_cavities [(.t 9)]), [], []⟩,
         ⟨(none, .call (some 11) F.impl_box_lists [(.t 8), (.t 10)]), [], []⟩,
         ⟨(none, .mv 2 (.t 11)), [], []⟩,
         ⟨(none, .mv 3 (.c (.B true))), [], []⟩])
      (.ret)))⟩
def impl_Heap_cavities : AFn :=
  ⟨1, 8, [.tmp 2],
    .seq (.ops [(none, .box 1 (.t 0)),
       (none, .mv 2 (.c .nil))])
    (.seq (.draw [⟨(none, .loadN 3 4 (.t 1)), [], []⟩,
        ⟨(none, .loadN 5 4 (.t 1)), [], []⟩,
        ⟨(none, .call (some 4) F.impl_Heap_box [(.t 3)]), [], [1]⟩,
        ⟨(none, .call (some 6) F.impl_Heap_enclosed [(.t 5)]), [], []⟩,
        ⟨(none, .call (some 7) F.impl_box_parts [(.t 4), (.t 6)]), [], []⟩,
        ⟨(none, .mv 2 (.t 7)), [], []⟩])
     (.ret))⟩
end Go.Ab.C

/- That the program has this code. -/
namespace Go.Ab.K
open Go Go.Ab
theorem impl_box_parts : prepF Go.Proofs.Try.prog F.impl_box_parts = some C.impl_box_parts := by kernel_rfl
theorem impl_box_lists : prepF Go.Proofs.Try.prog F.impl_box_lists = some C.impl_box_lists := by kernel_rfl
theorem impl_CavitiesOf : prepF Go.Proofs.Try.prog F.impl_CavitiesOf = some C.impl_CavitiesOf := by kernel_rfl
theorem impl_Heap_cavities : prepF Go.Proofs.Try.prog F.impl_Heap_cavities = some C.impl_Heap_cavities := by kernel_rfl
end Go.Ab.K
