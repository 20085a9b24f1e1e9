/- Parts of the proof of FnExactTunnelsOfSaid: Qa Bp Br C_Bq K_Bq Bq C_Qb K_Qb C_Pe K_Pe Pd. -/
import Derived.Test.YtebgcnpkhojejaaA7
import Derived.Test.YtebgcnpkhojejaaA4
import Derived.Test.YtebgcnpkhojejaaA5
import Derived.Test.YtebgcnpkhojejaaA3
import Derived.Test.YtebgcnpkhojejaaProg
import Derived.KernelRfl
import Derived.Test.YtebgcnpkhojejaaA6
set_option linter.all false
/- Contracts: parts of sets, lists of sets; the program's CavitiesOf. -/
namespace Go.Ab
open Go
set_option linter.unusedSimpArgs false
set_option linter.unusedVariables false

/-- Sets, as the elements of a slice. -/
def setL (x y z : Int) (L : List (List Cell)) : List LV := L.map fun l => .W (bs x y z fun d => decide (d ∈ l))
theorem setL_lo {x y z : Int} {n : Nat} {L : List (List Cell)} : (setL x y z L).all (LV.lo1 n) = true := by
  rw [List.all_eq_true]; intro v hv
  obtain ⟨l, _, rfl⟩ := List.mem_map.1 hv
  rfl
theorem setL_len {x y z : Int} {L : List (List Cell)} : (setL x y z L).length = L.length := by simp [setL]
section
variable {x y z : Int} (hS : Sides x y z)
include hS
theorem parts_congr' : ∀ {f : Nat} {p q : Cell → Bool}, (∀ c, c.inBox x y z → p c = q c) → parts x y z f p = parts x y z f q
  | 0, _, _, _ => rfl
  | f + 1, p, q, h => by
    have hp := pick_congr hS h
    have hr : ∀ c d, reach x y z (fun d => decide (d = c)) p d = reach x y z (fun d => decide (d = c)) q d := fun c d => by
      rw [Bool.eq_iff_iff, reach_iff, reach_iff]
      exact ⟨fun k => k.mono (fun e he h1 => .base he h1) fun e he h1 => by rw [← h e he]; exact h1, fun k => k.mono (fun e he h1 => .base he h1) fun e he h1 => by rw [h e he]; exact h1⟩
    simp only [parts]
    rw [hp]
    split
    · rfl
    · rename_i c rs hc
      rw [pick_congr hS fun d _ => hr c d, parts_congr' (f := f) fun d hd => by rw [h d hd, hr c d]]
theorem g_parts {q : Cell → Bool} {M : Mem} : CallsTo PG F.impl_box_parts [.agg [.I x, .I y, .I z], .W (bs x y z q)] M (.ref M.length 0 (parts x y z 65 q).length) (M ++ [some (.row (setL x y z (parts x y z 65 q)) true 1)]) := by
  refine calls_run K.impl_box_parts rfl ?_
  simp (disch := omega) only [C.impl_box_parts, ↓SXd, SXu, slBounds, ↓sop, ↓aop, ↓reduceIte, LV.cells, AOp.dst, LV.I, LV.B, LV.U, LV.S, LV.nil, Nat.reduceEqDiff, Nat.reduceAdd, Nat.reduceMul, Nat.reduceSub, Nat.reduceLeDiff, Nat.reduceBEq, Nat.reduceDiv, Nat.reduceMod, Int.reduceToNat, Int.reduceLT, Int.reduceLE, Int.reduceAdd, Int.reduceSub, Int.reduceMul, Int.reduceEq, Int.reduceNeg, reduceCtorEq, resV, resAll, ARes.ev, LV.flat, ite_true, ite_false, exists_eq_left', exists_eq_left, keyOf, implies_true, fillC, capOf]
  refine ev_loop (fun m fr M' => ∃ (p : Cell → Bool) (u : Nat) (L : List (List Cell)), parts x y z 65 q = L ++ parts x y z m p ∧ (pick x y z p).length < m ∧ L.length ≤ 65 ∧ Pre M M' ∧ Live M' M.length (.row [.I x, .I y, .I z] true 0) ∧ Live M' u (.row (setL x y z L) true 1) ∧ M.length < u ∧
    fr 1 = .W (bs x y z p) ∧ fr 2 = .ptr M.length 0 ∧ fr 5 = .ref u 0 L.length) 65
    ⟨q, M.length + 1, [], rfl, by have := pick_len hS q; omega, by simp, Pre.app _ _, Live.new, Live.newj rfl, by omega, rfl, rfl, rfl⟩ ?_
  rintro m fr M' ⟨p, u, L, hparts, hfuel, hL, hpre, hbox, hout, hu, f1, f2, f5⟩
  obtain ⟨m', rfl⟩ : ∃ m', m = m' + 1 := ⟨m - 1, by omega⟩
  simp (disch := omega) only [f1, f2, f5, ↓SXd, SXu, slBounds, ↓sop, ↓aop, ↓reduceIte, LV.cells, AOp.dst, LV.I, LV.B, LV.U, LV.S, LV.nil, Nat.reduceEqDiff, Nat.reduceAdd, Nat.reduceMul, Nat.reduceSub, Nat.reduceLeDiff, Nat.reduceBEq, Nat.reduceDiv, Nat.reduceMod, Int.reduceToNat, Int.reduceLT, Int.reduceLE, Int.reduceAdd, Int.reduceSub, Int.reduceMul, Int.reduceEq, Int.reduceNeg, reduceCtorEq, resV, resAll, ARes.ev, LV.flat, ite_true, ite_false, exists_eq_left', exists_eq_left, keyOf, implies_true, fillC, capOf]
  by_cases hz : bs x y z p = 0#64
  · simp (disch := omega) only [f1, f2, f5, hz, ↓SXd, SXu, slBounds, ↓sop, ↓aop, ↓reduceIte, LV.cells, AOp.dst, LV.I, LV.B, LV.U, LV.S, LV.nil, Nat.reduceEqDiff, Nat.reduceAdd, Nat.reduceMul, Nat.reduceSub, Nat.reduceLeDiff, Nat.reduceBEq, Nat.reduceDiv, Nat.reduceMod, Int.reduceToNat, Int.reduceLT, Int.reduceLE, Int.reduceAdd, Int.reduceSub, Int.reduceMul, Int.reduceEq, Int.reduceNeg, reduceCtorEq, resV, resAll, ARes.ev, LV.flat, ite_true, ite_false, exists_eq_left', exists_eq_left, keyOf, implies_true, fillC, capOf]
    have hnil : pick x y z p = [] := by
      have := (bs_zero hS).1 hz
      unfold pick; rw [List.filter_eq_nil_iff]
      intro c hc; rw [this c ((mem_cellsOf hS).1 hc)]; simp
    rw [show parts x y z (m' + 1) p = [] by simp only [parts, hnil], List.append_nil] at hparts
    rw [hparts]
    exact cmp_keepL hpre (by omega) hout setL_lo (by simp [rn, rn0, rn1])
  · obtain ⟨c, rs, hpk⟩ : ∃ c rs, pick x y z p = c :: rs := by
      cases hh : pick x y z p with
      | nil => exact absurd ((bs_zero hS).2 fun c hc => by
          cases hpc : p c with
          | false => rfl
          | true => have := (mem_pick hS).2 ⟨hc, hpc⟩; rw [hh] at this; cases this) hz
      | cons c rs => exact ⟨c, rs, rfl⟩
    have hcq := (mem_pick hS (p := p) (c := c)).1 (by rw [hpk]; simp)
    have hlow : ∀ d, d.inBox x y z → p d = true → ¬ d.lt c := fun d hd hpd hlt => by
      have hm := (mem_pick hS).2 ⟨hd, hpd⟩
      have hs := pick_sorted hS p
      rw [hpk] at hm hs
      rcases List.mem_cons.1 hm with rfl | hm
      · exact Cell.lt_irrefl _ hlt
      · exact Cell.lt_irrefl _ (Cell.lt_trans hlt ((List.pairwise_cons.1 hs).1 d hm))
    have hpp : parts x y z (m' + 1) p = pick x y z (reach x y z (fun d => decide (d = c)) p) :: parts x y z m' fun d => p d && !reach x y z (fun d => decide (d = c)) p d := by simp only [parts, hpk]
    rw [hpp] at hparts
    simp (disch := omega) only [f1, f2, f5, hz, hbox.cells, ↓SXd, SXu, slBounds, ↓sop, ↓aop, ↓reduceIte, LV.cells, AOp.dst, LV.I, LV.B, LV.U, LV.S, LV.nil, Nat.reduceEqDiff, Nat.reduceAdd, Nat.reduceMul, Nat.reduceSub, Nat.reduceLeDiff, Nat.reduceBEq, Nat.reduceDiv, Nat.reduceMod, Int.reduceToNat, Int.reduceLT, Int.reduceLE, Int.reduceAdd, Int.reduceSub, Int.reduceMul, Int.reduceEq, Int.reduceNeg, reduceCtorEq, resV, resAll, ARes.ev, LV.flat, ite_true, ite_false, exists_eq_left', exists_eq_left, keyOf, implies_true, fillC, capOf]
    rw [bs_low hS hcq.1 hcq.2 hlow]
    refine callK_of (g_grown hS) ?_
    simp (disch := omega) only [f1, f2, f5, ↓SXd, SXu, slBounds, ↓sop, ↓aop, ↓reduceIte, LV.cells, AOp.dst, LV.I, LV.B, LV.U, LV.S, LV.nil, Nat.reduceEqDiff, Nat.reduceAdd, Nat.reduceMul, Nat.reduceSub, Nat.reduceLeDiff, Nat.reduceBEq, Nat.reduceDiv, Nat.reduceMod, Int.reduceToNat, Int.reduceLT, Int.reduceLE, Int.reduceAdd, Int.reduceSub, Int.reduceMul, Int.reduceEq, Int.reduceNeg, reduceCtorEq, resV, resAll, ARes.ev, LV.flat, ite_true, ite_false, exists_eq_left', exists_eq_left, keyOf, implies_true, fillC, capOf]
    refine appendK_1 (acc := setL x y z L) (new := [.W (bs x y z (reach x y z (fun d => decide (d = c)) p))]) hout (by rw [setL_len]; omega) rfl (by omega) (by omega) (by omega) fun N' l1 l2 l3 => ?_
    simp (disch := omega) only [f1, f2, f5, ↓SXd, SXu, slBounds, ↓sop, ↓aop, ↓reduceIte, LV.cells, AOp.dst, LV.I, LV.B, LV.U, LV.S, LV.nil, Nat.reduceEqDiff, Nat.reduceAdd, Nat.reduceMul, Nat.reduceSub, Nat.reduceLeDiff, Nat.reduceBEq, Nat.reduceDiv, Nat.reduceMod, Int.reduceToNat, Int.reduceLT, Int.reduceLE, Int.reduceAdd, Int.reduceSub, Int.reduceMul, Int.reduceEq, Int.reduceNeg, reduceCtorEq, resV, resAll, ARes.ev, LV.flat, ite_true, ite_false, exists_eq_left', exists_eq_left, keyOf, implies_true, fillC, capOf]
    rw [bs_diff hS]
    refine ⟨m', by omega, fun d => p d && !reach x y z (fun d => decide (d = c)) p d, M'.length + 1, L ++ [pick x y z (reach x y z (fun d => decide (d = c)) p)], ?_, ?_, ?_, pre_step hpre (by omega) l1 l3, live_step hbox (by omega) l3, ?_, by have := hpre.1; omega, rfl, f2, ?_⟩
    · rw [hparts, List.append_assoc]; rfl
    · have := filter_lt hS (l := cellsOf x y z) (p := fun d => p d && !reach x y z (fun d => decide (d = c)) p d) (q := p) (fun a _ ha => by simp only [Bool.and_eq_true] at ha; exact ha.1)
        ⟨c, (mem_cellsOf hS).2 hcq.1, hcq.2, by rw [(reach_iff (c := c)).2 (.base hcq.1 (by simp))]; simp⟩
      unfold pick at hfuel ⊢
      omega
    · have h1 := parts_len (x := x) (y := y) (z := z) 65 q
      have h2 := congrArg List.length hparts
      simp only [List.length_append, List.length_cons] at h2
      simp; omega
    · rw [show setL x y z (L ++ [pick x y z (reach x y z (fun d => decide (d = c)) p)]) = setL x y z L ++ [.W (bs x y z (reach x y z (fun d => decide (d = c)) p))] by
        unfold setL
        rw [List.map_append, List.map_singleton]
        rw [(bs_eq hS).2 fun d hd => show decide (d ∈ pick x y z (reach x y z (fun d => decide (d = c)) p)) = reach x y z (fun d => decide (d = c)) p d by
          rw [Bool.eq_iff_iff, decide_eq_true_iff, mem_pick hS]; exact ⟨fun h => h.2, fun h => ⟨hd, h⟩⟩]]
      exact l2
    · rw [List.length_append, List.length_singleton]; rfl

end

noncomputable def cavOf (x y z : Int) (cs : List Cell) : Option (List (List Cell)) := by
  classical
  exact if HeapOK x y z cs then some (parts x y z 65 (closed x y z fun c => decide (c ∈ cs))) else none
theorem g_cavities {x y z : Int} {t o : Nat} {cs : List Cell} {M : Mem} (h : Tri M t o cs) (hn : cs.length ≤ 1000000000) (hH : HeapOK x y z cs) :
    CallsTo PG F.impl_Heap_cavities [.agg [.I x, .I y, .I z, .ref t o cs.length]] M (.ref M.length 0 (parts x y z 65 (closed x y z fun c => decide (c ∈ cs))).length) (M ++ [some (.row (setL x y z (parts x y z 65 (closed x y z fun c => decide (c ∈ cs)))) true 1)]) := by
  have hS := hH.1
  refine calls_run K.impl_Heap_cavities rfl ?_
  simp (disch := omega) only [C.impl_Heap_cavities, ↓SXd, SXu, slBounds, ↓sop, ↓aop, ↓reduceIte, LV.cells, AOp.dst, LV.I, LV.B, LV.U, LV.S, LV.nil, Nat.reduceEqDiff, Nat.reduceAdd, Nat.reduceMul, Nat.reduceSub, Nat.reduceLeDiff, Nat.reduceBEq, Nat.reduceDiv, Nat.reduceMod, Int.reduceToNat, Int.reduceLT, Int.reduceLE, Int.reduceAdd, Int.reduceSub, Int.reduceMul, Int.reduceEq, Int.reduceNeg, reduceCtorEq, resV, resAll, ARes.ev, LV.flat, ite_true, ite_false, exists_eq_left', exists_eq_left, keyOf, implies_true, fillC, capOf]
  refine callK_of (g_box) ?_
  simp (disch := omega) only [↓SXd, SXu, slBounds, ↓sop, ↓aop, ↓reduceIte, LV.cells, AOp.dst, LV.I, LV.B, LV.U, LV.S, LV.nil, Nat.reduceEqDiff, Nat.reduceAdd, Nat.reduceMul, Nat.reduceSub, Nat.reduceLeDiff, Nat.reduceBEq, Nat.reduceDiv, Nat.reduceMod, Int.reduceToNat, Int.reduceLT, Int.reduceLE, Int.reduceAdd, Int.reduceSub, Int.reduceMul, Int.reduceEq, Int.reduceNeg, reduceCtorEq, resV, resAll, ARes.ev, LV.flat, ite_true, ite_false, exists_eq_left', exists_eq_left, keyOf, implies_true, fillC, capOf]
  refine callK_of (g_enclosed h.app hn hH) ?_
  simp (disch := omega) only [↓SXd, SXu, slBounds, ↓sop, ↓aop, ↓reduceIte, LV.cells, AOp.dst, LV.I, LV.B, LV.U, LV.S, LV.nil, Nat.reduceEqDiff, Nat.reduceAdd, Nat.reduceMul, Nat.reduceSub, Nat.reduceLeDiff, Nat.reduceBEq, Nat.reduceDiv, Nat.reduceMod, Int.reduceToNat, Int.reduceLT, Int.reduceLE, Int.reduceAdd, Int.reduceSub, Int.reduceMul, Int.reduceEq, Int.reduceNeg, reduceCtorEq, resV, resAll, ARes.ev, LV.flat, ite_true, ite_false, exists_eq_left', exists_eq_left, keyOf, implies_true, fillC, capOf]
  refine callK_of (g_parts hS) ?_
  simp (disch := omega) only [↓SXd, SXu, slBounds, ↓sop, ↓aop, ↓reduceIte, LV.cells, AOp.dst, LV.I, LV.B, LV.U, LV.S, LV.nil, Nat.reduceEqDiff, Nat.reduceAdd, Nat.reduceMul, Nat.reduceSub, Nat.reduceLeDiff, Nat.reduceBEq, Nat.reduceDiv, Nat.reduceMod, Int.reduceToNat, Int.reduceLT, Int.reduceLE, Int.reduceAdd, Int.reduceSub, Int.reduceMul, Int.reduceEq, Int.reduceNeg, reduceCtorEq, resV, resAll, ARes.ev, LV.flat, ite_true, ite_false, exists_eq_left', exists_eq_left, keyOf, implies_true, fillC, capOf]
  exact cmp_keep1 (j := 1) rfl setL_lo (by simp [rn, rn0, rn1, keepR_n])

end Go.Ab

/- Contracts: clusters of the program. -/
namespace Go.Ab
open Go
set_option linter.unusedSimpArgs false
set_option linter.unusedVariables false

theorem g_clusters_1 {x y z : Int} (hS : Sides x y z) {c d : Cell} {u : Nat} {M : Mem} (h : Live M u (.row [.I c.a, .I c.b, .I c.c] true 0)) (hc : c.inBox x y z) (hd : d.inBox x y z) :
    CallsTo PG F.impl_Heap_clusters_1 [.agg [.I d.a, .I d.b, .I d.c], .ptr u 0] M (.B (touchC c d)) M := by
  refine calls_run K.impl_Heap_clusters_1 rfl ?_
  obtain ⟨⟨_, _⟩, ⟨_, _⟩, _, _⟩ := id hS
  obtain ⟨⟨_, _⟩, ⟨_, _⟩, _, _⟩ := hc
  obtain ⟨⟨_, _⟩, ⟨_, _⟩, _, _⟩ := hd
  simp (disch := omega) only [C.impl_Heap_clusters_1, h.app.cell, ↓SXd, SXu, slBounds, ↓sop, ↓aop, ↓reduceIte, LV.cells, AOp.dst, LV.I, LV.B, LV.U, LV.S, LV.nil, Nat.reduceEqDiff, Nat.reduceAdd, Nat.reduceMul, Nat.reduceSub, Nat.reduceLeDiff, Nat.reduceBEq, Nat.reduceDiv, Nat.reduceMod, Int.reduceToNat, Int.reduceLT, Int.reduceLE, Int.reduceAdd, Int.reduceSub, Int.reduceMul, Int.reduceEq, Int.reduceNeg, reduceCtorEq, resV, resAll, ARes.ev, LV.flat, ite_true, ite_false, exists_eq_left', exists_eq_left, keyOf, implies_true, fillC, capOf]
  refine callK_of (g_within) ?_
  simp (disch := omega) only [↓SXd, SXu, slBounds, ↓sop, ↓aop, ↓reduceIte, LV.cells, AOp.dst, LV.I, LV.B, LV.U, LV.S, LV.nil, Nat.reduceEqDiff, Nat.reduceAdd, Nat.reduceMul, Nat.reduceSub, Nat.reduceLeDiff, Nat.reduceBEq, Nat.reduceDiv, Nat.reduceMod, Int.reduceToNat, Int.reduceLT, Int.reduceLE, Int.reduceAdd, Int.reduceSub, Int.reduceMul, Int.reduceEq, Int.reduceNeg, reduceCtorEq, resV, resAll, ARes.ev, LV.flat, ite_true, ite_false, exists_eq_left', exists_eq_left, keyOf, implies_true, fillC, capOf]
  unfold touchC
  by_cases h1 : -1 ≤ c.a - d.a ∧ c.a - d.a ≤ 1
  · simp (disch := omega) only [h1, h.app.cell, ↓SXd, SXu, slBounds, ↓sop, ↓aop, ↓reduceIte, LV.cells, AOp.dst, LV.I, LV.B, LV.U, LV.S, LV.nil, Nat.reduceEqDiff, Nat.reduceAdd, Nat.reduceMul, Nat.reduceSub, Nat.reduceLeDiff, Nat.reduceBEq, Nat.reduceDiv, Nat.reduceMod, Int.reduceToNat, Int.reduceLT, Int.reduceLE, Int.reduceAdd, Int.reduceSub, Int.reduceMul, Int.reduceEq, Int.reduceNeg, reduceCtorEq, resV, resAll, ARes.ev, LV.flat, ite_true, ite_false, exists_eq_left', exists_eq_left, keyOf, implies_true, fillC, capOf]
    refine callK_of (g_within) ?_
    simp (disch := omega) only [↓SXd, SXu, slBounds, ↓sop, ↓aop, ↓reduceIte, LV.cells, AOp.dst, LV.I, LV.B, LV.U, LV.S, LV.nil, Nat.reduceEqDiff, Nat.reduceAdd, Nat.reduceMul, Nat.reduceSub, Nat.reduceLeDiff, Nat.reduceBEq, Nat.reduceDiv, Nat.reduceMod, Int.reduceToNat, Int.reduceLT, Int.reduceLE, Int.reduceAdd, Int.reduceSub, Int.reduceMul, Int.reduceEq, Int.reduceNeg, reduceCtorEq, resV, resAll, ARes.ev, LV.flat, ite_true, ite_false, exists_eq_left', exists_eq_left, keyOf, implies_true, fillC, capOf]
    by_cases h2 : -1 ≤ c.b - d.b ∧ c.b - d.b ≤ 1
    · simp (disch := omega) only [h1, h2, h.app.cell, ↓SXd, SXu, slBounds, ↓sop, ↓aop, ↓reduceIte, LV.cells, AOp.dst, LV.I, LV.B, LV.U, LV.S, LV.nil, Nat.reduceEqDiff, Nat.reduceAdd, Nat.reduceMul, Nat.reduceSub, Nat.reduceLeDiff, Nat.reduceBEq, Nat.reduceDiv, Nat.reduceMod, Int.reduceToNat, Int.reduceLT, Int.reduceLE, Int.reduceAdd, Int.reduceSub, Int.reduceMul, Int.reduceEq, Int.reduceNeg, reduceCtorEq, resV, resAll, ARes.ev, LV.flat, ite_true, ite_false, exists_eq_left', exists_eq_left, keyOf, implies_true, fillC, capOf]
      refine callK_of (g_within) ?_
      simp (disch := omega) only [↓SXd, SXu, slBounds, ↓sop, ↓aop, ↓reduceIte, LV.cells, AOp.dst, LV.I, LV.B, LV.U, LV.S, LV.nil, Nat.reduceEqDiff, Nat.reduceAdd, Nat.reduceMul, Nat.reduceSub, Nat.reduceLeDiff, Nat.reduceBEq, Nat.reduceDiv, Nat.reduceMod, Int.reduceToNat, Int.reduceLT, Int.reduceLE, Int.reduceAdd, Int.reduceSub, Int.reduceMul, Int.reduceEq, Int.reduceNeg, reduceCtorEq, resV, resAll, ARes.ev, LV.flat, ite_true, ite_false, exists_eq_left', exists_eq_left, keyOf, implies_true, fillC, capOf]
      exact cmp_drop rfl
    · simp (disch := omega) only [h1, h2, ↓SXd, SXu, slBounds, ↓sop, ↓aop, ↓reduceIte, LV.cells, AOp.dst, LV.I, LV.B, LV.U, LV.S, LV.nil, Nat.reduceEqDiff, Nat.reduceAdd, Nat.reduceMul, Nat.reduceSub, Nat.reduceLeDiff, Nat.reduceBEq, Nat.reduceDiv, Nat.reduceMod, Int.reduceToNat, Int.reduceLT, Int.reduceLE, Int.reduceAdd, Int.reduceSub, Int.reduceMul, Int.reduceEq, Int.reduceNeg, reduceCtorEq, resV, resAll, ARes.ev, LV.flat, ite_true, ite_false, exists_eq_left', exists_eq_left, keyOf, implies_true, fillC, capOf]
      exact cmp_drop rfl
  · simp (disch := omega) only [h1, ↓SXd, SXu, slBounds, ↓sop, ↓aop, ↓reduceIte, LV.cells, AOp.dst, LV.I, LV.B, LV.U, LV.S, LV.nil, Nat.reduceEqDiff, Nat.reduceAdd, Nat.reduceMul, Nat.reduceSub, Nat.reduceLeDiff, Nat.reduceBEq, Nat.reduceDiv, Nat.reduceMod, Int.reduceToNat, Int.reduceLT, Int.reduceLE, Int.reduceAdd, Int.reduceSub, Int.reduceMul, Int.reduceEq, Int.reduceNeg, reduceCtorEq, resV, resAll, ARes.ev, LV.flat, ite_true, ite_false, exists_eq_left', exists_eq_left, keyOf, implies_true, fillC, capOf]
    exact cmp_drop rfl

section
variable {x y z : Int} (hS : Sides x y z)
include hS
theorem g_clusters {t o : Nat} {cs : List Cell} {M : Mem} (h : Tri M t o cs) (hn : cs.length ≤ 1000000000) (hin : ∀ c ∈ cs, c.inBox x y z) :
    CallsTo PG F.impl_Heap_clusters [.agg [.I x, .I y, .I z, .ref t o cs.length]] M (.ref M.length 0 (clus x y z 65 fun c => decide (c ∈ cs)).length) (M ++ [some (.row (setL x y z (clus x y z 65 fun c => decide (c ∈ cs))) true 1)]) := by
  refine calls_run K.impl_Heap_clusters rfl ?_
  simp (disch := omega) only [C.impl_Heap_clusters, ↓SXd, SXu, slBounds, ↓sop, ↓aop, ↓reduceIte, LV.cells, AOp.dst, LV.I, LV.B, LV.U, LV.S, LV.nil, Nat.reduceEqDiff, Nat.reduceAdd, Nat.reduceMul, Nat.reduceSub, Nat.reduceLeDiff, Nat.reduceBEq, Nat.reduceDiv, Nat.reduceMod, Int.reduceToNat, Int.reduceLT, Int.reduceLE, Int.reduceAdd, Int.reduceSub, Int.reduceMul, Int.reduceEq, Int.reduceNeg, reduceCtorEq, resV, resAll, ARes.ev, LV.flat, ite_true, ite_false, exists_eq_left', exists_eq_left, keyOf, implies_true, fillC, capOf]
  refine callK_of (g_box) ?_
  simp (disch := omega) only [↓SXd, SXu, slBounds, ↓sop, ↓aop, ↓reduceIte, LV.cells, AOp.dst, LV.I, LV.B, LV.U, LV.S, LV.nil, Nat.reduceEqDiff, Nat.reduceAdd, Nat.reduceMul, Nat.reduceSub, Nat.reduceLeDiff, Nat.reduceBEq, Nat.reduceDiv, Nat.reduceMod, Int.reduceToNat, Int.reduceLT, Int.reduceLE, Int.reduceAdd, Int.reduceSub, Int.reduceMul, Int.reduceEq, Int.reduceNeg, reduceCtorEq, resV, resAll, ARes.ev, LV.flat, ite_true, ite_false, exists_eq_left', exists_eq_left, keyOf, implies_true, fillC, capOf]
  refine callK_of (g_cubes h.app hn hS hin) ?_
  simp (disch := omega) only [splice, ↓SXd, SXu, slBounds, ↓sop, ↓aop, ↓reduceIte, LV.cells, AOp.dst, LV.I, LV.B, LV.U, LV.S, LV.nil, Nat.reduceEqDiff, Nat.reduceAdd, Nat.reduceMul, Nat.reduceSub, Nat.reduceLeDiff, Nat.reduceBEq, Nat.reduceDiv, Nat.reduceMod, Int.reduceToNat, Int.reduceLT, Int.reduceLE, Int.reduceAdd, Int.reduceSub, Int.reduceMul, Int.reduceEq, Int.reduceNeg, reduceCtorEq, resV, resAll, ARes.ev, LV.flat, ite_true, ite_false, exists_eq_left', exists_eq_left, keyOf, implies_true, fillC, capOf]
  refine ev_loop (fun m fr M' => ∃ (p : Cell → Bool) (u : Nat) (L : List (List Cell)), clus x y z 65 (fun c => decide (c ∈ cs)) = L ++ clus x y z m p ∧ (pick x y z p).length < m ∧ L.length ≤ 65 ∧ Pre M M' ∧ Live M' (M.length + 2) (.row [.I x, .I y, .I z] true 0) ∧ Live M' u (.row (setL x y z L) true 1) ∧ M.length < u ∧
    fr 3 = .ptr (M.length + 2) 0 ∧ fr 4 = .W (bs x y z p) ∧ fr 5 = .ref u 0 L.length) 65
    ⟨fun c => decide (c ∈ cs), M.length + 1, [], rfl, by have := pick_len hS fun c => decide (c ∈ cs); omega, by simp, Pre.app _ _, Live.newj rfl, Live.newj rfl, by omega, rfl, rfl, rfl⟩ ?_
  rintro m fr M' ⟨p, u, L, hparts, hfuel, hL, hpre, hbox, hout, hu, f3, f4, f5⟩
  obtain ⟨m', rfl⟩ : ∃ m', m = m' + 1 := ⟨m - 1, by omega⟩
  simp (disch := omega) only [f3, f4, f5, ↓SXd, SXu, slBounds, ↓sop, ↓aop, ↓reduceIte, LV.cells, AOp.dst, LV.I, LV.B, LV.U, LV.S, LV.nil, Nat.reduceEqDiff, Nat.reduceAdd, Nat.reduceMul, Nat.reduceSub, Nat.reduceLeDiff, Nat.reduceBEq, Nat.reduceDiv, Nat.reduceMod, Int.reduceToNat, Int.reduceLT, Int.reduceLE, Int.reduceAdd, Int.reduceSub, Int.reduceMul, Int.reduceEq, Int.reduceNeg, reduceCtorEq, resV, resAll, ARes.ev, LV.flat, ite_true, ite_false, exists_eq_left', exists_eq_left, keyOf, implies_true, fillC, capOf]
  by_cases hz : bs x y z p = 0#64
  · simp (disch := omega) only [f3, f4, f5, hz, ↓SXd, SXu, slBounds, ↓sop, ↓aop, ↓reduceIte, LV.cells, AOp.dst, LV.I, LV.B, LV.U, LV.S, LV.nil, Nat.reduceEqDiff, Nat.reduceAdd, Nat.reduceMul, Nat.reduceSub, Nat.reduceLeDiff, Nat.reduceBEq, Nat.reduceDiv, Nat.reduceMod, Int.reduceToNat, Int.reduceLT, Int.reduceLE, Int.reduceAdd, Int.reduceSub, Int.reduceMul, Int.reduceEq, Int.reduceNeg, reduceCtorEq, resV, resAll, ARes.ev, LV.flat, ite_true, ite_false, exists_eq_left', exists_eq_left, keyOf, implies_true, fillC, capOf]
    have hnil : pick x y z p = [] := by
      have := (bs_zero hS).1 hz
      unfold pick; rw [List.filter_eq_nil_iff]
      intro c hc; rw [this c ((mem_cellsOf hS).1 hc)]; simp
    rw [show clus x y z (m' + 1) p = [] by simp only [clus, hnil], List.append_nil] at hparts
    rw [hparts]
    exact cmp_keepL hpre (by omega) hout setL_lo (by simp [rn, rn0, rn1])
  obtain ⟨c, rs, hpk⟩ : ∃ c rs, pick x y z p = c :: rs := by
    cases hh : pick x y z p with
    | nil => exact absurd ((bs_zero hS).2 fun c hc => by
        cases hpc : p c with
        | false => rfl
        | true => have := (mem_pick hS).2 ⟨hc, hpc⟩; rw [hh] at this; cases this) hz
    | cons c rs => exact ⟨c, rs, rfl⟩
  have hcq := (mem_pick hS (p := p) (c := c)).1 (by rw [hpk]; simp)
  have hlow : ∀ d, d.inBox x y z → p d = true → ¬ d.lt c := fun d hd hpd hlt => by
    have hm := (mem_pick hS).2 ⟨hd, hpd⟩
    have hs := pick_sorted hS p
    rw [hpk] at hm hs
    rcases List.mem_cons.1 hm with rfl | hm
    · exact Cell.lt_irrefl _ hlt
    · exact Cell.lt_irrefl _ (Cell.lt_trans hlt ((List.pairwise_cons.1 hs).1 d hm))
  have hpp : clus x y z (m' + 1) p = pick x y z (reachT x y z (fun d => decide (d = c)) p) :: clus x y z m' fun d => p d && !reachT x y z (fun d => decide (d = c)) p d := by simp only [clus, hpk]
  rw [hpp] at hparts
  simp (disch := omega) only [f3, f4, f5, hz, ↓SXd, SXu, slBounds, ↓sop, ↓aop, ↓reduceIte, LV.cells, AOp.dst, LV.I, LV.B, LV.U, LV.S, LV.nil, Nat.reduceEqDiff, Nat.reduceAdd, Nat.reduceMul, Nat.reduceSub, Nat.reduceLeDiff, Nat.reduceBEq, Nat.reduceDiv, Nat.reduceMod, Int.reduceToNat, Int.reduceLT, Int.reduceLE, Int.reduceAdd, Int.reduceSub, Int.reduceMul, Int.reduceEq, Int.reduceNeg, reduceCtorEq, resV, resAll, ARes.ev, LV.flat, ite_true, ite_false, exists_eq_left', exists_eq_left, keyOf, implies_true, fillC, capOf]
  rw [bs_low hS hcq.1 hcq.2 hlow]
  refine ev_loop (fun m fr N => ∃ r : Cell → Bool, rest x y z r = m ∧ (∀ d, d.inBox x y z → decide (d = c) = true → r d = true) ∧ (∀ d, d.inBox x y z → r d = true → ReachT x y z (fun d => decide (d = c)) p d) ∧ Pre M' N ∧
    fr 3 = .ptr (M.length + 2) 0 ∧ fr 4 = .W (bs x y z p) ∧ fr 5 = .ref u 0 L.length ∧ fr 6 = .W (bs x y z r)) (rest x y z fun d => decide (d = c))
    ⟨fun d => decide (d = c), rfl, fun _ _ h => h, fun _ h1 h2 => .base h1 h2, Pre.refl _, f3, f4, f5, rfl⟩ ?_
  clear f3 f4 f5
  rintro m fr N ⟨r, hm, hr0, hr1, hp1, f3, f4, f5, f6⟩
  have hbox1 := hbox.pre hp1
  simp (disch := omega) only [f3, f4, f5, f6, hbox1.cells, ↓SXd, SXu, slBounds, ↓sop, ↓aop, ↓reduceIte, LV.cells, AOp.dst, LV.I, LV.B, LV.U, LV.S, LV.nil, Nat.reduceEqDiff, Nat.reduceAdd, Nat.reduceMul, Nat.reduceSub, Nat.reduceLeDiff, Nat.reduceBEq, Nat.reduceDiv, Nat.reduceMod, Int.reduceToNat, Int.reduceLT, Int.reduceLE, Int.reduceAdd, Int.reduceSub, Int.reduceMul, Int.reduceEq, Int.reduceNeg, reduceCtorEq, resV, resAll, ARes.ev, LV.flat, ite_true, ite_false, exists_eq_left', exists_eq_left, keyOf, implies_true, fillC, capOf]
  refine callN_of (g_list hS (p := r)) ?_
  intro t1 N1 ht1 hp2 hr
  simp (disch := omega) only [f3, f4, f5, f6, ↓SXd, SXu, slBounds, ↓sop, ↓aop, ↓reduceIte, LV.cells, AOp.dst, LV.I, LV.B, LV.U, LV.S, LV.nil, Nat.reduceEqDiff, Nat.reduceAdd, Nat.reduceMul, Nat.reduceSub, Nat.reduceLeDiff, Nat.reduceBEq, Nat.reduceDiv, Nat.reduceMod, Int.reduceToNat, Int.reduceLT, Int.reduceLE, Int.reduceAdd, Int.reduceSub, Int.reduceMul, Int.reduceEq, Int.reduceNeg, reduceCtorEq, resV, resAll, ARes.ev, LV.flat, ite_true, ite_false, exists_eq_left', exists_eq_left, keyOf, implies_true, fillC, capOf]
  have hbox2 := hbox1.pre hp2
  have hlr := pick_len hS r
  refine ev_loop (fun m2 fr W => ∃ k : Nat, k + m2 = (pick x y z r).length ∧ Pre N1 W ∧ fr 3 = .ptr (M.length + 2) 0 ∧ fr 4 = .W (bs x y z p) ∧ fr 5 = .ref u 0 L.length ∧ fr 6 = .W (bs x y z r) ∧ fr 7 = .W (bs x y z (growT r p ((pick x y z r).take k))) ∧
    fr 24 = .ref t1 0 (pick x y z r).length ∧ fr 25 = .I ((pick x y z r).length : Nat) ∧ fr 26 = .I k) (pick x y z r).length
    ⟨0, by omega, Pre.refl _, f3, f4, f5, f6, by rw [show growT r p ((pick x y z r).take 0) = r by funext d; simp [growT]]; rfl, rfl, rfl, rfl⟩ ?_
  clear f3 f4 f5 f6
  rintro m2 fr W ⟨k, hk, hp3, f3, f4, f5, f6, f7, f24, f25, f26⟩
  simp (disch := omega) only [f3, f4, f5, f6, f7, f24, f25, f26, ↓SXd, SXu, slBounds, ↓sop, ↓aop, ↓reduceIte, LV.cells, AOp.dst, LV.I, LV.B, LV.U, LV.S, LV.nil, Nat.reduceEqDiff, Nat.reduceAdd, Nat.reduceMul, Nat.reduceSub, Nat.reduceLeDiff, Nat.reduceBEq, Nat.reduceDiv, Nat.reduceMod, Int.reduceToNat, Int.reduceLT, Int.reduceLE, Int.reduceAdd, Int.reduceSub, Int.reduceMul, Int.reduceEq, Int.reduceNeg, reduceCtorEq, resV, resAll, ARes.ev, LV.flat, ite_true, ite_false, exists_eq_left', exists_eq_left, keyOf, implies_true, fillC, capOf]
  refine condC_dec (fun hlt => ?_) (fun hlt => ?_)
  · have hkl : k < (pick x y z r).length := by omega
    have hrk := (hr.pre hp3).tri0 hkl
    have hcm := (mem_pick hS).1 (getD_mem' (d := default) hkl)
    have hbox3 := hbox2.pre hp3
    simp (disch := omega) only [f3, f4, f5, f6, f7, f24, f25, f26, hrk, Cell.row, splice, hbox3.app.cells, ↓SXd, SXu, slBounds, ↓sop, ↓aop, ↓reduceIte, LV.cells, AOp.dst, LV.I, LV.B, LV.U, LV.S, LV.nil, Nat.reduceEqDiff, Nat.reduceAdd, Nat.reduceMul, Nat.reduceSub, Nat.reduceLeDiff, Nat.reduceBEq, Nat.reduceDiv, Nat.reduceMod, Int.reduceToNat, Int.reduceLT, Int.reduceLE, Int.reduceAdd, Int.reduceSub, Int.reduceMul, Int.reduceEq, Int.reduceNeg, reduceCtorEq, resV, resAll, ARes.ev, LV.flat, ite_true, ite_false, exists_eq_left', exists_eq_left, keyOf, implies_true, fillC, capOf]
    refine callK_of (g_those hS (p := fun d => touchC ((pick x y z r).getD k default) d) (f := F.impl_Heap_clusters_1) (caps := [(W.length, 0)]) fun M3 hp j hj => ?_) ?_
    · exact g_clusters_1 hS (Live.new.pre hp) hcm.1 (cellAt_in hS (by omega) (by have := (vol_cast hS); omega)).1
    simp (disch := omega) only [f3, f4, f5, f6, f7, f24, f25, f26, ↓SXd, SXu, slBounds, ↓sop, ↓aop, ↓reduceIte, LV.cells, AOp.dst, LV.I, LV.B, LV.U, LV.S, LV.nil, Nat.reduceEqDiff, Nat.reduceAdd, Nat.reduceMul, Nat.reduceSub, Nat.reduceLeDiff, Nat.reduceBEq, Nat.reduceDiv, Nat.reduceMod, Int.reduceToNat, Int.reduceLT, Int.reduceLE, Int.reduceAdd, Int.reduceSub, Int.reduceMul, Int.reduceEq, Int.reduceNeg, reduceCtorEq, resV, resAll, ARes.ev, LV.flat, ite_true, ite_false, exists_eq_left', exists_eq_left, keyOf, implies_true, fillC, capOf]
    rw [bs_and hS, bs_or hS]
    refine ⟨m2 - 1, by omega, k + 1, by omega, hp3.app', f3, f4, f5, f6, ?_, f24, f25, eqI (natI _)⟩
    rw [show bs x y z (growT r p ((pick x y z r).take (k + 1))) = _ from (bs_eq hS).2 fun d _ => growT_succ hkl d]
    rfl
  · have : k = (pick x y z r).length := by omega
    subst this
    rw [List.take_length] at f7
    simp (disch := omega) only [f3, f4, f5, f6, f7, ↓SXd, SXu, slBounds, ↓sop, ↓aop, ↓reduceIte, LV.cells, AOp.dst, LV.I, LV.B, LV.U, LV.S, LV.nil, Nat.reduceEqDiff, Nat.reduceAdd, Nat.reduceMul, Nat.reduceSub, Nat.reduceLeDiff, Nat.reduceBEq, Nat.reduceDiv, Nat.reduceMod, Int.reduceToNat, Int.reduceLT, Int.reduceLE, Int.reduceAdd, Int.reduceSub, Int.reduceMul, Int.reduceEq, Int.reduceNeg, reduceCtorEq, resV, resAll, ARes.ev, LV.flat, ite_true, ite_false, exists_eq_left', exists_eq_left, keyOf, implies_true, fillC, capOf]
    refine condC_dec (fun he => ?_) (fun he => ?_)
    · have hfix := reachT_of_fix hS hr0 hr1 ((bs_eq hS).1 he)
      have hre : bs x y z r = bs x y z (reachT x y z (fun d => decide (d = c)) p) := (bs_eq hS).2 fun d hd => hfix d hd
      rw [hre] at f6
      have hpW := (hp1.trans hp2).trans hp3
      simp (disch := omega) only [f3, f4, f5, f6, ↓SXd, SXu, slBounds, ↓sop, ↓aop, ↓reduceIte, LV.cells, AOp.dst, LV.I, LV.B, LV.U, LV.S, LV.nil, Nat.reduceEqDiff, Nat.reduceAdd, Nat.reduceMul, Nat.reduceSub, Nat.reduceLeDiff, Nat.reduceBEq, Nat.reduceDiv, Nat.reduceMod, Int.reduceToNat, Int.reduceLT, Int.reduceLE, Int.reduceAdd, Int.reduceSub, Int.reduceMul, Int.reduceEq, Int.reduceNeg, reduceCtorEq, resV, resAll, ARes.ev, LV.flat, ite_true, ite_false, exists_eq_left', exists_eq_left, keyOf, implies_true, fillC, capOf]
      refine appendK_1 (acc := setL x y z L) (new := [.W (bs x y z (reachT x y z (fun d => decide (d = c)) p))]) (hout.pre hpW) (by rw [setL_len]; omega) rfl (by omega) (by omega) (by omega) fun N' l1 l2 l3 => ?_
      simp (disch := omega) only [f3, f4, f5, f6, ↓SXd, SXu, slBounds, ↓sop, ↓aop, ↓reduceIte, LV.cells, AOp.dst, LV.I, LV.B, LV.U, LV.S, LV.nil, Nat.reduceEqDiff, Nat.reduceAdd, Nat.reduceMul, Nat.reduceSub, Nat.reduceLeDiff, Nat.reduceBEq, Nat.reduceDiv, Nat.reduceMod, Int.reduceToNat, Int.reduceLT, Int.reduceLE, Int.reduceAdd, Int.reduceSub, Int.reduceMul, Int.reduceEq, Int.reduceNeg, reduceCtorEq, resV, resAll, ARes.ev, LV.flat, ite_true, ite_false, exists_eq_left', exists_eq_left, keyOf, implies_true, fillC, capOf]
      rw [bs_diff hS]
      have hpM := hpre.trans hpW
      refine ⟨m', by omega, fun d => p d && !reachT x y z (fun d => decide (d = c)) p d, W.length + 1, L ++ [pick x y z (reachT x y z (fun d => decide (d = c)) p)], ?_, ?_, ?_, pre_step hpM (by omega) l1 l3, live_step (hbox.pre hpW) ?_ l3, ?_, by have := hpM.1; omega, f3, rfl, ?_⟩
      · rw [hparts, List.append_assoc]; rfl
      · have := filter_lt hS (l := cellsOf x y z) (p := fun d => p d && !reachT x y z (fun d => decide (d = c)) p d) (q := p) (fun a _ ha => by simp only [Bool.and_eq_true] at ha; exact ha.1)
          ⟨c, (mem_cellsOf hS).2 hcq.1, hcq.2, by rw [(reachT_iff (c := c)).2 (.base hcq.1 (by simp))]; simp⟩
        unfold pick at hfuel ⊢
        omega
      · have h1 := clus_len (x := x) (y := y) (z := z) 65 fun c => decide (c ∈ cs)
        have h2 := congrArg List.length hparts
        simp only [List.length_append, List.length_cons] at h2
        simp; omega
      · exact (hbox.pre hpW).ne_esz (hout.pre hpW) (by decide)
      · rw [show setL x y z (L ++ [pick x y z (reachT x y z (fun d => decide (d = c)) p)]) = setL x y z L ++ [.W (bs x y z (reachT x y z (fun d => decide (d = c)) p))] by
          unfold setL
          rw [List.map_append, List.map_singleton]
          rw [(bs_eq hS).2 fun d hd => show decide (d ∈ pick x y z (reachT x y z (fun d => decide (d = c)) p)) = reachT x y z (fun d => decide (d = c)) p d by
            rw [Bool.eq_iff_iff, decide_eq_true_iff, mem_pick hS]; exact ⟨fun h => h.2, fun h => ⟨hd, h⟩⟩]]
        exact l2
      · rw [List.length_append, List.length_singleton]; rfl
    · simp (disch := omega) only [f3, f4, f5, f6, ↓SXd, SXu, slBounds, ↓sop, ↓aop, ↓reduceIte, LV.cells, AOp.dst, LV.I, LV.B, LV.U, LV.S, LV.nil, Nat.reduceEqDiff, Nat.reduceAdd, Nat.reduceMul, Nat.reduceSub, Nat.reduceLeDiff, Nat.reduceBEq, Nat.reduceDiv, Nat.reduceMod, Int.reduceToNat, Int.reduceLT, Int.reduceLE, Int.reduceAdd, Int.reduceSub, Int.reduceMul, Int.reduceEq, Int.reduceNeg, reduceCtorEq, resV, resAll, ARes.ev, LV.flat, ite_true, ite_false, exists_eq_left', exists_eq_left, keyOf, implies_true, fillC, capOf]
      refine ⟨rest x y z (growT r p (pick x y z r)), ?_, growT r p (pick x y z r), rfl, fun d hd h => ?_, fun d hd h => growT_in hS hr1 hd h, (hp1.trans hp2).trans hp3, f3, f4, f5, f7⟩
      · rw [← hm]
        refine rest_lt hS (fun d hd h => by unfold growT; rw [h]; rfl) ?_
        apply Classical.byContradiction
        intro hno
        apply he
        refine (bs_eq hS).2 fun d hd => ?_
        cases h1 : r d with
        | true => unfold growT; rw [h1]; rfl
        | false =>
          cases h2 : growT r p (pick x y z r) d with
          | false => rfl
          | true => exact absurd ⟨d, hd, h1, h2⟩ hno
      · unfold growT; rw [hr0 d hd h]; rfl
end
end Go.Ab

/- Contracts: the four numbers of the program (a map of places that were met); TunnelsOf. -/
namespace Go.Ab
open Go
set_option linter.unusedSimpArgs false
set_option linter.unusedVariables false
set_option maxRecDepth 20000

def cellK (p : Cell) : LV := .agg [.I p.a, .I p.b, .I p.c]
def metE (D : List Cell) : List (LV × LV) := D.map fun p => (cellK p, .B true)
theorem cellK_eq (p q : Cell) : keyEq (cellK p) (cellK q) = some (decide (p = q)) := by
  obtain ⟨a, b, c⟩ := p
  obtain ⟨a', b', c'⟩ := q
  simp only [keyEq, cellK, eqC, if_true, Option.map_some, Bool.and_true]
  congr 1
  rw [Bool.eq_iff_iff]
  simp only [Bool.and_eq_true, beq_iff_eq, decide_eq_true_eq, cell_eq]
theorem met_find (p : Cell) : ∀ D : List Cell, findE (cellK p) (metE D) = some (if p ∈ D then some (.B true) else none)
  | [] => rfl
  | q :: D => by
    show findE (cellK p) ((cellK q, LV.B true) :: metE D) = _
    unfold findE
    rw [cellK_eq]
    by_cases h : p = q
    · rw [decide_eq_true h, if_pos (by simp [h])]
    · rw [decide_eq_false h]
      simp only [met_find p D, List.mem_cons, h, false_or]
theorem met_put {p : Cell} : ∀ {D : List Cell}, p ∉ D → putE (cellK p) (.B true) (metE D) = some (metE (D ++ [p]))
  | [], _ => rfl
  | q :: D, hp => by
    show putE (cellK p) (LV.B true) ((cellK q, LV.B true) :: metE D) = _
    unfold putE
    rw [cellK_eq, decide_eq_false (fun e => hp (by simp [e]))]
    simp only [met_put (D := D) fun h => hp (List.mem_cons_of_mem _ h)]
    rfl
theorem met_look {M : Mem} {t : Nat} {D : List Cell} {p : Cell} (h : Live M t (.map (metE D))) : lookM 3 (.mp t) (.agg [.val (.int .i64 p.a), .val (.int .i64 p.b), .val (.int .i64 p.c)]) M = some (if p ∈ D then some (.B true) else none) := by
  unfold lookM
  simp only [show M[t]? = some (some (.map (metE D))) from h]
  rw [if_pos (by rfl)]
  exact met_find p D
theorem met_putM {M : Mem} {t : Nat} {D : List Cell} {p : Cell} (h : Live M t (.map (metE D))) (hp : p ∉ D) : putM 3 (.mp t) (.agg [.val (.int .i64 p.a), .val (.int .i64 p.b), .val (.int .i64 p.c)]) (.val (.bool true)) M = some (M.set t (some (.map (metE (D ++ [p]))))) := by
  unfold putM
  simp only [show M[t]? = some (some (.map (metE D))) from h]
  rw [if_pos (by rfl)]
  have := met_put hp
  unfold cellK at this
  rw [this]; rfl

theorem memK_put {M : Mem} {t : Nat} {D : List Cell} {p : Cell} {A : Mem → Prop} (h : Live M t (.map (metE D))) (hp : p ∉ D)
    (hA : ∀ N, N.length = M.length → Live N t (.map (metE (D ++ [p]))) → (∀ u, u ≠ t → u < M.length → N[u]? = M[u]?) → A N) : memK (putM 3 (.mp t) (.agg [.val (.int .i64 p.a), .val (.int .i64 p.b), .val (.int .i64 p.c)]) (.val (.bool true)) M) A := by
  rw [met_putM h hp]
  exact hA _ (by simp) h.set_eq fun u hu _ => List.getElem?_set_ne (fun e => hu e.symm)

/-- A part of a cube, by its code. -/
def halfC (c : Cell) (j : Nat) : Cell := ⟨2 * c.a + ((j % 3 : Nat) : Int), 2 * c.b + ((j / 3 % 3 : Nat) : Int), 2 * c.c + ((j / 9 : Nat) : Int)⟩
theorem half_near {c p : Cell} : (∃ j, j < 27 ∧ p = halfC c j) ↔ nearTo p c 3 = true := by
  have e : nearTo p c 3 = true ↔ (0 ≤ p.a - 2 * c.a ∧ p.a - 2 * c.a ≤ 2) ∧ (0 ≤ p.b - 2 * c.b ∧ p.b - 2 * c.b ≤ 2) ∧ (0 ≤ p.c - 2 * c.c ∧ p.c - 2 * c.c ≤ 2) := by
    simp only [nearTo, nearD, Bool.and_eq_true, decide_eq_true_eq, Bool.true_and]
    exact ⟨fun h => ⟨h.1.1, h.1.2, h.2⟩, fun h => ⟨⟨h.1, h.2.1⟩, h.2.2⟩⟩
  rw [e]
  constructor
  · rintro ⟨j, hj, rfl⟩
    unfold halfC
    simp only
    omega
  · intro h
    refine ⟨(p.a - 2 * c.a).toNat + 3 * (p.b - 2 * c.b).toNat + 9 * (p.c - 2 * c.c).toNat, by omega, ?_⟩
    obtain ⟨a, b, d⟩ := p
    simp only at h ⊢
    unfold halfC
    rw [cell_eq]
    refine ⟨?_, ?_, ?_⟩ <;> simp only <;> omega

def kcount (D : List Cell) (k : Nat) : Int := ((D.countP fun p => decide (kindC p = k) : Nat) : Int)
def fourOf (D : List Cell) : List Int := [kcount D 0, kcount D 1, kcount D 2, kcount D 3]
theorem kind_lt (p : Cell) : kindC p < 4 := by unfold kindC; omega
theorem fourOf_snoc {D : List Cell} {p : Cell} : fourOf (D ++ [p]) = (fourOf D).set (kindC p) ((fourOf D).getD (kindC p) 0 + 1) := by
  have hk := kind_lt p
  unfold fourOf kcount
  rcases (show kindC p = 0 ∨ kindC p = 1 ∨ kindC p = 2 ∨ kindC p = 3 by omega) with h | h | h | h <;> simp [h, List.countP_append]

theorem counts_eq {x y z : Int} {cs D : List Cell} (hH : HeapOK x y z cs) (hD : D.Nodup) (hm : ∀ p, p ∈ D ↔ inBody cs p) : countsOf x y z cs = fourOf D := by
  obtain ⟨⟨_, _⟩, ⟨_, _⟩, ⟨_, _⟩⟩ := id hH.1
  have hg : ∀ p, p ∈ D ↔ p ∈ gridPts (2 * y + 1).toNat (2 * z + 1).toNat (2 * x + 1).toNat ∧ inBody cs p := fun p => by
    rw [hm]
    refine ⟨fun h => ⟨?_, h⟩, fun h => h.2⟩
    obtain ⟨c, hc, hn⟩ := h
    obtain ⟨j, hj, rfl⟩ := half_near.2 hn
    obtain ⟨⟨_, _⟩, ⟨_, _⟩, ⟨_, _⟩⟩ := hH.mem hc
    rw [mem_grid]
    unfold halfC
    simp only
    omega
  have hl : (countsOf x y z cs).length = 4 := (counts_four hH.1).1
  have hk : ∀ k, k < 4 → (countsOf x y z cs).getD k 0 = kcount D k := fun k hk => by
    have := (gridF_get (cs := cs) (ny := (2 * y + 1).toNat) (nz := (2 * z + 1).toNat) (out := [0, 0, 0, 0]) rfl hk (n := (2 * x + 1).toNat)).2
    rw [grid_count hD hg] at this
    unfold countsOf kcount
    rw [this]
    rcases (show k = 0 ∨ k = 1 ∨ k = 2 ∨ k = 3 by omega) with rfl | rfl | rfl | rfl <;> simp
  generalize countsOf x y z cs = out at hl hk
  match out, hl with
  | [a, b, c, d], _ =>
    have h0 := hk 0 (by omega); have h1 := hk 1 (by omega); have h2 := hk 2 (by omega); have h3 := hk 3 (by omega)
    simp only [List.getD_cons_zero, List.getD_cons_succ] at h0 h1 h2 h3
    rw [h0, h1, h2, h3]; rfl

theorem tmodN {j : Nat} {k : Nat} : ((j : Int)).tmod (k : Int) = ((j % k : Nat) : Int) := by
  rw [Int.tmod_eq_emod_of_nonneg (by omega)]; rfl
theorem tdivN {j : Nat} {k : Nat} : ((j : Int)).tdiv (k : Int) = ((j / k : Nat) : Int) := by
  rw [Int.tdiv_eq_ediv_of_nonneg (by omega)]; rfl
theorem fourOf_bound {D : List Cell} {k : Nat} : 0 ≤ (fourOf D).getD k 0 ∧ (fourOf D).getD k 0 ≤ D.length := by
  have h : ∀ k, 0 ≤ kcount D k ∧ kcount D k ≤ D.length := fun k => by
    unfold kcount
    have := List.countP_le_length (p := fun p => decide (kindC p = k)) (l := D)
    omega
  match k with
  | 0 => exact h 0
  | 1 => exact h 1
  | 2 => exact h 2
  | 3 => exact h 3
  | k + 4 => simp [fourOf]

theorem g_counts {x y z : Int} {t o : Nat} {cs : List Cell} {M : Mem} (h : Tri M t o cs) (hH : HeapOK x y z cs) :
    CallsTo PG F.impl_Heap_counts [.agg [.I x, .I y, .I z, .ref t o cs.length]] M (.agg (intL (countsOf x y z cs))) M := by
  have hlen := hH.len
  have hin : ∀ c ∈ cs, c.inBox 4 4 4 := fun c hc => box4 hH.1 (hH.mem hc)
  refine calls_run K.impl_Heap_counts rfl ?_
  simp (disch := omega) only [C.impl_Heap_counts, splice, ↓SXd, SXu, slBounds, ↓sop, ↓aop, ↓reduceIte, LV.cells, AOp.dst, LV.I, LV.B, LV.U, LV.S, LV.nil, Nat.reduceEqDiff, Nat.reduceAdd, Nat.reduceMul, Nat.reduceSub, Nat.reduceLeDiff, Nat.reduceBEq, Nat.reduceDiv, Nat.reduceMod, Int.reduceToNat, Int.reduceLT, Int.reduceLE, Int.reduceAdd, Int.reduceSub, Int.reduceMul, Int.reduceEq, Int.reduceNeg, reduceCtorEq, resV, resAll, ARes.ev, LV.flat, ite_true, ite_false, exists_eq_left', exists_eq_left, keyOf, implies_true, fillC, capOf]
  refine ev_loop (fun m fr M' => ∃ (i : Nat) (D : List Cell), i + m = cs.length ∧ D.Nodup ∧ D.length ≤ 27 * i ∧ (∀ p, p ∈ D ↔ inBody (cs.take i) p) ∧ Pre M M' ∧ Live M' (M.length + 1) (.row [.I 0, .I 0, .I 0, .I 0] true 0) ∧ Live M' (M.length + 2) (.map (metE D)) ∧ Live M' (M.length + 3) (.row (intL (fourOf D)) true 0) ∧
    fr 2 = .ptr (M.length + 1) 0 ∧ fr 3 = .mp (M.length + 2) ∧ fr 4 = .ptr (M.length + 3) 0 ∧ fr 12 = .ref t o cs.length ∧ fr 13 = .I cs.length ∧ fr 14 = .I i) cs.length
    ⟨0, [], by omega, by simp, by simp, fun p => by simp [inBody], Pre.app _ _, Live.newj rfl, Live.newj rfl, Live.newj rfl, rfl, rfl, rfl, rfl, rfl, rfl⟩ ?_
  rintro m fr M' ⟨i, D, hi, hD, hDl, hDm, hpre, b1, b2, b3, f2, f3, f4, f12, f13, f14⟩
  simp (disch := omega) only [f2, f3, f4, f12, f13, f14, ↓SXd, SXu, slBounds, ↓sop, ↓aop, ↓reduceIte, LV.cells, AOp.dst, LV.I, LV.B, LV.U, LV.S, LV.nil, Nat.reduceEqDiff, Nat.reduceAdd, Nat.reduceMul, Nat.reduceSub, Nat.reduceLeDiff, Nat.reduceBEq, Nat.reduceDiv, Nat.reduceMod, Int.reduceToNat, Int.reduceLT, Int.reduceLE, Int.reduceAdd, Int.reduceSub, Int.reduceMul, Int.reduceEq, Int.reduceNeg, reduceCtorEq, resV, resAll, ARes.ev, LV.flat, ite_true, ite_false, exists_eq_left', exists_eq_left, keyOf, implies_true, fillC, capOf]
  refine condC_dec (fun hlt => ?_) (fun hlt => ?_)
  · have hil : i < cs.length := by omega
    have hci := Tri.get (h.pre hpre) hil
    obtain ⟨⟨_, _⟩, ⟨_, _⟩, ⟨_, _⟩⟩ := hin _ (getD_mem' (d := default) hil)
    generalize hc : cs.getD i default = c at *
    have hts : cs.take (i + 1) = cs.take i ++ [c] := by
      rw [← hc, List.take_succ, List.getElem?_eq_getElem hil]; simp [hil]
    simp (disch := omega) only [f2, f3, f4, f12, f13, f14, hci, Cell.row, splice, ↓SXd, SXu, slBounds, ↓sop, ↓aop, ↓reduceIte, LV.cells, AOp.dst, LV.I, LV.B, LV.U, LV.S, LV.nil, Nat.reduceEqDiff, Nat.reduceAdd, Nat.reduceMul, Nat.reduceSub, Nat.reduceLeDiff, Nat.reduceBEq, Nat.reduceDiv, Nat.reduceMod, Int.reduceToNat, Int.reduceLT, Int.reduceLE, Int.reduceAdd, Int.reduceSub, Int.reduceMul, Int.reduceEq, Int.reduceNeg, reduceCtorEq, resV, resAll, ARes.ev, LV.flat, ite_true, ite_false, exists_eq_left', exists_eq_left, keyOf, implies_true, fillC, capOf]
    refine ev_loop (fun m2 fr N => ∃ (j : Nat) (E : List Cell), j + m2 = 27 ∧ E.Nodup ∧ E.length ≤ 27 * i + j ∧ (∀ p, p ∈ E ↔ inBody (cs.take i) p ∨ ∃ j', j' < j ∧ p = halfC c j') ∧ Pre M N ∧ Live N (M.length + 1) (.row [.I 0, .I 0, .I 0, .I 0] true 0) ∧ Live N (M.length + 2) (.map (metE E)) ∧ Live N (M.length + 3) (.row (intL (fourOf E)) true 0) ∧ Live N M'.length (.row [.I c.a, .I c.b, .I c.c] true 0) ∧
      fr 2 = .ptr (M.length + 1) 0 ∧ fr 3 = .mp (M.length + 2) ∧ fr 4 = .ptr (M.length + 3) 0 ∧ fr 6 = .ptr M'.length 0 ∧ fr 12 = .ref t o cs.length ∧ fr 13 = .I cs.length ∧ fr 14 = .I i ∧ fr 18 = .I j) 27
      ⟨0, D, by omega, hD, by omega, fun p => by rw [hDm]; simp, hpre.app', b1.app, b2.app, b3.app, Live.new, f2, f3, f4, rfl, f12, f13, f14, rfl⟩ ?_
    have hb3 := b3.lt
    clear b1 b2 b3 hpre f2 f3 f4 f12 f13 f14 hci hD hDl hDm
    rintro m2 fr N ⟨j, E, hj, hE, hEl, hEm, hpre, b1, b2, b3, b6, f2, f3, f4, f6, f12, f13, f14, f18⟩
    simp (disch := omega) only [f2, f3, f4, f6, f12, f13, f14, f18, ↓SXd, SXu, slBounds, ↓sop, ↓aop, ↓reduceIte, LV.cells, AOp.dst, LV.I, LV.B, LV.U, LV.S, LV.nil, Nat.reduceEqDiff, Nat.reduceAdd, Nat.reduceMul, Nat.reduceSub, Nat.reduceLeDiff, Nat.reduceBEq, Nat.reduceDiv, Nat.reduceMod, Int.reduceToNat, Int.reduceLT, Int.reduceLE, Int.reduceAdd, Int.reduceSub, Int.reduceMul, Int.reduceEq, Int.reduceNeg, reduceCtorEq, resV, resAll, ARes.ev, LV.flat, ite_true, ite_false, exists_eq_left', exists_eq_left, keyOf, implies_true, fillC, capOf]
    refine condC_dec (fun hlt2 => ?_) (fun hlt2 => ?_)
    · have hj27 : j < 27 := by omega
      have m3 : ((j : Int)).tmod 3 = ((j % 3 : Nat) : Int) := tmodN
      have d3 : ((j : Int)).tdiv 3 = ((j / 3 : Nat) : Int) := tdivN
      have m33 : ((j / 3 : Nat) : Int).tmod 3 = ((j / 3 % 3 : Nat) : Int) := tmodN
      have d9 : ((j : Int)).tdiv 9 = ((j / 9 : Nat) : Int) := tdivN
      have ha : 2 * c.a + ((j % 3 : Nat) : Int) = (halfC c j).a := rfl
      have hb : 2 * c.b + ((j / 3 % 3 : Nat) : Int) = (halfC c j).b := rfl
      have hcc : 2 * c.c + ((j / 9 : Nat) : Int) = (halfC c j).c := rfl
      have hpb : (0 ≤ (halfC c j).a ∧ (halfC c j).a ≤ 8) ∧ (0 ≤ (halfC c j).b ∧ (halfC c j).b ≤ 8) ∧ (0 ≤ (halfC c j).c ∧ (halfC c j).c ≤ 8) := by unfold halfC; simp only; omega
      have hpm : (∃ j', j' < j + 1 ∧ (halfC c j) = halfC c j') := ⟨j, by omega, rfl⟩
      have hEm2 : ∀ q, (inBody (cs.take i) q ∨ ∃ j', j' < j + 1 ∧ q = halfC c j') ↔ (q ∈ E ∨ q = halfC c j) := fun q => by
        rw [hEm]
        constructor
        · rintro (h | ⟨j', h1, h2⟩)
          · exact .inl (.inl h)
          · rcases Nat.lt_or_ge j' j with h3 | h3
            · exact .inl (.inr ⟨j', h3, h2⟩)
            · rw [show j' = j by omega] at h2; exact .inr h2
        · rintro ((h | ⟨j', h1, h2⟩) | h)
          · exact .inl h
          · exact .inr ⟨j', by omega, h2⟩
          · exact .inr ⟨j, by omega, h⟩
      generalize halfC c j = p at ha hb hcc hpb hpm hEm2
      simp (disch := omega) only [f2, f3, f4, f6, f12, f13, f14, f18, b6.cell, splice, m3, d3, m33, d9, ha, hb, hcc, (met_look (b2.app (L := [some (.row [.I p.a, .I p.b, .I p.c] true 0)]))), ↓SXd, SXu, slBounds, ↓sop, ↓aop, ↓reduceIte, LV.cells, AOp.dst, LV.I, LV.B, LV.U, LV.S, LV.nil, Nat.reduceEqDiff, Nat.reduceAdd, Nat.reduceMul, Nat.reduceSub, Nat.reduceLeDiff, Nat.reduceBEq, Nat.reduceDiv, Nat.reduceMod, Int.reduceToNat, Int.reduceLT, Int.reduceLE, Int.reduceAdd, Int.reduceSub, Int.reduceMul, Int.reduceEq, Int.reduceNeg, reduceCtorEq, resV, resAll, ARes.ev, LV.flat, ite_true, ite_false, exists_eq_left', exists_eq_left, keyOf, implies_true, fillC, capOf]
      by_cases hpE : p ∈ E
      · simp (disch := omega) only [f2, f3, f4, f6, f12, f13, f14, f18, hpE, Option.getD_some, ↓SXd, SXu, slBounds, ↓sop, ↓aop, ↓reduceIte, LV.cells, AOp.dst, LV.I, LV.B, LV.U, LV.S, LV.nil, Nat.reduceEqDiff, Nat.reduceAdd, Nat.reduceMul, Nat.reduceSub, Nat.reduceLeDiff, Nat.reduceBEq, Nat.reduceDiv, Nat.reduceMod, Int.reduceToNat, Int.reduceLT, Int.reduceLE, Int.reduceAdd, Int.reduceSub, Int.reduceMul, Int.reduceEq, Int.reduceNeg, reduceCtorEq, resV, resAll, ARes.ev, LV.flat, ite_true, ite_false, exists_eq_left', exists_eq_left, keyOf, implies_true, fillC, capOf]
        exact ⟨m2 - 1, by omega, j + 1, E, by omega, hE, by omega, fun q => by rw [hEm2]; exact ⟨.inl, fun h => h.elim id fun e => e ▸ hpE⟩, hpre.app', b1.app, b2.app, b3.app, b6.app, f2, f3, f4, f6, f12, f13, f14, eqI (natI _)⟩
      · have ta : p.a.tmod 2 = ((p.a.toNat % 2 : Nat) : Int) := by rw [Int.tmod_eq_emod_of_nonneg hpb.1.1]; omega
        have tb : p.b.tmod 2 = ((p.b.toNat % 2 : Nat) : Int) := by rw [Int.tmod_eq_emod_of_nonneg hpb.2.1.1]; omega
        have tc : p.c.tmod 2 = ((p.c.toNat % 2 : Nat) : Int) := by rw [Int.tmod_eq_emod_of_nonneg hpb.2.2.1]; omega
        have hkd : ((p.a.toNat % 2 : Nat) : Int) + ((p.b.toNat % 2 : Nat) : Int) + ((p.c.toNat % 2 : Nat) : Int) = ((kindC p : Nat) : Int) := by unfold kindC; omega
        have hk4 := kind_lt p
        have hfs := fourOf_snoc (D := E) (p := p)
        have hfb := fourOf_bound (D := E) (k := kindC p)
        simp (disch := omega) only [f2, f3, f4, f6, f12, f13, f14, f18, hpE, Option.getD_none, Bool.not_false, ↓SXd, SXu, slBounds, ↓sop, ↓aop, ↓reduceIte, LV.cells, AOp.dst, LV.I, LV.B, LV.U, LV.S, LV.nil, Nat.reduceEqDiff, Nat.reduceAdd, Nat.reduceMul, Nat.reduceSub, Nat.reduceLeDiff, Nat.reduceBEq, Nat.reduceDiv, Nat.reduceMod, Int.reduceToNat, Int.reduceLT, Int.reduceLE, Int.reduceAdd, Int.reduceSub, Int.reduceMul, Int.reduceEq, Int.reduceNeg, reduceCtorEq, resV, resAll, ARes.ev, LV.flat, ite_true, ite_false, exists_eq_left', exists_eq_left, keyOf, implies_true, fillC, capOf]
        refine memK_put (b2.app (L := [some (.row [.I p.a, .I p.b, .I p.c] true 0)])) hpE fun W1 k1 k2 k3 => ?_
        have hl3 := b3.lt
        have hl6 := b6.lt
        have c8 : Live W1 N.length (.row [.I p.a, .I p.b, .I p.c] true 0) := live_step Live.new (by omega) k3
        have c3 : Live W1 (M.length + 3) (.row (intL (fourOf E)) true 0) := live_step b3.app (by omega) k3
        have c1 : Live W1 (M.length + 1) (.row [.I 0, .I 0, .I 0, .I 0] true 0) := live_step b1.app (by omega) k3
        have c6 : Live W1 M'.length (.row [.I c.a, .I c.b, .I c.c] true 0) := live_step b6.app (by omega) k3
        have hgk : (intL (fourOf E))[kindC p]? = some (.I ((fourOf E).getD (kindC p) 0)) := by
          rw [intL, List.getElem?_map, List.getElem?_eq_getElem (show kindC p < (fourOf E).length from hk4)]
          simp [List.getD_eq_getElem?_getD, List.getElem?_eq_getElem (show kindC p < (fourOf E).length from hk4)]
        generalize kindC p = kd at hkd hk4 hfs hfb hgk
        simp (disch := omega) only [f2, f3, f4, f6, f12, f13, f14, f18, c8.cell, ta, tb, tc, hkd, c3.cell, hgk, Nat.mul_one, ↓SXd, SXu, slBounds, ↓sop, ↓aop, ↓reduceIte, LV.cells, AOp.dst, LV.I, LV.B, LV.U, LV.S, LV.nil, Nat.reduceEqDiff, Nat.reduceAdd, Nat.reduceMul, Nat.reduceSub, Nat.reduceLeDiff, Nat.reduceBEq, Nat.reduceDiv, Nat.reduceMod, Int.reduceToNat, Int.reduceLT, Int.reduceLE, Int.reduceAdd, Int.reduceSub, Int.reduceMul, Int.reduceEq, Int.reduceNeg, reduceCtorEq, resV, resAll, ARes.ev, LV.flat, ite_true, ite_false, exists_eq_left', exists_eq_left, keyOf, implies_true, fillC, capOf]
        refine memK_at c3 (by simp [intL, fourOf]; omega) fun W2 j1 j2 j3 => ?_
        rw [intL_set', ← hfs] at j2
        simp (disch := omega) only [f2, f3, f4, f6, f12, f13, f14, f18, ↓SXd, SXu, slBounds, ↓sop, ↓aop, ↓reduceIte, LV.cells, AOp.dst, LV.I, LV.B, LV.U, LV.S, LV.nil, Nat.reduceEqDiff, Nat.reduceAdd, Nat.reduceMul, Nat.reduceSub, Nat.reduceLeDiff, Nat.reduceBEq, Nat.reduceDiv, Nat.reduceMod, Int.reduceToNat, Int.reduceLT, Int.reduceLE, Int.reduceAdd, Int.reduceSub, Int.reduceMul, Int.reduceEq, Int.reduceNeg, reduceCtorEq, resV, resAll, ARes.ev, LV.flat, ite_true, ite_false, exists_eq_left', exists_eq_left, keyOf, implies_true, fillC, capOf]
        refine ⟨m2 - 1, by omega, j + 1, E ++ [p], by omega, ?_, by simp; omega, fun q => by rw [hEm2]; simp, ?_, live_step c1 (by omega) j3, live_step k2 (by omega) j3, j2, live_step c6 (by omega) j3, f2, f3, f4, f6, f12, f13, f14, eqI (natI _)⟩
        · rw [List.nodup_append]
          exact ⟨hE, by simp, fun a ha b hb e => hpE (by rw [List.mem_singleton] at hb; rw [← hb, ← e]; exact ha)⟩
        · exact pre_step (pre_step hpre.app' (by omega) (j := 0) k1 k3) (by omega) (j := 0) j1 j3
    · simp (disch := omega) only [f2, f3, f4, f6, f12, f13, f14, f18, ↓SXd, SXu, slBounds, ↓sop, ↓aop, ↓reduceIte, LV.cells, AOp.dst, LV.I, LV.B, LV.U, LV.S, LV.nil, Nat.reduceEqDiff, Nat.reduceAdd, Nat.reduceMul, Nat.reduceSub, Nat.reduceLeDiff, Nat.reduceBEq, Nat.reduceDiv, Nat.reduceMod, Int.reduceToNat, Int.reduceLT, Int.reduceLE, Int.reduceAdd, Int.reduceSub, Int.reduceMul, Int.reduceEq, Int.reduceNeg, reduceCtorEq, resV, resAll, ARes.ev, LV.flat, ite_true, ite_false, exists_eq_left', exists_eq_left, keyOf, implies_true, fillC, capOf]
      have : j = 27 := by omega
      subst this
      refine ⟨m - 1, by omega, i + 1, E, by omega, hE, by omega, fun q => ?_, hpre, b1, b2, b3, f2, f3, f4, f12, f13, eqI (natI _)⟩
      rw [hEm, hts]
      unfold inBody
      constructor
      · rintro (⟨d, h1, h2⟩ | h1)
        · exact ⟨d, by simp [h1], h2⟩
        · exact ⟨c, by simp, half_near.1 h1⟩
      · rintro ⟨d, h1, h2⟩
        rcases List.mem_append.1 h1 with h1 | h1
        · exact .inl ⟨d, h1, h2⟩
        · rw [List.mem_singleton.1 h1] at h2
          exact .inr (half_near.2 h2)
  · have : i = cs.length := by omega
    subst this
    rw [List.take_length] at hDm
    rw [counts_eq hH hD hDm]
    have hl3 := b3.lt
    obtain ⟨n0, n1, n2, n3, hq⟩ : ∃ a b c d, fourOf D = [a, b, c, d] := ⟨_, _, _, _, rfl⟩
    rw [hq] at b3 ⊢
    change Live M' (M.length + 3) (.row [.I n0, .I n1, .I n2, .I n3] true 0) at b3
    simp (disch := omega) only [f2, f3, f4, f12, f13, f14, b3.cells, ↓SXd, SXu, slBounds, ↓sop, ↓aop, ↓reduceIte, LV.cells, AOp.dst, LV.I, LV.B, LV.U, LV.S, LV.nil, Nat.reduceEqDiff, Nat.reduceAdd, Nat.reduceMul, Nat.reduceSub, Nat.reduceLeDiff, Nat.reduceBEq, Nat.reduceDiv, Nat.reduceMod, Int.reduceToNat, Int.reduceLT, Int.reduceLE, Int.reduceAdd, Int.reduceSub, Int.reduceMul, Int.reduceEq, Int.reduceNeg, reduceCtorEq, resV, resAll, ARes.ev, LV.flat, ite_true, ite_false, exists_eq_left', exists_eq_left, keyOf, implies_true, fillC, capOf]
    refine memK_box b1 (by simp) fun W k1 k2 k3 => ?_
    simp (disch := omega) only [f2, f3, f4, f12, f13, f14, k2.cells, ↓SXd, SXu, slBounds, ↓sop, ↓aop, ↓reduceIte, LV.cells, AOp.dst, LV.I, LV.B, LV.U, LV.S, LV.nil, Nat.reduceEqDiff, Nat.reduceAdd, Nat.reduceMul, Nat.reduceSub, Nat.reduceLeDiff, Nat.reduceBEq, Nat.reduceDiv, Nat.reduceMod, Int.reduceToNat, Int.reduceLT, Int.reduceLE, Int.reduceAdd, Int.reduceSub, Int.reduceMul, Int.reduceEq, Int.reduceNeg, reduceCtorEq, resV, resAll, ARes.ev, LV.flat, ite_true, ite_false, exists_eq_left', exists_eq_left, keyOf, implies_true, fillC, capOf]
    exact cmp_pre (pre_step hpre (by omega) (j := 0) k1 k3) rfl

theorem g_euler {x y z : Int} {t o : Nat} {cs : List Cell} {M : Mem} (h : Tri M t o cs) (hH : HeapOK x y z cs) :
    CallsTo PG F.impl_Heap_euler [.agg [.I x, .I y, .I z, .ref t o cs.length]] M (.I (eulerOf x y z cs)) M := by
  have hc := counts_four (cs := cs) hH.1
  have hcall := g_counts (M := M ++ [some (.row [.I x, .I y, .I z, .ref t o cs.length] true 0)]) h.app hH
  unfold eulerOf
  generalize countsOf x y z cs = out at hc hcall
  obtain ⟨n0, n1, n2, n3, rfl⟩ : ∃ a b c d, out = [a, b, c, d] := by
    match out, hc.1 with
    | [a, b, c, d], _ => exact ⟨a, b, c, d, rfl⟩
  have q0 : 0 ≤ n0 ∧ n0 ≤ 729 := hc.2 0 (by omega)
  have q1 : 0 ≤ n1 ∧ n1 ≤ 729 := hc.2 1 (by omega)
  have q2 : 0 ≤ n2 ∧ n2 ≤ 729 := hc.2 2 (by omega)
  have q3 : 0 ≤ n3 ∧ n3 ≤ 729 := hc.2 3 (by omega)
  refine calls_run K.impl_Heap_euler rfl ?_
  simp (disch := omega) only [C.impl_Heap_euler, ↓SXd, SXu, slBounds, ↓sop, ↓aop, ↓reduceIte, LV.cells, AOp.dst, LV.I, LV.B, LV.U, LV.S, LV.nil, Nat.reduceEqDiff, Nat.reduceAdd, Nat.reduceMul, Nat.reduceSub, Nat.reduceLeDiff, Nat.reduceBEq, Nat.reduceDiv, Nat.reduceMod, Int.reduceToNat, Int.reduceLT, Int.reduceLE, Int.reduceAdd, Int.reduceSub, Int.reduceMul, Int.reduceEq, Int.reduceNeg, reduceCtorEq, resV, resAll, ARes.ev, LV.flat, ite_true, ite_false, exists_eq_left', exists_eq_left, keyOf, implies_true, fillC, capOf]
  refine callK_of hcall ?_
  change putK _ _ _ (LV.agg [.I n0, .I n1, .I n2, .I n3]) _
  simp (disch := omega) only [splice, ↓SXd, SXu, slBounds, ↓sop, ↓aop, ↓reduceIte, LV.cells, AOp.dst, LV.I, LV.B, LV.U, LV.S, LV.nil, Nat.reduceEqDiff, Nat.reduceAdd, Nat.reduceMul, Nat.reduceSub, Nat.reduceLeDiff, Nat.reduceBEq, Nat.reduceDiv, Nat.reduceMod, Int.reduceToNat, Int.reduceLT, Int.reduceLE, Int.reduceAdd, Int.reduceSub, Int.reduceMul, Int.reduceEq, Int.reduceNeg, reduceCtorEq, resV, resAll, ARes.ev, LV.flat, ite_true, ite_false, exists_eq_left', exists_eq_left, keyOf, implies_true, fillC, capOf]
  exact cmp_pre (Pre.app _ _) rfl
end Go.Ab

/- The abstract code of some functions (written by a program of mine from the translation, by way of prepF). -/
namespace Go.Ab.C
open Go.Ab
def spec_l6Clusters : AFn :=
 ⟨1, 82, [.tmp 2],
 .seq (.ops [(none, .box 1 (.t 0)),
 (none, .mv 2 (.c .nil))])
 (.seq (.ops [(none, .buildSl 10 0 1 [] []),
 (none, .loadN 11 4 (.t 1)),
 (none, .call (some 12) F.spec_l2Own [(.t 11)]),
 (none, .alloc 4 [(.I 0), (.I 0), (.I 0), .nil]),
 (none, .mv 3 (.t 10)),
 (none, .store 4 (.t 4) (.t 12))])
 (.seq (.block 0 (.loop (.seq (.seq (.ops [(none, .fieldAddr 13 (.t 4) 3),
 (none, .load1 14 (.t 13)),
 (none, .len 15 (.t 14)),
 (none, .bin 16 .gtr (.t 15) (.c (.I 0)))])
 (.cond (.t 16) (.skip)
 (.exit 0)))
 (.block 1 (.seq (.draw [⟨(none, .fieldAddr 17 (.t 1) 0), [], []⟩,
 ⟨(none, .load1 18 (.t 17)), [], []⟩,
 ⟨(none, .fieldAddr 19 (.t 1) 1), [], []⟩,
 ⟨(none, .load1 20 (.t 19)), [], []⟩,
 ⟨(none, .fieldAddr 21 (.t 1) 2), [], []⟩,
 ⟨(none, .load1 22 (.t 21)), [], []⟩,
 ⟨(none, .fieldAddr 24 (.t 4) 3), [], []⟩,
 ⟨(none, .load1 25 (.t 24)), [], []⟩,
 ⟨(none, .idxS 26 3 (.t 25) (.c (.I 0))), [], []⟩,
 ⟨(none, .loadN 27 3 (.t 26)), [], []⟩,
 ⟨(none, .buildSl 28 1 3 [(.I 0), (.I 0), (.I 0)] [(0, 3, (.t 27))]), [], []⟩,
 ⟨(none, .alloc 5 [(.I 0), (.I 0), (.I 0), .nil]), [], []⟩,
 ⟨(none, .call (some 23) F.spec_l2Empty [(.t 18), (.t 20), (.t 22)]), [10, 11], [6, 7, 8, 9]⟩,
 ⟨(none, .store 4 (.t 5) (.t 23)), [10], [6, 7, 8, 9]⟩,
 ⟨(none, .mv 6 (.t 28)), [], []⟩])
 (.seq (.draw [⟨(none, .loadN 29 4 (.t 4)), [], []⟩,
 ⟨(none, .mv 30 (.t 6)), [], []⟩,
 ⟨(none, .idxS 31 3 (.t 30) (.c (.I 0))), [], []⟩,
 ⟨(none, .loadN 32 3 (.t 31)), [], []⟩,
 ⟨(none, .call (some 33) F.spec_l2Without [(.t 29), (.t 32)]), [], []⟩,
 ⟨(none, .store 4 (.t 4) (.t 33)), [], []⟩])
 (.seq (.seq (.ops [(none, .mv 7 (.c (.I 0)))])
 (.block 2 (.loop (.seq (.seq (.ops [(none, .mv 34 (.t 7)),
 (none, .mv 35 (.t 6)),
 (none, .len 36 (.t 35)),
 (none, .bin 37 .lss (.t 34) (.t 36))])
 (.cond (.t 37) (.skip)
 (.exit 2)))
 (.seq (.block 3 (.seq (.draw [⟨(none, .loadN 40 4 (.t 5)), [], []⟩,
 ⟨(none, .mv 41 (.t 6)), [], []⟩,
 ⟨(none, .mv 42 (.t 7)), [], []⟩,
 ⟨(none, .idxS 43 3 (.t 41) (.t 42)), [], []⟩,
 ⟨(none, .loadN 44 3 (.t 43)), [], []⟩,
 ⟨(none, .call (some 45) F.spec_l2With [(.t 40), (.t 44)]), [], []⟩,
 ⟨(none, .store 4 (.t 5) (.t 45)), [], []⟩])
 (.seq (.ops [(none, .fieldAddr 46 (.t 4) 3),
 (none, .load1 47 (.t 46)),
 (none, .mv 8 (.t 47))])
 (.seq (.ops [(none, .mv 9 (.c (.I 0)))])
 (.block 4 (.loop (.seq (.seq (.ops [(none, .mv 48 (.t 9)),
 (none, .mv 49 (.t 8)),
 (none, .len 50 (.t 49)),
 (none, .bin 51 .lss (.t 48) (.t 50))])
 (.cond (.t 51) (.skip)
 (.exit 4)))
 (.seq (.block 5 (.seq (.draw [⟨(none, .mv 54 (.t 8)), [], []⟩,
 ⟨(none, .mv 55 (.t 9)), [], []⟩,
 ⟨(none, .idxS 56 3 (.t 54) (.t 55)), [], []⟩,
 ⟨(none, .loadN 57 3 (.t 56)), [], []⟩,
 ⟨(none, .mv 58 (.t 6)), [], []⟩,
 ⟨(none, .mv 59 (.t 7)), [], []⟩,
 ⟨(none, .idxS 60 3 (.t 58) (.t 59)), [], []⟩,
 ⟨(none, .loadN 61 3 (.t 60)), [], []⟩,
 ⟨(none, .call (some 62) F.spec_l6Touch [(.t 57), (.t 61)]), [], []⟩])
 (.cond (.t 62) (.seq (.ops [(none, .mv 63 (.t 6)),
 (none, .mv 64 (.t 8)),
 (none, .mv 65 (.t 9)),
 (none, .idxS 66 3 (.t 64) (.t 65)),
 (none, .loadN 67 3 (.t 66)),
 (none, .buildSl 68 1 3 [(.I 0), (.I 0), (.I 0)] [(0, 3, (.t 67))]),
 (none, .append 69 3 24 (.t 63) (.t 68)),
 (none, .mv 6 (.t 69))])
 (.draw [⟨(none, .loadN 70 4 (.t 4)), [], []⟩,
 ⟨(none, .mv 71 (.t 8)), [], []⟩,
 ⟨(none, .mv 72 (.t 9)), [], []⟩,
 ⟨(none, .idxS 73 3 (.t 71) (.t 72)), [], []⟩,
 ⟨(none, .loadN 74 3 (.t 73)), [], []⟩,
 ⟨(none, .call (some 75) F.spec_l2Without [(.t 70), (.t 74)]), [], []⟩,
 ⟨(none, .store 4 (.t 4) (.t 75)), [], []⟩]))
 (.skip))))
 (.ops [(none, .mv 52 (.t 9)),
 (none, .bin 53 .add (.t 52) (.c (.I 1))),
 (none, .mv 9 (.t 53))])))))))))
 (.ops [(none, .mv 38 (.t 7)),
 (none, .bin 39 .add (.t 38) (.c (.I 1))),
 (none, .mv 7 (.t 39))]))))))
 (.ops [(none, .mv 76 (.t 3)),
 (none, .fieldAddr 77 (.t 5) 3),
 (none, .load1 78 (.t 77)),
 (none, .buildSl 79 1 1 [.nil] [(0, 1, (.t 78))]),
 (none, .append 80 1 24 (.t 76) (.t 79)),
 (none, .mv 3 (.t 80))]))))))))
 (.seq (.ops [(none, .mv 81 (.t 3)),
 (none, .mv 2 (.t 81))])
 (.ret))))⟩
def spec_l6Touch : AFn :=
 ⟨2, 19, [.tmp 4],
 .seq (.ops [(none, .box 2 (.t 0)),
 (none, .box 3 (.t 1)),
 (none, .mv 4 (.c (.B false)))])
 (.seq (.seq (.ops [(none, .mv 5 (.c (.I 0)))])
 (.block 0 (.loop (.seq (.seq (.ops [(none, .mv 6 (.t 5)),
 (none, .bin 7 .lss (.t 6) (.c (.I 3)))])
 (.cond (.t 7) (.skip)
 (.exit 0)))
 (.seq (.block 1 (.seq (.draw [⟨(none, .mv 10 (.t 5)), [], []⟩,
 ⟨(none, .idxA 11 3 1 (.t 2) (.t 10)), [], []⟩,
 ⟨(none, .load1 12 (.t 11)), [], []⟩,
 ⟨(none, .mv 13 (.t 5)), [], []⟩,
 ⟨(none, .idxA 14 3 1 (.t 3) (.t 13)), [], []⟩,
 ⟨(none, .load1 15 (.t 14)), [], []⟩,
 ⟨(none, .bin 16 .sub (.t 12) (.t 15)), [], []⟩,
 ⟨(none, .call (some 17) F.spec_l1In [(.t 16), (.c (.I (-1))), (.c (.I 1))]), [], []⟩,
 ⟨(none, .un 18 .not (.t 17)), [], []⟩])
 (.cond (.t 18) (.seq (.ops [(none, .mv 4 (.c (.B false)))])
 (.ret))
 (.skip))))
 (.ops [(none, .mv 8 (.t 5)),
 (none, .bin 9 .add (.t 8) (.c (.I 1))),
 (none, .mv 5 (.t 9))]))))))
 (.seq (.ops [(none, .mv 4 (.c (.B true)))])
 (.ret)))⟩
end Go.Ab.C

/- That the program has this code. -/
namespace Go.Ab.K
open Go Go.Ab
theorem spec_l6Clusters : prepF Go.Proofs.Try.prog F.spec_l6Clusters = some C.spec_l6Clusters := by kernel_rfl
theorem spec_l6Touch : prepF Go.Proofs.Try.prog F.spec_l6Touch = some C.spec_l6Touch := by kernel_rfl
end Go.Ab.K

/- Contracts: clusters of the reference. -/
namespace Go.Ab
open Go
set_option linter.unusedSimpArgs false
set_option linter.unusedVariables false

theorem h_l6Touch {x y z : Int} (hS : Sides x y z) {c d : Cell} {M : Mem} (hc : c.inBox x y z) (hd : d.inBox x y z) :
    CallsTo PG F.spec_l6Touch [.agg [.I c.a, .I c.b, .I c.c], .agg [.I d.a, .I d.b, .I d.c]] M (.B (touchC c d)) M := by
  refine calls_run K.spec_l6Touch rfl ?_
  obtain ⟨⟨_, _⟩, ⟨_, _⟩, _, _⟩ := id hS
  obtain ⟨⟨_, _⟩, ⟨_, _⟩, _, _⟩ := hc
  obtain ⟨⟨_, _⟩, ⟨_, _⟩, _, _⟩ := hd
  have hq : ∀ (i : Nat), i < 3 → ∃ u v : Int, [LV.I c.a, .I c.b, .I c.c][i]? = some (.I u) ∧ [LV.I d.a, .I d.b, .I d.c][i]? = some (.I v) ∧ (-100 ≤ u ∧ u ≤ 100) ∧ (-100 ≤ v ∧ v ≤ 100) ∧ ((-1 ≤ u - v ∧ u - v ≤ 1) ↔ (-1 ≤ [c.a, c.b, c.c].getD i 0 - [d.a, d.b, d.c].getD i 0 ∧ [c.a, c.b, c.c].getD i 0 - [d.a, d.b, d.c].getD i 0 ≤ 1)) := by
    intro i hi
    match i, hi with
    | 0, _ => exact ⟨c.a, d.a, rfl, rfl, by omega, by omega, Iff.rfl⟩
    | 1, _ => exact ⟨c.b, d.b, rfl, rfl, by omega, by omega, Iff.rfl⟩
    | 2, _ => exact ⟨c.c, d.c, rfl, rfl, by omega, by omega, Iff.rfl⟩
  have hyes : (∀ i, i < 3 → (-1 ≤ [c.a, c.b, c.c].getD i 0 - [d.a, d.b, d.c].getD i 0 ∧ [c.a, c.b, c.c].getD i 0 - [d.a, d.b, d.c].getD i 0 ≤ 1)) → touchC c d = true := fun h => by
    unfold touchC
    rw [decide_eq_true_iff]
    exact ⟨h 0 (by omega), h 1 (by omega), h 2 (by omega)⟩
  have hno : ∀ i, i < 3 → ¬ (-1 ≤ [c.a, c.b, c.c].getD i 0 - [d.a, d.b, d.c].getD i 0 ∧ [c.a, c.b, c.c].getD i 0 - [d.a, d.b, d.c].getD i 0 ≤ 1) → touchC c d = false := fun i hi h => by
    unfold touchC
    rw [decide_eq_false_iff_not]
    rintro ⟨h1, h2, h3⟩
    match i, hi with
    | 0, _ => exact h h1
    | 1, _ => exact h h2
    | 2, _ => exact h h3
  simp (disch := omega) only [C.spec_l6Touch, ↓SXd, SXu, slBounds, ↓sop, ↓aop, ↓reduceIte, LV.cells, AOp.dst, LV.I, LV.B, LV.U, LV.S, LV.nil, Nat.reduceEqDiff, Nat.reduceAdd, Nat.reduceMul, Nat.reduceSub, Nat.reduceLeDiff, Nat.reduceBEq, Nat.reduceDiv, Nat.reduceMod, Int.reduceToNat, Int.reduceLT, Int.reduceLE, Int.reduceAdd, Int.reduceSub, Int.reduceMul, Int.reduceEq, Int.reduceNeg, reduceCtorEq, resV, resAll, ARes.ev, LV.flat, ite_true, ite_false, exists_eq_left', exists_eq_left, keyOf, implies_true, fillC, capOf]
  refine ev_loop (fun m fr M' => ∃ i : Nat, i + m = 3 ∧ (∀ j, j < i → (-1 ≤ [c.a, c.b, c.c].getD j 0 - [d.a, d.b, d.c].getD j 0 ∧ [c.a, c.b, c.c].getD j 0 - [d.a, d.b, d.c].getD j 0 ≤ 1)) ∧ M' = M ++ [some (.row [.I c.a, .I c.b, .I c.c] true 0), some (.row [.I d.a, .I d.b, .I d.c] true 0)] ∧ fr 2 = .ptr M.length 0 ∧ fr 3 = .ptr (M.length + 1) 0 ∧ fr 5 = .I i) 3
    ⟨0, by omega, fun j hj => by omega, rfl, rfl, rfl, rfl⟩ ?_
  rintro m fr M' ⟨i, hi, hall, rfl, f2, f3, f5⟩
  simp (disch := omega) only [f2, f3, f5, ↓SXd, SXu, slBounds, ↓sop, ↓aop, ↓reduceIte, LV.cells, AOp.dst, LV.I, LV.B, LV.U, LV.S, LV.nil, Nat.reduceEqDiff, Nat.reduceAdd, Nat.reduceMul, Nat.reduceSub, Nat.reduceLeDiff, Nat.reduceBEq, Nat.reduceDiv, Nat.reduceMod, Int.reduceToNat, Int.reduceLT, Int.reduceLE, Int.reduceAdd, Int.reduceSub, Int.reduceMul, Int.reduceEq, Int.reduceNeg, reduceCtorEq, resV, resAll, ARes.ev, LV.flat, ite_true, ite_false, exists_eq_left', exists_eq_left, keyOf, implies_true, fillC, capOf]
  refine condC_dec (fun hlt => ?_) (fun hlt => ?_)
  · obtain ⟨u, v, h1, h2, h3, h4, h5⟩ := hq i (by omega)
    simp (disch := omega) only [f2, f3, f5, h1, h2, Nat.mul_one, ↓SXd, SXu, slBounds, ↓sop, ↓aop, ↓reduceIte, LV.cells, AOp.dst, LV.I, LV.B, LV.U, LV.S, LV.nil, Nat.reduceEqDiff, Nat.reduceAdd, Nat.reduceMul, Nat.reduceSub, Nat.reduceLeDiff, Nat.reduceBEq, Nat.reduceDiv, Nat.reduceMod, Int.reduceToNat, Int.reduceLT, Int.reduceLE, Int.reduceAdd, Int.reduceSub, Int.reduceMul, Int.reduceEq, Int.reduceNeg, reduceCtorEq, resV, resAll, ARes.ev, LV.flat, ite_true, ite_false, exists_eq_left', exists_eq_left, keyOf, implies_true, fillC, capOf]
    refine callK_of (h_l1In) ?_
    simp (disch := omega) only [f2, f3, f5, ↓SXd, SXu, slBounds, ↓sop, ↓aop, ↓reduceIte, LV.cells, AOp.dst, LV.I, LV.B, LV.U, LV.S, LV.nil, Nat.reduceEqDiff, Nat.reduceAdd, Nat.reduceMul, Nat.reduceSub, Nat.reduceLeDiff, Nat.reduceBEq, Nat.reduceDiv, Nat.reduceMod, Int.reduceToNat, Int.reduceLT, Int.reduceLE, Int.reduceAdd, Int.reduceSub, Int.reduceMul, Int.reduceEq, Int.reduceNeg, reduceCtorEq, resV, resAll, ARes.ev, LV.flat, ite_true, ite_false, exists_eq_left', exists_eq_left, keyOf, implies_true, fillC, capOf]
    by_cases ho : -1 ≤ u - v ∧ u - v ≤ 1
    · simp (disch := omega) only [f2, f3, f5, ho, ↓SXd, SXu, slBounds, ↓sop, ↓aop, ↓reduceIte, LV.cells, AOp.dst, LV.I, LV.B, LV.U, LV.S, LV.nil, Nat.reduceEqDiff, Nat.reduceAdd, Nat.reduceMul, Nat.reduceSub, Nat.reduceLeDiff, Nat.reduceBEq, Nat.reduceDiv, Nat.reduceMod, Int.reduceToNat, Int.reduceLT, Int.reduceLE, Int.reduceAdd, Int.reduceSub, Int.reduceMul, Int.reduceEq, Int.reduceNeg, reduceCtorEq, resV, resAll, ARes.ev, LV.flat, ite_true, ite_false, exists_eq_left', exists_eq_left, keyOf, implies_true, fillC, capOf]
      refine ⟨m - 1, by omega, i + 1, by omega, fun j hj => ?_, rfl, f2, f3, eqI (natI _)⟩
      rcases Nat.lt_or_ge j i with h6 | h6
      · exact hall j h6
      · rw [show j = i by omega]; exact h5.1 ho
    · rw [hno i (by omega) fun h => ho (h5.2 h)]
      simp (disch := omega) only [f2, f3, f5, ho, ↓SXd, SXu, slBounds, ↓sop, ↓aop, ↓reduceIte, LV.cells, AOp.dst, LV.I, LV.B, LV.U, LV.S, LV.nil, Nat.reduceEqDiff, Nat.reduceAdd, Nat.reduceMul, Nat.reduceSub, Nat.reduceLeDiff, Nat.reduceBEq, Nat.reduceDiv, Nat.reduceMod, Int.reduceToNat, Int.reduceLT, Int.reduceLE, Int.reduceAdd, Int.reduceSub, Int.reduceMul, Int.reduceEq, Int.reduceNeg, reduceCtorEq, resV, resAll, ARes.ev, LV.flat, ite_true, ite_false, exists_eq_left', exists_eq_left, keyOf, implies_true, fillC, capOf]
      exact cmp_drop rfl
  · rw [hyes fun j hj => hall j (by omega)]
    simp (disch := omega) only [f2, f3, f5, ↓SXd, SXu, slBounds, ↓sop, ↓aop, ↓reduceIte, LV.cells, AOp.dst, LV.I, LV.B, LV.U, LV.S, LV.nil, Nat.reduceEqDiff, Nat.reduceAdd, Nat.reduceMul, Nat.reduceSub, Nat.reduceLeDiff, Nat.reduceBEq, Nat.reduceDiv, Nat.reduceMod, Int.reduceToNat, Int.reduceLT, Int.reduceLE, Int.reduceAdd, Int.reduceSub, Int.reduceMul, Int.reduceEq, Int.reduceNeg, reduceCtorEq, resV, resAll, ARes.ev, LV.flat, ite_true, ite_false, exists_eq_left', exists_eq_left, keyOf, implies_true, fillC, capOf]
    exact cmp_drop rfl

theorem h_l6Clusters {x y z : Int} {t : Nat} {w : Bool} {cs : List Cell} {M : Mem} (h : Live M t (.row (triL cs) w 3)) (hH : HeapOK x y z cs) :
    CallsR PG F.spec_l6Clusters [.agg [.I x, .I y, .I z, .ref t 0 cs.length]] M fun v N => ∃ (u : Nat) (refs : List LV), v = .ref u 0 refs.length ∧ M.length ≤ u ∧ Live N u (.row refs true 1) ∧ Css N M.length N.length refs (clus x y z 65 fun d => decide (d ∈ cs)) ∧ Pre M N := by
  have hS := hH.1
  have hn := hH.len
  have ht := h.lt
  refine callsR_run K.spec_l6Clusters rfl ?_
  simp (disch := omega) only [C.spec_l6Clusters, ↓SXd, SXu, slBounds, ↓sop, ↓aop, ↓reduceIte, LV.cells, AOp.dst, LV.I, LV.B, LV.U, LV.S, LV.nil, Nat.reduceEqDiff, Nat.reduceAdd, Nat.reduceMul, Nat.reduceSub, Nat.reduceLeDiff, Nat.reduceBEq, Nat.reduceDiv, Nat.reduceMod, Int.reduceToNat, Int.reduceLT, Int.reduceLE, Int.reduceAdd, Int.reduceSub, Int.reduceMul, Int.reduceEq, Int.reduceNeg, reduceCtorEq, resV, resAll, ARes.ev, LV.flat, ite_true, ite_false, exists_eq_left', exists_eq_left, keyOf, implies_true, fillC, capOf]
  refine callK_of (h_l2Own (Has.app h.has) (by omega)) ?_
  simp (disch := omega) only [splice, ↓SXd, SXu, slBounds, ↓sop, ↓aop, ↓reduceIte, LV.cells, AOp.dst, LV.I, LV.B, LV.U, LV.S, LV.nil, Nat.reduceEqDiff, Nat.reduceAdd, Nat.reduceMul, Nat.reduceSub, Nat.reduceLeDiff, Nat.reduceBEq, Nat.reduceDiv, Nat.reduceMod, Int.reduceToNat, Int.reduceLT, Int.reduceLE, Int.reduceAdd, Int.reduceSub, Int.reduceMul, Int.reduceEq, Int.reduceNeg, reduceCtorEq, resV, resAll, ARes.ev, LV.flat, ite_true, ite_false, exists_eq_left', exists_eq_left, keyOf, implies_true, fillC, capOf]
  have hcs := hH.pick
  refine ev_loop (fun m fr M' => ∃ (q : Cell → Bool) (refs : List LV) (L : List (List Cell)) (to tl : Nat), clus x y z 65 (fun d => decide (d ∈ cs)) = L ++ clus x y z m q ∧ (pick x y z q).length < m ∧ Pre M M' ∧ Live M' M.length (.row [.I x, .I y, .I z, .ref t 0 cs.length] true 0) ∧
    Live M' (M.length + 3) (.row [.I x, .I y, .I z, .ref tl 0 (pick x y z q).length] true 0) ∧ Live M' tl (.row (triL (pick x y z q)) true 3) ∧ M.length + 1 ≤ to ∧ Live M' to (.row refs true 1) ∧ Css M' M.length M'.length refs L ∧ refs.length = L.length ∧ L.length + m ≤ 65 ∧
    fr 1 = .ptr M.length 0 ∧ fr 3 = .ref to 0 refs.length ∧ fr 4 = .ptr (M.length + 3) 0) 65
    ⟨fun d => decide (d ∈ cs), [], [], M.length + 1, M.length + 2, rfl, by rw [← hcs]; omega, Pre.app _ _, Live.new, by rw [← hcs]; exact Live.newj rfl, by rw [← hcs]; exact Live.newj rfl, by omega, Live.newj rfl, trivial, rfl, by simp, rfl, rfl, rfl⟩ ?_
  clear hcs
  rintro m fr M' ⟨q, refs, L, to, tl, hparts, hfuel, hpre, hbox, hlb, hlr, hto, hout, hcss, hrl, hLm, f1, f3, f4⟩
  have hl0 := hlb.lt
  have hl1 := hlr.lt
  have hl2 := hout.lt
  simp (disch := omega) only [f1, f3, f4, hlb.cell, ↓SXd, SXu, slBounds, ↓sop, ↓aop, ↓reduceIte, LV.cells, AOp.dst, LV.I, LV.B, LV.U, LV.S, LV.nil, Nat.reduceEqDiff, Nat.reduceAdd, Nat.reduceMul, Nat.reduceSub, Nat.reduceLeDiff, Nat.reduceBEq, Nat.reduceDiv, Nat.reduceMod, Int.reduceToNat, Int.reduceLT, Int.reduceLE, Int.reduceAdd, Int.reduceSub, Int.reduceMul, Int.reduceEq, Int.reduceNeg, reduceCtorEq, resV, resAll, ARes.ev, LV.flat, ite_true, ite_false, exists_eq_left', exists_eq_left, keyOf, implies_true, fillC, capOf]
  refine condC_dec (fun hlt => ?_) (fun hlt => ?_)
  rotate_left
  · simp (disch := omega) only [f1, f3, f4, ↓SXd, SXu, slBounds, ↓sop, ↓aop, ↓reduceIte, LV.cells, AOp.dst, LV.I, LV.B, LV.U, LV.S, LV.nil, Nat.reduceEqDiff, Nat.reduceAdd, Nat.reduceMul, Nat.reduceSub, Nat.reduceLeDiff, Nat.reduceBEq, Nat.reduceDiv, Nat.reduceMod, Int.reduceToNat, Int.reduceLT, Int.reduceLE, Int.reduceAdd, Int.reduceSub, Int.reduceMul, Int.reduceEq, Int.reduceNeg, reduceCtorEq, resV, resAll, ARes.ev, LV.flat, ite_true, ite_false, exists_eq_left', exists_eq_left, keyOf, implies_true, fillC, capOf]
    have hnil : pick x y z q = [] := List.eq_nil_of_length_eq_zero (by omega)
    have : clus x y z m q = [] := by cases m with
      | zero => rfl
      | succ m => simp only [clus, hnil]
    rw [this, List.append_nil] at hparts
    rw [hparts]
    exact ⟨to, refs, rfl, by omega, hout, hcss, hpre⟩
  · obtain ⟨c, rs, hpk⟩ : ∃ c rs, pick x y z q = c :: rs := by
      cases hh : pick x y z q with
      | nil => rw [hh] at hlt; simp at hlt
      | cons c rs => exact ⟨c, rs, rfl⟩
    have hcq := (mem_pick hS (p := q) (c := c)).1 (by rw [hpk]; simp)
    have hg0 : (pick x y z q).getD 0 default = c := by rw [hpk]; rfl
    have hc0 := hlr.tri0 (k := 0) (by omega)
    rw [hg0, Nat.zero_mul] at hc0
    simp (disch := omega) only [f1, f3, f4, hbox.cell, hlb.cell, hc0, Cell.row, List.getElem?_append_left, splice, ↓SXd, SXu, slBounds, ↓sop, ↓aop, ↓reduceIte, LV.cells, AOp.dst, LV.I, LV.B, LV.U, LV.S, LV.nil, Nat.reduceEqDiff, Nat.reduceAdd, Nat.reduceMul, Nat.reduceSub, Nat.reduceLeDiff, Nat.reduceBEq, Nat.reduceDiv, Nat.reduceMod, Int.reduceToNat, Int.reduceLT, Int.reduceLE, Int.reduceAdd, Int.reduceSub, Int.reduceMul, Int.reduceEq, Int.reduceNeg, reduceCtorEq, resV, resAll, ARes.ev, LV.flat, ite_true, ite_false, exists_eq_left', exists_eq_left, keyOf, implies_true, fillC, capOf]
    refine callK_of (h_l2Empty) ?_
    simp (disch := omega) only [f1, f3, f4, List.getElem?_append_left, splice, ↓SXd, SXu, slBounds, ↓sop, ↓aop, ↓reduceIte, LV.cells, AOp.dst, LV.I, LV.B, LV.U, LV.S, LV.nil, Nat.reduceEqDiff, Nat.reduceAdd, Nat.reduceMul, Nat.reduceSub, Nat.reduceLeDiff, Nat.reduceBEq, Nat.reduceDiv, Nat.reduceMod, Int.reduceToNat, Int.reduceLT, Int.reduceLE, Int.reduceAdd, Int.reduceSub, Int.reduceMul, Int.reduceEq, Int.reduceNeg, reduceCtorEq, resV, resAll, ARes.ev, LV.flat, ite_true, ite_false, exists_eq_left', exists_eq_left, keyOf, implies_true, fillC, capOf]
    have e1 : Live (M' ++ [some (.row [.I c.a, .I c.b, .I c.c] true 3), some (.row [.I x, .I y, .I z, .ref (M'.length + 2) 0 0] true 0), some (.row [] true 3)]) M'.length (.row [.I c.a, .I c.b, .I c.c] true 3) := Live.new
    have e2 : Live (M' ++ [some (.row [.I c.a, .I c.b, .I c.c] true 3), some (.row [.I x, .I y, .I z, .ref (M'.length + 2) 0 0] true 0), some (.row [] true 3)]) (M'.length + 1) (.row [.I x, .I y, .I z, .ref (M'.length + 2) 0 0] true 0) := Live.newj rfl
    have e3 : Live (M' ++ [some (.row [.I c.a, .I c.b, .I c.c] true 3), some (.row [.I x, .I y, .I z, .ref (M'.length + 2) 0 0] true 0), some (.row [] true 3)]) (M'.length + 2) (.row [] true 3) := Live.newj rfl
    have hp1 : Pre M' (M' ++ [some (.row [.I c.a, .I c.b, .I c.c] true 3), some (.row [.I x, .I y, .I z, .ref (M'.length + 2) 0 0] true 0), some (.row [] true 3)]) := Pre.app _ _
    generalize M' ++ [some (.row [.I c.a, .I c.b, .I c.c] true 3), some (.row [.I x, .I y, .I z, .ref (M'.length + 2) 0 0] true 0), some (.row [] true 3)] = N1 at e1 e2 e3 hp1 ⊢
    have hlb1 := hlb.pre hp1
    have hlr1 := hlr.pre hp1
    simp (disch := omega) only [f1, f3, f4, hlb1.cells, e1.cells, ↓SXd, SXu, slBounds, ↓sop, ↓aop, ↓reduceIte, LV.cells, AOp.dst, LV.I, LV.B, LV.U, LV.S, LV.nil, Nat.reduceEqDiff, Nat.reduceAdd, Nat.reduceMul, Nat.reduceSub, Nat.reduceLeDiff, Nat.reduceBEq, Nat.reduceDiv, Nat.reduceMod, Int.reduceToNat, Int.reduceLT, Int.reduceLE, Int.reduceAdd, Int.reduceSub, Int.reduceMul, Int.reduceEq, Int.reduceNeg, reduceCtorEq, resV, resAll, ARes.ev, LV.flat, ite_true, ite_false, exists_eq_left', exists_eq_left, keyOf, implies_true, fillC, capOf]
    refine callH_of (h_l2Without hlr1.has (by have := pick_len hS q; omega)) ?_
    intro tl2 N2 htl2 hp2 hlr2
    rw [cell_eta, filter_pick] at hlr2 ⊢
    simp (disch := omega) only [f1, f3, f4, ↓SXd, SXu, slBounds, ↓sop, ↓aop, ↓reduceIte, LV.cells, AOp.dst, LV.I, LV.B, LV.U, LV.S, LV.nil, Nat.reduceEqDiff, Nat.reduceAdd, Nat.reduceMul, Nat.reduceSub, Nat.reduceLeDiff, Nat.reduceBEq, Nat.reduceDiv, Nat.reduceMod, Int.reduceToNat, Int.reduceLT, Int.reduceLE, Int.reduceAdd, Int.reduceSub, Int.reduceMul, Int.reduceEq, Int.reduceNeg, reduceCtorEq, resV, resAll, ARes.ev, LV.flat, ite_true, ite_false, exists_eq_left', exists_eq_left, keyOf, implies_true, fillC, capOf]
    refine memK_box (hlb1.pre hp2) (by simp) fun N3 k1 k2 k3 => ?_
    simp (disch := omega) only [f1, f3, f4, ↓SXd, SXu, slBounds, ↓sop, ↓aop, ↓reduceIte, LV.cells, AOp.dst, LV.I, LV.B, LV.U, LV.S, LV.nil, Nat.reduceEqDiff, Nat.reduceAdd, Nat.reduceMul, Nat.reduceSub, Nat.reduceLeDiff, Nat.reduceBEq, Nat.reduceDiv, Nat.reduceMod, Int.reduceToNat, Int.reduceLT, Int.reduceLE, Int.reduceAdd, Int.reduceSub, Int.reduceMul, Int.reduceEq, Int.reduceNeg, reduceCtorEq, resV, resAll, ARes.ev, LV.flat, ite_true, ite_false, exists_eq_left', exists_eq_left, keyOf, implies_true, fillC, capOf]
    have hN1 := hp1.1
    have hN1' := e3.lt
    have hN2 := hp2.1
    have hM3 : M.length + 3 < M'.length := hl0
    have hno := hout.ne_esz hlb (by decide)
    have hlr3 := live_step hlr2 (by omega) k3
    have hbox3 := live_step ((hbox.pre hp1).pre hp2) (by omega) k3
    have hout3 := live_step ((hout.pre hp1).pre hp2) (by omega) k3
    have g1 := live_step (e1.pre hp2) (by omega) k3
    have g2 := live_step (e2.pre hp2) (by omega) k3
    have g3 := live_step (e3.pre hp2) (by omega) k3
    have hpre3 := pre_step ((hpre.trans hp1).trans hp2) (by omega) (j := 0) k1 k3
    have hcss3 := ((hcss.pre hp1).pre hp2).keep (.inr ⟨_, _, _, hlb1.pre hp2, by decide⟩) k3
    have hrows : ∀ l : List Cell, (Blk.row [.I c.a, .I c.b, .I c.c] true 3) = .row (triL [c]) true 3 := fun _ => rfl
    refine ev_loop (fun m2 fr N => ∃ (n : Nat) (list : List Cell) (ti tl tp : Nat), n + m2 = 64 ∧ n ≤ list.length ∧ QueT x y z q c n list ∧ Pre M N ∧ Live N M.length (.row [.I x, .I y, .I z, .ref t 0 cs.length] true 0) ∧
      Live N (M.length + 3) (.row [.I x, .I y, .I z, .ref tl 0 (pick x y z fun d => q d && !decide (d ∈ list)).length] true 0) ∧ Live N tl (.row (triL (pick x y z fun d => q d && !decide (d ∈ list))) true 3) ∧
      Live N (M'.length + 1) (.row [.I x, .I y, .I z, .ref tp 0 (pick x y z fun d => decide (d ∈ list.take n)).length] true 0) ∧ Live N tp (.row (triL (pick x y z fun d => decide (d ∈ list.take n))) true 3) ∧
      Live N ti (.row (triL list) true 3) ∧ Live N to (.row refs true 1) ∧ Css N M.length M'.length refs L ∧ M'.length ≤ ti ∧ M'.length ≤ tl ∧ M'.length ≤ tp ∧ ti ≠ tl ∧ ti ≠ tp ∧ ti ≠ M'.length + 1 ∧
      fr 1 = .ptr M.length 0 ∧ fr 3 = .ref to 0 refs.length ∧ fr 4 = .ptr (M.length + 3) 0 ∧ fr 5 = .ptr (M'.length + 1) 0 ∧ fr 6 = .ref ti 0 list.length ∧ fr 7 = .I n) 64
      ⟨0, [c], M'.length, tl2, M'.length + 2, rfl, by simp, ⟨by simp, fun d hd => by rw [List.mem_singleton.1 hd]; exact ⟨hcq.1, hcq.2, .base hcq.1 (by simp)⟩, by simp, by omega⟩, hpre3, hbox3, ?_, ?_, ?_, ?_, g1, hout3, hcss3, by omega, by omega, by omega, by omega, by omega, by omega, f1, f3, f4, rfl, rfl, rfl⟩ ?_
    · rw [pick_congr hS (p := fun d => q d && !decide (d ∈ [c])) (q := fun d => q d && !decide (d = c)) fun d _ => by simp]; exact k2
    · rw [pick_congr hS (p := fun d => q d && !decide (d ∈ [c])) (q := fun d => q d && !decide (d = c)) fun d _ => by simp]; exact hlr3
    · rw [show pick x y z (fun d => decide (d ∈ [c].take 0)) = [] by unfold pick; rw [List.filter_eq_nil_iff]; simp]; exact g2
    · rw [show pick x y z (fun d => decide (d ∈ [c].take 0)) = [] by unfold pick; rw [List.filter_eq_nil_iff]; simp]; exact g3
    clear f1 f3 f4 hbox hlb hlr hout hcss hpre hlb1 hlr1 hlr2 k1 k2 k3 hlr3 hbox3 hout3 g1 g2 g3 hpre3 hcss3 e1 e2 e3 hp1 hp2 hN1 hN1' hN2 htl2 hno hc0 hl0 hl1 hl2
    rintro m2 fr N ⟨n, list, ti, tl, tp, hnm, hnl, hque, hpre, hbox, hlb, hlr, hpb, hpr, hli, hout, hcss, hti, htl, htp, hd1, hd2, hd3, f1, f3, f4, f5, f6, f7⟩
    have hll := nodup_len hS hque.nodup fun d hd => (hque.mem d hd).1
    have hNl := hpb.lt
    have hl0 := hlb.lt
    simp (disch := omega) only [f1, f3, f4, f5, f6, f7, ↓SXd, SXu, slBounds, ↓sop, ↓aop, ↓reduceIte, LV.cells, AOp.dst, LV.I, LV.B, LV.U, LV.S, LV.nil, Nat.reduceEqDiff, Nat.reduceAdd, Nat.reduceMul, Nat.reduceSub, Nat.reduceLeDiff, Nat.reduceBEq, Nat.reduceDiv, Nat.reduceMod, Int.reduceToNat, Int.reduceLT, Int.reduceLE, Int.reduceAdd, Int.reduceSub, Int.reduceMul, Int.reduceEq, Int.reduceNeg, reduceCtorEq, resV, resAll, ARes.ev, LV.flat, ite_true, ite_false, exists_eq_left', exists_eq_left, keyOf, implies_true, fillC, capOf]
    refine condC_dec (fun hlt2 => ?_) (fun hlt2 => ?_)
    · have hnl' : n < list.length := by omega
      have hlc := hli.tri0 hnl'
      have hcn := hque.mem _ (getD_mem' (d := default) hnl')
      have hpk2 := pick_ok hS fun d => decide (d ∈ list.take n)
      simp (disch := omega) only [f1, f3, f4, f5, f6, f7, hpb.cells, hlc, Cell.row, ↓SXd, SXu, slBounds, ↓sop, ↓aop, ↓reduceIte, LV.cells, AOp.dst, LV.I, LV.B, LV.U, LV.S, LV.nil, Nat.reduceEqDiff, Nat.reduceAdd, Nat.reduceMul, Nat.reduceSub, Nat.reduceLeDiff, Nat.reduceBEq, Nat.reduceDiv, Nat.reduceMod, Int.reduceToNat, Int.reduceLT, Int.reduceLE, Int.reduceAdd, Int.reduceSub, Int.reduceMul, Int.reduceEq, Int.reduceNeg, reduceCtorEq, resV, resAll, ARes.ev, LV.flat, ite_true, ite_false, exists_eq_left', exists_eq_left, keyOf, implies_true, fillC, capOf]
      refine callH_of (h_l2With hpr hpk2 hcn.1) ?_
      intro tp2 N2 htp2 hp2 hpr2
      rw [pick_take_step hS hnl'] at hpr2 ⊢
      simp (disch := omega) only [f1, f3, f4, f5, f6, f7, ↓SXd, SXu, slBounds, ↓sop, ↓aop, ↓reduceIte, LV.cells, AOp.dst, LV.I, LV.B, LV.U, LV.S, LV.nil, Nat.reduceEqDiff, Nat.reduceAdd, Nat.reduceMul, Nat.reduceSub, Nat.reduceLeDiff, Nat.reduceBEq, Nat.reduceDiv, Nat.reduceMod, Int.reduceToNat, Int.reduceLT, Int.reduceLE, Int.reduceAdd, Int.reduceSub, Int.reduceMul, Int.reduceEq, Int.reduceNeg, reduceCtorEq, resV, resAll, ARes.ev, LV.flat, ite_true, ite_false, exists_eq_left', exists_eq_left, keyOf, implies_true, fillC, capOf]
      refine memK_box (hpb.pre hp2) (by simp) fun N3 k1 k2 k3 => ?_
      have hN2 := hp2.1
      have hlb3 := live_step (hlb.pre hp2) (by omega) k3
      have hlr3 := live_step (hlr.pre hp2) (hlr.ne_esz hpb (by decide)) k3
      have hli3 := live_step (hli.pre hp2) (by omega) k3
      have hbox3 := live_step (hbox.pre hp2) (by omega) k3
      have hout3 := live_step (hout.pre hp2) (hout.ne_esz hpb (by decide)) k3
      have hpr3 := live_step hpr2 (by omega) k3
      have hcss3 := (hcss.pre hp2).keep (.inr ⟨_, _, _, hpb.pre hp2, by decide⟩) k3
      have hpre3 := pre_step (hpre.trans hp2) (by omega) (j := 0) k1 k3
      have hlc3 := hli3.tri0 hnl'
      have hnx := hque.next hS hnl'
      have hN2 := hp2.1
      have hN3 : N3.length = N2.length := k1
      have hlN3 := hlr3.lt
      have hlN0 := hli.lt
      have hlN4 := hli3.lt
      have hlN5 := hpr3.lt
      simp (disch := omega) only [f1, f3, f4, f5, f6, f7, hlb3.cell, ↓SXd, SXu, slBounds, ↓sop, ↓aop, ↓reduceIte, LV.cells, AOp.dst, LV.I, LV.B, LV.U, LV.S, LV.nil, Nat.reduceEqDiff, Nat.reduceAdd, Nat.reduceMul, Nat.reduceSub, Nat.reduceLeDiff, Nat.reduceBEq, Nat.reduceDiv, Nat.reduceMod, Int.reduceToNat, Int.reduceLT, Int.reduceLE, Int.reduceAdd, Int.reduceSub, Int.reduceMul, Int.reduceEq, Int.reduceNeg, reduceCtorEq, resV, resAll, ARes.ev, LV.flat, ite_true, ite_false, exists_eq_left', exists_eq_left, keyOf, implies_true, fillC, capOf]
      have hnrl := pick_len hS fun d => q d && !decide (d ∈ list)
      have hrin : ∀ d ∈ pick x y z (fun d => q d && !decide (d ∈ list)), d.inBox x y z := fun d hd => ((mem_pick hS).1 hd).1
      have hnx2 := nodup_len hS hnx.nodup fun d hd => (hnx.mem d hd).1
      generalize hnrd : pick x y z (fun d => q d && !decide (d ∈ list)) = nr at hlr3 hnx hnrl hlb3 hrin hnx2 ⊢
      refine ev_loop (fun m3 fr N => ∃ (i ti tl2 : Nat), i + m3 = nr.length ∧ Pre M N ∧ Live N M.length (.row [.I x, .I y, .I z, .ref t 0 cs.length] true 0) ∧
        Live N (M.length + 3) (.row [.I x, .I y, .I z, .ref tl2 0 (pick x y z fun d => q d && !decide (d ∈ list ++ (nr.take i).filter fun d => touchC d (list.getD n default))).length] true 0) ∧ Live N tl2 (.row (triL (pick x y z fun d => q d && !decide (d ∈ list ++ (nr.take i).filter fun d => touchC d (list.getD n default)))) true 3) ∧
        Live N (M'.length + 1) (.row [.I x, .I y, .I z, .ref tp2 0 (pick x y z fun d => decide (d ∈ list.take (n + 1))).length] true 0) ∧ Live N tp2 (.row (triL (pick x y z fun d => decide (d ∈ list.take (n + 1)))) true 3) ∧
        Live N ti (.row (triL (list ++ (nr.take i).filter fun d => touchC d (list.getD n default))) true 3) ∧ Live N tl (.row (triL nr) true 3) ∧ Live N to (.row refs true 1) ∧ Css N M.length M'.length refs L ∧ M'.length ≤ ti ∧ M'.length ≤ tl2 ∧ M'.length ≤ tp2 ∧ ti ≠ tl2 ∧ ti ≠ tp2 ∧ ti ≠ M'.length + 1 ∧ ti ≠ tl ∧
        fr 1 = .ptr M.length 0 ∧ fr 3 = .ref to 0 refs.length ∧ fr 4 = .ptr (M.length + 3) 0 ∧ fr 5 = .ptr (M'.length + 1) 0 ∧ fr 6 = .ref ti 0 (list ++ (nr.take i).filter fun d => touchC d (list.getD n default)).length ∧ fr 7 = .I n ∧ fr 8 = .ref tl 0 nr.length ∧ fr 9 = .I i) nr.length
        ⟨0, ti, tl, by omega, hpre3, hbox3, by simpa [hnrd] using hlb3, by simpa [hnrd] using hlr3, k2, hpr3, by simpa using hli3, hlr3, hout3, hcss3, hti, htl, by omega, hd1, by omega, hd3, hd1, f1, f3, f4, f5, by simp only [List.take_zero, List.filter_nil, List.append_nil]; exact f6, f7, rfl, rfl⟩ ?_
      clear f1 f3 f4 f5 f6 f7 hpre3 hbox3 hlb3 hlr3 k2 hpr3 hli3 hout3 hcss3 hlb hlr hpb hpr hli hout hcss hpre hbox k1 k3 hlc
      have hd1' := hd1
      clear hti htl htp hd1 hd2 hd3
      rintro m3 fr N ⟨i, ti, tl2, hi, hpre, hbox, hlb, hlr, hpb, hpr, hli, hnr, hout, hcss, hti, htl, htp, hd1, hd2, hd3, hd4, f1, f3, f4, f5, f6, f7, f8, f9⟩
      simp (disch := omega) only [f1, f3, f4, f5, f6, f7, f8, f9, ↓SXd, SXu, slBounds, ↓sop, ↓aop, ↓reduceIte, LV.cells, AOp.dst, LV.I, LV.B, LV.U, LV.S, LV.nil, Nat.reduceEqDiff, Nat.reduceAdd, Nat.reduceMul, Nat.reduceSub, Nat.reduceLeDiff, Nat.reduceBEq, Nat.reduceDiv, Nat.reduceMod, Int.reduceToNat, Int.reduceLT, Int.reduceLE, Int.reduceAdd, Int.reduceSub, Int.reduceMul, Int.reduceEq, Int.reduceNeg, reduceCtorEq, resV, resAll, ARes.ev, LV.flat, ite_true, ite_false, exists_eq_left', exists_eq_left, keyOf, implies_true, fillC, capOf]
      refine condC_dec (fun hlt3 => ?_) (fun hlt3 => ?_)
      · have hin : i < nr.length := by omega
        have hnc := hnr.tri0 hin
        have hlk : (list ++ (nr.take i).filter fun d => touchC d (list.getD n default)).getD n default = list.getD n default := by
          simp only [List.getD_eq_getElem?_getD]; rw [List.getElem?_append_left hnl']
        have hlc := hli.tri0 (k := n) (by rw [List.length_append]; omega)
        rw [hlk] at hlc
        have hlen : (n : Int) < ((list ++ (nr.take i).filter fun d => touchC d (list.getD n default)).length : Nat) := by rw [List.length_append]; omega
        have hts : nr.take (i + 1) = nr.take i ++ [nr.getD i default] := by
          rw [List.take_succ, List.getElem?_eq_getElem hin]; simp [hin]
        have hfl : ((nr.take i).filter fun d => touchC d (list.getD n default)).length ≤ 64 := by
          have h1 := List.length_filter_le (fun d => touchC d (list.getD n default)) (nr.take i)
          have h2 : (nr.take i).length ≤ nr.length := by simp; omega
          omega
        have hll2 : (list ++ (nr.take i).filter fun d => touchC d (list.getD n default)).length ≤ 1000 := by rw [List.length_append]; omega
        simp (disch := omega) only [f1, f3, f4, f5, f6, f7, f8, f9, hnc, Cell.row, hlc, hlen, ↓SXd, SXu, slBounds, ↓sop, ↓aop, ↓reduceIte, LV.cells, AOp.dst, LV.I, LV.B, LV.U, LV.S, LV.nil, Nat.reduceEqDiff, Nat.reduceAdd, Nat.reduceMul, Nat.reduceSub, Nat.reduceLeDiff, Nat.reduceBEq, Nat.reduceDiv, Nat.reduceMod, Int.reduceToNat, Int.reduceLT, Int.reduceLE, Int.reduceAdd, Int.reduceSub, Int.reduceMul, Int.reduceEq, Int.reduceNeg, reduceCtorEq, resV, resAll, ARes.ev, LV.flat, ite_true, ite_false, exists_eq_left', exists_eq_left, keyOf, implies_true, fillC, capOf]
        refine callK_of (h_l6Touch hS (hrin _ (getD_mem' (d := default) hin)) hcn.1) ?_
        simp (disch := omega) only [f1, f3, f4, f5, f6, f7, f8, f9, ↓SXd, SXu, slBounds, ↓sop, ↓aop, ↓reduceIte, LV.cells, AOp.dst, LV.I, LV.B, LV.U, LV.S, LV.nil, Nat.reduceEqDiff, Nat.reduceAdd, Nat.reduceMul, Nat.reduceSub, Nat.reduceLeDiff, Nat.reduceBEq, Nat.reduceDiv, Nat.reduceMod, Int.reduceToNat, Int.reduceLT, Int.reduceLE, Int.reduceAdd, Int.reduceSub, Int.reduceMul, Int.reduceEq, Int.reduceNeg, reduceCtorEq, resV, resAll, ARes.ev, LV.flat, ite_true, ite_false, exists_eq_left', exists_eq_left, keyOf, implies_true, fillC, capOf]
        by_cases htc : touchC (nr.getD i default) (list.getD n default) = true
        · have hfs : (nr.take (i + 1)).filter (fun d => touchC d (list.getD n default)) = (nr.take i).filter (fun d => touchC d (list.getD n default)) ++ [nr.getD i default] := by
            rw [hts, List.filter_append, List.filter_cons_of_pos (p := fun d => touchC d (list.getD n default)) htc, List.filter_nil]
          simp (disch := omega) only [f1, f3, f4, f5, f6, f7, f8, f9, htc, hnc, Cell.row, splice, ↓SXd, SXu, slBounds, ↓sop, ↓aop, ↓reduceIte, LV.cells, AOp.dst, LV.I, LV.B, LV.U, LV.S, LV.nil, Nat.reduceEqDiff, Nat.reduceAdd, Nat.reduceMul, Nat.reduceSub, Nat.reduceLeDiff, Nat.reduceBEq, Nat.reduceDiv, Nat.reduceMod, Int.reduceToNat, Int.reduceLT, Int.reduceLE, Int.reduceAdd, Int.reduceSub, Int.reduceMul, Int.reduceEq, Int.reduceNeg, reduceCtorEq, resV, resAll, ARes.ev, LV.flat, ite_true, ite_false, exists_eq_left', exists_eq_left, keyOf, implies_true, fillC, capOf]
          refine appendK_cell hli (by omega) fun N5 l1 l2 l3 => ?_
          have hlb5 := live_step hlb (hlb.ne_esz hli (by decide)) l3
          have hnr5 := live_step hnr (by omega) l3
          have hlr5 := live_step hlr (by omega) l3
          rw [cell_eta, List.append_assoc, ← hfs] at l2
          have hnc5 := hnr5.tri0 hin
          simp (disch := omega) only [f1, f3, f4, f5, f6, f7, f8, f9, hlb5.cells, hnc5, Cell.row, ↓SXd, SXu, slBounds, ↓sop, ↓aop, ↓reduceIte, LV.cells, AOp.dst, LV.I, LV.B, LV.U, LV.S, LV.nil, Nat.reduceEqDiff, Nat.reduceAdd, Nat.reduceMul, Nat.reduceSub, Nat.reduceLeDiff, Nat.reduceBEq, Nat.reduceDiv, Nat.reduceMod, Int.reduceToNat, Int.reduceLT, Int.reduceLE, Int.reduceAdd, Int.reduceSub, Int.reduceMul, Int.reduceEq, Int.reduceNeg, reduceCtorEq, resV, resAll, ARes.ev, LV.flat, ite_true, ite_false, exists_eq_left', exists_eq_left, keyOf, implies_true, fillC, capOf]
          refine callH_of (h_l2Without hlr5.has (by have := pick_len hS fun d => q d && !decide (d ∈ list ++ (nr.take i).filter fun d => touchC d (list.getD n default)); omega)) ?_
          intro tl3 N6 htl3 hp6 hlr6
          have hpe : pick x y z (fun d => (q d && !decide (d ∈ list ++ (nr.take i).filter fun d => touchC d (list.getD n default))) && !decide (d = nr.getD i default)) = pick x y z fun d => q d && !decide (d ∈ list ++ (nr.take (i + 1)).filter fun d => touchC d (list.getD n default)) := pick_congr hS fun d _ => by
            rw [hfs, ← List.append_assoc]
            simp only [List.mem_append (s := list ++ (nr.take i).filter fun d => touchC d (list.getD n default)), List.mem_singleton, Bool.decide_or, Bool.not_or, Bool.and_assoc]
          rw [cell_eta, filter_pick, hpe] at hlr6 ⊢
          simp (disch := omega) only [f1, f3, f4, f5, f6, f7, f8, f9, ↓SXd, SXu, slBounds, ↓sop, ↓aop, ↓reduceIte, LV.cells, AOp.dst, LV.I, LV.B, LV.U, LV.S, LV.nil, Nat.reduceEqDiff, Nat.reduceAdd, Nat.reduceMul, Nat.reduceSub, Nat.reduceLeDiff, Nat.reduceBEq, Nat.reduceDiv, Nat.reduceMod, Int.reduceToNat, Int.reduceLT, Int.reduceLE, Int.reduceAdd, Int.reduceSub, Int.reduceMul, Int.reduceEq, Int.reduceNeg, reduceCtorEq, resV, resAll, ARes.ev, LV.flat, ite_true, ite_false, exists_eq_left', exists_eq_left, keyOf, implies_true, fillC, capOf]
          refine memK_box (hlb5.pre hp6) (by simp) fun N7 j1 j2 j3 => ?_
          have hlM := hpb.lt
          have hl6 := hp6.1
          have hla := hpr.lt
          have hlb' := hnr.lt
          simp (disch := omega) only [f1, f3, f4, f5, f6, f7, f8, f9, ↓SXd, SXu, slBounds, ↓sop, ↓aop, ↓reduceIte, LV.cells, AOp.dst, LV.I, LV.B, LV.U, LV.S, LV.nil, Nat.reduceEqDiff, Nat.reduceAdd, Nat.reduceMul, Nat.reduceSub, Nat.reduceLeDiff, Nat.reduceBEq, Nat.reduceDiv, Nat.reduceMod, Int.reduceToNat, Int.reduceLT, Int.reduceLE, Int.reduceAdd, Int.reduceSub, Int.reduceMul, Int.reduceEq, Int.reduceNeg, reduceCtorEq, resV, resAll, ARes.ev, LV.flat, ite_true, ite_false, exists_eq_left', exists_eq_left, keyOf, implies_true, fillC, capOf]
          refine ⟨m3 - 1, by omega, i + 1, N.length + 1, tl3, by omega, pre_step ((pre_step hpre (by omega) l1 l3).trans hp6) (by omega) (j := 0) j1 j3, live_step ((live_step hbox (hbox.ne_esz hli (by decide)) l3).pre hp6) (by omega) j3, j2, live_step hlr6 (by omega) j3,
            live_step ((live_step hpb (by omega) l3).pre hp6) (by omega) j3, live_step ((live_step hpr (by omega) l3).pre hp6) ?_ j3, live_step (l2.pre hp6) (by omega) j3, live_step (hnr5.pre hp6) ?_ j3, live_step ((live_step hout (hout.ne_esz hli (by decide)) l3).pre hp6) ?_ j3,
            (((hcss.keep (.inl (.inl hti)) l3).pre hp6).keep (.inr ⟨_, _, _, hlb5.pre hp6, by decide⟩) j3), by omega, by omega, htp, by omega, by omega, by omega, by omega, f1, f3, f4, f5, ?_, f7, f8, eqI (natI _)⟩
          · exact hpr.ne_esz hlb (by decide)
          · exact hnr.ne_esz hlb (by decide)
          · exact hout.ne_esz hlb (by decide)
          · simp only [List.append_assoc, hfs, cell_eta]; rfl
        · have hfs : (nr.take (i + 1)).filter (fun d => touchC d (list.getD n default)) = (nr.take i).filter (fun d => touchC d (list.getD n default)) := by
            rw [hts, List.filter_append, List.filter_cons_of_neg (p := fun d => touchC d (list.getD n default)) htc, List.filter_nil, List.append_nil]
          simp (disch := omega) only [f1, f3, f4, f5, f6, f7, f8, f9, htc, ↓SXd, SXu, slBounds, ↓sop, ↓aop, ↓reduceIte, LV.cells, AOp.dst, LV.I, LV.B, LV.U, LV.S, LV.nil, Nat.reduceEqDiff, Nat.reduceAdd, Nat.reduceMul, Nat.reduceSub, Nat.reduceLeDiff, Nat.reduceBEq, Nat.reduceDiv, Nat.reduceMod, Int.reduceToNat, Int.reduceLT, Int.reduceLE, Int.reduceAdd, Int.reduceSub, Int.reduceMul, Int.reduceEq, Int.reduceNeg, reduceCtorEq, resV, resAll, ARes.ev, LV.flat, ite_true, ite_false, exists_eq_left', exists_eq_left, keyOf, implies_true, fillC, capOf]
          refine ⟨m3 - 1, by omega, i + 1, ti, tl2, by omega, hpre, hbox, by rw [hfs]; exact hlb, by rw [hfs]; exact hlr, hpb, hpr, by rw [hfs]; exact hli, hnr, hout, hcss, hti, htl, htp, hd1, hd2, hd3, hd4, f1, f3, f4, f5, by rw [hfs]; exact f6, f7, f8, eqI (natI _)⟩
      · simp (disch := omega) only [f1, f3, f4, f5, f6, f7, f8, f9, ↓SXd, SXu, slBounds, ↓sop, ↓aop, ↓reduceIte, LV.cells, AOp.dst, LV.I, LV.B, LV.U, LV.S, LV.nil, Nat.reduceEqDiff, Nat.reduceAdd, Nat.reduceMul, Nat.reduceSub, Nat.reduceLeDiff, Nat.reduceBEq, Nat.reduceDiv, Nat.reduceMod, Int.reduceToNat, Int.reduceLT, Int.reduceLE, Int.reduceAdd, Int.reduceSub, Int.reduceMul, Int.reduceEq, Int.reduceNeg, reduceCtorEq, resV, resAll, ARes.ev, LV.flat, ite_true, ite_false, exists_eq_left', exists_eq_left, keyOf, implies_true, fillC, capOf]
        have : i = nr.length := by omega
        subst this
        rw [List.take_length] at *
        have htk : (list ++ nr.filter fun d => touchC d (list.getD n default)).take (n + 1) = list.take (n + 1) := List.take_append_of_le_length (by omega)
        exact ⟨m2 - 1, by omega, n + 1, list ++ nr.filter fun d => touchC d (list.getD n default), ti, tl2, tp2, by omega, by rw [List.length_append]; omega, hnx, hpre, hbox, hlb, hlr, by rw [htk]; exact hpb, by rw [htk]; exact hpr, hli, hout, hcss, hti, htl, htp, hd1, hd2, hd3, f1, f3, f4, f5, f6, eqI (natI _)⟩
    · have hnn : n = list.length := by omega
      subst hnn
      have hr := fun d => hque.reach (d := d) (Nat.le_refl _)
      rw [List.take_length] at hpb hpr
      have hpe : pick x y z (fun d => decide (d ∈ list)) = pick x y z (reachT x y z (fun d => decide (d = c)) q) := pick_congr hS fun d _ => by
        rw [Bool.eq_iff_iff, decide_eq_true_iff]; exact hr d
      have hqe : pick x y z (fun d => q d && !decide (d ∈ list)) = pick x y z fun d => q d && !reachT x y z (fun d => decide (d = c)) q d := pick_congr hS fun d _ => by
        congr 2
        rw [Bool.eq_iff_iff, decide_eq_true_iff]; exact hr d
      rw [hpe] at hpb hpr
      rw [hqe] at hlb hlr
      simp (disch := omega) only [f1, f3, f4, f5, f6, f7, hpb.cell, splice, ↓SXd, SXu, slBounds, ↓sop, ↓aop, ↓reduceIte, LV.cells, AOp.dst, LV.I, LV.B, LV.U, LV.S, LV.nil, Nat.reduceEqDiff, Nat.reduceAdd, Nat.reduceMul, Nat.reduceSub, Nat.reduceLeDiff, Nat.reduceBEq, Nat.reduceDiv, Nat.reduceMod, Int.reduceToNat, Int.reduceLT, Int.reduceLE, Int.reduceAdd, Int.reduceSub, Int.reduceMul, Int.reduceEq, Int.reduceNeg, reduceCtorEq, resV, resAll, ARes.ev, LV.flat, ite_true, ite_false, exists_eq_left', exists_eq_left, keyOf, implies_true, fillC, capOf]
      refine appendK_1 (acc := refs) (new := [.ref tp 0 (pick x y z (reachT x y z (fun d => decide (d = c)) q)).length]) hout (by omega) rfl (by omega) (by omega) (by omega) fun N5 l1 l2 l3 => ?_
      simp (disch := omega) only [f1, f3, f4, f5, f6, f7, ↓SXd, SXu, slBounds, ↓sop, ↓aop, ↓reduceIte, LV.cells, AOp.dst, LV.I, LV.B, LV.U, LV.S, LV.nil, Nat.reduceEqDiff, Nat.reduceAdd, Nat.reduceMul, Nat.reduceSub, Nat.reduceLeDiff, Nat.reduceBEq, Nat.reduceDiv, Nat.reduceMod, Int.reduceToNat, Int.reduceLT, Int.reduceLE, Int.reduceAdd, Int.reduceSub, Int.reduceMul, Int.reduceEq, Int.reduceNeg, reduceCtorEq, resV, resAll, ARes.ev, LV.flat, ite_true, ite_false, exists_eq_left', exists_eq_left, keyOf, implies_true, fillC, capOf]
      obtain ⟨m', rfl⟩ : ∃ m', m = m' + 1 := ⟨m - 1, by omega⟩
      have hlM := hpr.lt
      have hpl := hpre.1
      have hpp : clus x y z (m' + 1) q = pick x y z (reachT x y z (fun d => decide (d = c)) q) :: clus x y z m' fun d => q d && !reachT x y z (fun d => decide (d = c)) q d := by simp only [clus, hpk]
      rw [hpp] at hparts
      refine ⟨m', by omega, fun d => q d && !reachT x y z (fun d => decide (d = c)) q d, refs ++ [.ref tp 0 (pick x y z (reachT x y z (fun d => decide (d = c)) q)).length], L ++ [pick x y z (reachT x y z (fun d => decide (d = c)) q)], N.length + 1, tl, ?_, ?_,
        pre_step hpre (by omega) l1 l3, live_step hbox (hbox.ne_esz hout (by decide)) l3, live_step hlb (hlb.ne_esz hout (by decide)) l3, live_step hlr (hlr.ne_esz hout (by decide)) l3, by omega, l2, ?_, by simp [hrl], by simp; omega, f1, ?_, f4⟩
      · rw [hparts, List.append_assoc]; rfl
      · have := filter_lt hS (l := cellsOf x y z) (p := fun d => q d && !reachT x y z (fun d => decide (d = c)) q d) (q := q) (fun a _ ha => by simp only [Bool.and_eq_true] at ha; exact ha.1)
          ⟨c, (mem_cellsOf hS).2 hcq.1, hcq.2, by rw [(reachT_iff (c := c)).2 (.base hcq.1 (by simp))]; simp⟩
        unfold pick at hfuel ⊢
        omega
      · exact (hcss.keep (.inr ⟨_, _, _, hout, by decide⟩) l3).snoc htp (by omega) (live_step hpr (hpr.ne_esz hout (by decide)) l3) (by omega)
      · rw [List.length_append, List.length_singleton]; rfl
end Go.Ab

/- The abstract code of some functions (written by a program of mine from the translation, by way of prepF). -/
namespace Go.Ab.C
open Go.Ab
def spec_l6Cavities : AFn :=
 ⟨1, 8, [.tmp 2],
 .seq (.ops [(none, .box 1 (.t 0)),
 (none, .mv 2 (.c .nil))])
 (.seq (.draw [⟨(none, .loadN 3 4 (.t 1)), [], []⟩,
 ⟨(none, .loadN 4 4 (.t 1)), [], []⟩,
 ⟨(none, .call (some 5) F.spec_l6Enclosed [(.t 4)]), [], [0]⟩,
 ⟨(none, .call (some 6) F.spec_l2Made [(.t 3), (.t 5)]), [], []⟩,
 ⟨(none, .call (some 7) F.spec_l2Parts [(.t 6)]), [], []⟩,
 ⟨(none, .mv 2 (.t 7)), [], []⟩])
 (.ret))⟩
end Go.Ab.C

/- That the program has this code. -/
namespace Go.Ab.K
open Go Go.Ab
theorem spec_l6Cavities : prepF Go.Proofs.Try.prog F.spec_l6Cavities = some C.spec_l6Cavities := by kernel_rfl
end Go.Ab.K

/- The abstract code of some functions (written by a program of mine from the translation, by way of prepF). -/
namespace Go.Ab.C
open Go.Ab
def spec_l6Steps : AFn :=
 ⟨0, 8, [.cellN 0 18],
 .seq (.ops [(none, .alloc 0 [(.I 0), (.I 0), (.I 0), (.I 0), (.I 0), (.I 0), (.I 0), (.I 0), (.I 0), (.I 0), (.I 0), (.I 0), (.I 0), (.I 0), (.I 0), (.I 0), (.I 0), (.I 0)])])
 (.seq (.ops [(none, .build 1 [(.I 0), (.I 0), (.I 0)] [(0, 1, (.c (.I (-1)))), (1, 1, (.c (.I 0))), (2, 1, (.c (.I 0)))]),
 (none, .build 2 [(.I 0), (.I 0), (.I 0)] [(0, 1, (.c (.I 1))), (1, 1, (.c (.I 0))), (2, 1, (.c (.I 0)))]),
 (none, .build 3 [(.I 0), (.I 0), (.I 0)] [(0, 1, (.c (.I 0))), (1, 1, (.c (.I (-1)))), (2, 1, (.c (.I 0)))]),
 (none, .build 4 [(.I 0), (.I 0), (.I 0)] [(0, 1, (.c (.I 0))), (1, 1, (.c (.I 1))), (2, 1, (.c (.I 0)))]),
 (none, .build 5 [(.I 0), (.I 0), (.I 0)] [(0, 1, (.c (.I 0))), (1, 1, (.c (.I 0))), (2, 1, (.c (.I (-1))))]),
 (none, .build 6 [(.I 0), (.I 0), (.I 0)] [(0, 1, (.c (.I 0))), (1, 1, (.c (.I 0))), (2, 1, (.c (.I 1)))]),
 (none, .build 7 [(.I 0), (.I 0), (.I 0), (.I 0), (.I 0), (.I 0), (.I 0), (.I 0), (.I 0), (.I 0), (.I 0), (.I 0), (.I 0), (.I 0), (.I 0), (.I 0), (.I 0), (.I 0)] [(0, 3, (.t 1)), (3, 3, (.t 2)), (6, 3, (.t 3)), (9, 3, (.t 4)), (12, 3, (.t 5)), (15, 3, (.t 6))]),
 (none, .store 18 (.t 0) (.t 7))])
 (.ret))⟩
def spec_l6Beside : AFn :=
 ⟨2, 21, [.cellN 4 3],
 .seq (.ops [(none, .box 2 (.t 0)),
 (none, .box 3 (.t 1)),
 (none, .alloc 4 [(.I 0), (.I 0), (.I 0)])])
 (.seq (.ops [(none, .idxA 5 3 1 (.t 2) (.c (.I 0))),
 (none, .load1 6 (.t 5)),
 (none, .idxA 7 3 1 (.t 3) (.c (.I 0))),
 (none, .load1 8 (.t 7)),
 (none, .bin 9 .add (.t 6) (.t 8)),
 (none, .idxA 10 3 1 (.t 2) (.c (.I 1))),
 (none, .load1 11 (.t 10)),
 (none, .idxA 12 3 1 (.t 3) (.c (.I 1))),
 (none, .load1 13 (.t 12)),
 (none, .bin 14 .add (.t 11) (.t 13)),
 (none, .idxA 15 3 1 (.t 2) (.c (.I 2))),
 (none, .load1 16 (.t 15)),
 (none, .idxA 17 3 1 (.t 3) (.c (.I 2))),
 (none, .load1 18 (.t 17)),
 (none, .bin 19 .add (.t 16) (.t 18)),
 (none, .build 20 [(.I 0), (.I 0), (.I 0)] [(0, 1, (.t 9)), (1, 1, (.t 14)), (2, 1, (.t 19))]),
 (none, .store 3 (.t 4) (.t 20))])
 (.ret))⟩
def spec_l6Enclosed : AFn :=
 ⟨1, 129, [.tmp 2],
 .seq (.ops [(none, .box 1 (.t 0)),
 (none, .mv 2 (.c .nil))])
 (.seq (.ops [(none, .fieldAddr 15 (.t 1) 0),
 (none, .load1 16 (.t 15)),
 (none, .fieldAddr 17 (.t 1) 1),
 (none, .load1 18 (.t 17)),
 (none, .fieldAddr 19 (.t 1) 2),
 (none, .load1 20 (.t 19)),
 (none, .call (some 21) F.spec_l2Empty [(.t 16), (.t 18), (.t 20)]),
 (none, .alloc 3 [(.I 0), (.I 0), (.I 0), .nil]),
 (none, .store 4 (.t 3) (.t 21))])
 (.seq (.ops [(none, .buildSl 22 0 3 [] []),
 (none, .call (some 23) F.spec_l6Steps []),
 (none, .alloc 5 [(.I 0), (.I 0), (.I 0), (.I 0), (.I 0), (.I 0), (.I 0), (.I 0), (.I 0), (.I 0), (.I 0), (.I 0), (.I 0), (.I 0), (.I 0), (.I 0), (.I 0), (.I 0)]),
 (none, .mv 4 (.t 22)),
 (none, .store 18 (.t 5) (.t 23))])
 (.seq (.seq (.ops [(none, .mv 6 (.c (.I (-1))))])
 (.block 0 (.loop (.seq (.seq (.ops [(none, .mv 24 (.t 6)),
 (none, .fieldAddr 25 (.t 1) 0),
 (none, .load1 26 (.t 25)),
 (none, .bin 27 .leq (.t 24) (.t 26))])
 (.cond (.t 27) (.skip)
 (.exit 0)))
 (.seq (.block 1 (.seq (.ops [(none, .mv 7 (.c (.I (-1))))])
 (.block 2 (.loop (.seq (.seq (.ops [(none, .mv 30 (.t 7)),
 (none, .fieldAddr 31 (.t 1) 1),
 (none, .load1 32 (.t 31)),
 (none, .bin 33 .leq (.t 30) (.t 32))])
 (.cond (.t 33) (.skip)
 (.exit 2)))
 (.seq (.block 3 (.seq (.ops [(none, .mv 8 (.c (.I (-1))))])
 (.block 4 (.loop (.seq (.seq (.ops [(none, .mv 36 (.t 8)),
 (none, .fieldAddr 37 (.t 1) 2),
 (none, .load1 38 (.t 37)),
 (none, .bin 39 .leq (.t 36) (.t 38))])
 (.cond (.t 39) (.skip)
 (.exit 4)))
 (.seq (.block 5 (.seq (.ops [(none, .loadN 42 4 (.t 1)),
 (none, .mv 43 (.t 6)),
 (none, .mv 44 (.t 7)),
 (none, .mv 45 (.t 8)),
 (none, .build 46 [(.I 0), (.I 0), (.I 0)] [(0, 1, (.t 43)), (1, 1, (.t 44)), (2, 1, (.t 45))]),
 (none, .call (some 47) F.spec_l2In [(.t 42), (.t 46)]),
 (none, .un 48 .not (.t 47))])
 (.cond (.t 48) (.ops [(none, .mv 49 (.t 4)),
 (none, .mv 50 (.t 6)),
 (none, .mv 51 (.t 7)),
 (none, .mv 52 (.t 8)),
 (none, .build 53 [(.I 0), (.I 0), (.I 0)] [(0, 1, (.t 50)), (1, 1, (.t 51)), (2, 1, (.t 52))]),
 (none, .buildSl 54 1 3 [(.I 0), (.I 0), (.I 0)] [(0, 3, (.t 53))]),
 (none, .append 55 3 24 (.t 49) (.t 54)),
 (none, .mv 4 (.t 55))])
 (.skip))))
 (.ops [(none, .mv 40 (.t 8)),
 (none, .bin 41 .add (.t 40) (.c (.I 1))),
 (none, .mv 8 (.t 41))])))))))
 (.ops [(none, .mv 34 (.t 7)),
 (none, .bin 35 .add (.t 34) (.c (.I 1))),
 (none, .mv 7 (.t 35))])))))))
 (.ops [(none, .mv 28 (.t 6)),
 (none, .bin 29 .add (.t 28) (.c (.I 1))),
 (none, .mv 6 (.t 29))]))))))
 (.seq (.seq (.ops [(none, .mv 9 (.c (.I 0)))])
 (.block 6 (.loop (.seq (.seq (.ops [(none, .mv 56 (.t 9)),
 (none, .mv 57 (.t 4)),
 (none, .len 58 (.t 57)),
 (none, .bin 59 .lss (.t 56) (.t 58))])
 (.cond (.t 59) (.skip)
 (.exit 6)))
 (.seq (.block 7 (.seq (.ops [(none, .mv 10 (.c (.I 0)))])
 (.block 8 (.loop (.seq (.seq (.ops [(none, .mv 62 (.t 10)),
 (none, .bin 63 .lss (.t 62) (.c (.I 6)))])
 (.cond (.t 63) (.skip)
 (.exit 8)))
 (.seq (.block 9 (.seq (.draw [⟨(none, .mv 66 (.t 4)), [], []⟩,
 ⟨(none, .mv 67 (.t 9)), [], []⟩,
 ⟨(none, .idxS 68 3 (.t 66) (.t 67)), [], []⟩,
 ⟨(none, .loadN 69 3 (.t 68)), [], []⟩,
 ⟨(none, .mv 70 (.t 10)), [], []⟩,
 ⟨(none, .idxA 71 6 3 (.t 5) (.t 70)), [], []⟩,
 ⟨(none, .loadN 72 3 (.t 71)), [], []⟩,
 ⟨(none, .alloc 11 [(.I 0), (.I 0), (.I 0)]), [], []⟩,
 ⟨(none, .call (some 73) F.spec_l6Beside [(.t 69), (.t 72)]), [7], []⟩,
 ⟨(none, .store 3 (.t 11) (.t 73)), [], []⟩])
 (.seq (.ops [(none, .loadN 74 4 (.t 1)),
 (none, .loadN 75 3 (.t 11)),
 (none, .call (some 76) F.spec_l2In [(.t 74), (.t 75)]),
 (none, .mv 77 (.t 76)),
 (some (77, true), .loadN 78 4 (.t 1)),
 (some (77, true), .loadN 79 3 (.t 11)),
 (some (77, true), .call (some 80) F.spec_l2Has [(.t 78), (.t 79)]),
 (some (77, true), .un 81 .not (.t 80)),
 (none, .pick 82 (.t 77) (.t 81) (.c (.B false))),
 (none, .mv 83 (.t 82)),
 (some (83, true), .loadN 84 4 (.t 3)),
 (some (83, true), .loadN 85 3 (.t 11)),
 (some (83, true), .call (some 86) F.spec_l2Has [(.t 84), (.t 85)]),
 (some (83, true), .un 87 .not (.t 86)),
 (none, .pick 88 (.t 83) (.t 87) (.c (.B false)))])
 (.cond (.t 88) (.seq (.ops [(none, .loadN 89 4 (.t 3)),
 (none, .loadN 90 3 (.t 11)),
 (none, .call (some 91) F.spec_l2With [(.t 89), (.t 90)]),
 (none, .store 4 (.t 3) (.t 91))])
 (.ops [(none, .mv 92 (.t 4)),
 (none, .loadN 93 3 (.t 11)),
 (none, .buildSl 94 1 3 [(.I 0), (.I 0), (.I 0)] [(0, 3, (.t 93))]),
 (none, .append 95 3 24 (.t 92) (.t 94)),
 (none, .mv 4 (.t 95))]))
 (.skip)))))
 (.ops [(none, .mv 64 (.t 10)),
 (none, .bin 65 .add (.t 64) (.c (.I 1))),
 (none, .mv 10 (.t 65))])))))))
 (.ops [(none, .mv 60 (.t 9)),
 (none, .bin 61 .add (.t 60) (.c (.I 1))),
 (none, .mv 9 (.t 61))]))))))
 (.seq (.ops [(none, .buildSl 96 0 3 [] []),
 (none, .loadN 97 4 (.t 1)),
 (none, .call (some 98) F.spec_l2All [(.t 97)]),
 (none, .mv 12 (.t 96)),
 (none, .mv 13 (.t 98))])
 (.seq (.seq (.ops [(none, .mv 14 (.c (.I 0)))])
 (.block 10 (.loop (.seq (.seq (.ops [(none, .mv 99 (.t 14)),
 (none, .mv 100 (.t 13)),
 (none, .len 101 (.t 100)),
 (none, .bin 102 .lss (.t 99) (.t 101))])
 (.cond (.t 102) (.skip)
 (.exit 10)))
 (.seq (.block 11 (.seq (.draw [⟨(none, .loadN 105 4 (.t 1)), [], []⟩,
 ⟨(none, .mv 106 (.t 13)), [], []⟩,
 ⟨(none, .mv 107 (.t 14)), [], []⟩,
 ⟨(none, .idxS 108 3 (.t 106) (.t 107)), [], []⟩,
 ⟨(none, .loadN 109 3 (.t 108)), [], []⟩,
 ⟨(none, .call (some 110) F.spec_l2Has [(.t 105), (.t 109)]), [], []⟩,
 ⟨(none, .un 111 .not (.t 110)), [], []⟩,
 ⟨(none, .mv 112 (.t 111)), [], []⟩,
 ⟨(some (112, true), .loadN 113 4 (.t 3)), [], []⟩,
 ⟨(some (112, true), .mv 114 (.t 13)), [], []⟩,
 ⟨(some (112, true), .mv 115 (.t 14)), [], []⟩,
 ⟨(some (112, true), .idxS 116 3 (.t 114) (.t 115)), [], []⟩,
 ⟨(some (112, true), .loadN 117 3 (.t 116)), [], []⟩,
 ⟨(some (112, true), .call (some 118) F.spec_l2Has [(.t 113), (.t 117)]), [], []⟩,
 ⟨(some (112, true), .un 119 .not (.t 118)), [], []⟩,
 ⟨(none, .pick 120 (.t 112) (.t 119) (.c (.B false))), [], []⟩])
 (.cond (.t 120) (.ops [(none, .mv 121 (.t 12)),
 (none, .mv 122 (.t 13)),
 (none, .mv 123 (.t 14)),
 (none, .idxS 124 3 (.t 122) (.t 123)),
 (none, .loadN 125 3 (.t 124)),
 (none, .buildSl 126 1 3 [(.I 0), (.I 0), (.I 0)] [(0, 3, (.t 125))]),
 (none, .append 127 3 24 (.t 121) (.t 126)),
 (none, .mv 12 (.t 127))])
 (.skip))))
 (.ops [(none, .mv 103 (.t 14)),
 (none, .bin 104 .add (.t 103) (.c (.I 1))),
 (none, .mv 14 (.t 104))]))))))
 (.seq (.ops [(none, .mv 128 (.t 12)),
 (none, .mv 2 (.t 128))])
 (.ret))))))))⟩
end Go.Ab.C

/- That the program has this code. -/
namespace Go.Ab.K
open Go Go.Ab
theorem spec_l6Steps : prepF Go.Proofs.Try.prog F.spec_l6Steps = some C.spec_l6Steps := by kernel_rfl
theorem spec_l6Beside : prepF Go.Proofs.Try.prog F.spec_l6Beside = some C.spec_l6Beside := by kernel_rfl
theorem spec_l6Enclosed : prepF Go.Proofs.Try.prog F.spec_l6Enclosed = some C.spec_l6Enclosed := by kernel_rfl
end Go.Ab.K

/- Plain words: a search from beyond the box. -/
namespace Go.Ab

theorem getD_get {α : Type} {l : List α} {i : Nat} {d : α} (h : i < l.length) : l.getD i d = l[i] := by simp [h]
def ExtC (x y z : Int) (c : Cell) : Prop := (-1 ≤ c.a ∧ c.a ≤ x) ∧ (-1 ≤ c.b ∧ c.b ≤ y) ∧ (-1 ≤ c.c ∧ c.c ≤ z)
theorem Cell.inBox.ext {x y z : Int} {c : Cell} (h : c.inBox x y z) : ExtC x y z c := by
  obtain ⟨⟨_, _⟩, ⟨_, _⟩, ⟨_, _⟩⟩ := h
  exact ⟨⟨by omega, by omega⟩, ⟨by omega, by omega⟩, ⟨by omega, by omega⟩⟩
/-- What comes before a place. -/
def Bef (c : Cell) (i j k : Int) : Prop := c.a < i ∨ (c.a = i ∧ (c.b < j ∨ (c.b = j ∧ c.c < k)))
structure Mgn (x y z i j k : Int) (l : List Cell) : Prop where
  mem : ∀ c ∈ l, ExtC x y z c ∧ ¬ c.inBox x y z
  all : ∀ c, ExtC x y z c → ¬ c.inBox x y z → Bef c i j k → c ∈ l
  len : (l.length : Int) ≤ (i + 1) * 36 + (j + 1) * 6 + (k + 1)
theorem Mgn.nil {x y z : Int} : Mgn x y z (-1) (-1) (-1) [] := by
  refine ⟨by simp, fun c ⟨⟨_, _⟩, ⟨_, _⟩, ⟨_, _⟩⟩ _ hb => ?_, by simp⟩
  unfold Bef at hb
  omega
theorem Mgn.out {x y z i j k : Int} {l : List Cell} (h : Mgn x y z i j k l) (hk : k < 6) (hc : ExtC x y z ⟨i, j, k⟩) (ho : ¬ Cell.inBox x y z ⟨i, j, k⟩) : Mgn x y z i j (k + 1) (l ++ [⟨i, j, k⟩]) := by
  refine ⟨fun c hm => ?_, fun c h1 h2 h3 => ?_, ?_⟩
  · rcases List.mem_append.1 hm with hm | hm
    · exact h.mem c hm
    · rw [List.mem_singleton.1 hm]; exact ⟨hc, ho⟩
  · rw [List.mem_append, List.mem_singleton, cell_eq]
    unfold Bef at h3
    by_cases hb : Bef c i j k
    · exact .inl (h.all c h1 h2 hb)
    · right; unfold Bef at hb; simp only; omega
  · have := h.len; rw [List.length_append, List.length_singleton]; omega
theorem Mgn.in {x y z i j k : Int} {l : List Cell} (h : Mgn x y z i j k l) (ho : Cell.inBox x y z ⟨i, j, k⟩) : Mgn x y z i j (k + 1) l := by
  refine ⟨h.mem, fun c h1 h2 h3 => ?_, by have := h.len; omega⟩
  unfold Bef at h3
  by_cases hb : Bef c i j k
  · exact h.all c h1 h2 hb
  · unfold Bef at hb
    exact absurd (by rw [show c = ⟨i, j, k⟩ from cell_eq.2 (by simp only; omega)]; exact ho) h2
theorem Mgn.row {x y z i j k : Int} {l : List Cell} (h : Mgn x y z i j k l) (hk : z < k) (hz : k ≤ 5) : Mgn x y z i (j + 1) (-1) l := by
  refine ⟨h.mem, fun c h1 h2 h3 => h.all c h1 h2 ?_, by have := h.len; omega⟩
  obtain ⟨_, _, _, _⟩ := h1
  unfold Bef at h3 ⊢
  omega
theorem Mgn.plane {x y z i j : Int} {l : List Cell} (h : Mgn x y z i j (-1) l) (hk : y < j) (hz : j ≤ 5) : Mgn x y z (i + 1) (-1) (-1) l := by
  refine ⟨h.mem, fun c h1 h2 h3 => h.all c h1 h2 ?_, by have := h.len; omega⟩
  obtain ⟨_, ⟨_, _⟩, _, _⟩ := h1
  unfold Bef at h3 ⊢
  omega

structure Out (x y z : Int) (p : Cell → Bool) (n k : Nat) (mg r : List Cell) : Prop where
  base : ∀ c, ExtC x y z c → ¬ c.inBox x y z → c ∈ mg
  mgm : ∀ c ∈ mg, ExtC x y z c ∧ ¬ c.inBox x y z
  nodup : r.Nodup
  mem : ∀ d ∈ r, d.inBox x y z ∧ p d = false ∧ outer x y z p d = true
  done : ∀ i, i < n → i < (mg ++ r).length → ∀ e, e.inBox x y z → p e = false → apart ((mg ++ r).getD i default) e = 1 → e ∈ r
  part : ∀ j, j < k → ((nbrs ((mg ++ r).getD n default)).getD j default).inBox x y z → p ((nbrs ((mg ++ r).getD n default)).getD j default) = false → (nbrs ((mg ++ r).getD n default)).getD j default ∈ r

section
variable {x y z : Int} {p : Cell → Bool} {n k : Nat} {mg r : List Cell}
theorem Out.skip (h : Out x y z p n k mg r) (hs : ¬ ((((nbrs ((mg ++ r).getD n default)).getD k default).inBox x y z ∧ p ((nbrs ((mg ++ r).getD n default)).getD k default) = false) ∧ (nbrs ((mg ++ r).getD n default)).getD k default ∉ r)) : Out x y z p n (k + 1) mg r :=
  ⟨h.base, h.mgm, h.nodup, h.mem, h.done, fun j hj h1 h2 => by
    rcases Nat.lt_or_ge j k with h3 | h3
    · exact h.part j h3 h1 h2
    · rw [show j = k by omega] at h1 h2 ⊢
      exact Classical.byContradiction fun h4 => hs ⟨⟨h1, h2⟩, h4⟩⟩
theorem Out.add (h : Out x y z p n k mg r) (hk : k < 6) (hn : n < (mg ++ r).length) {e : Cell} (he : (nbrs ((mg ++ r).getD n default)).getD k default = e) (h1 : e.inBox x y z) (h2 : p e = false) (h3 : e ∉ r) : Out x y z p n (k + 1) mg (r ++ [e]) := by
  have hg : ∀ {j}, j < (mg ++ r).length → (mg ++ (r ++ [e])).getD j default = (mg ++ r).getD j default := fun {j} hj => by
    rw [← List.append_assoc]
    simp only [List.getD_eq_getElem?_getD]; rw [List.getElem?_append_left hj]
  have hap : apart ((mg ++ r).getD n default) e = 1 := mem_nbrs.1 (by rw [← he]; exact getD_mem' (by simpa [nbrs] using hk))
  have hout : outer x y z p e = true := by
    unfold outer
    rw [reach_iff]
    rcases List.mem_append.1 (getD_mem' (d := default) hn) with hm | hm
    · refine .base h1 ?_
      have := h.mgm _ hm
      rw [h2, (onRim_iff h1).2 ⟨_, by rw [apart_comm]; exact hap, this.2⟩]; rfl
    · have := (h.mem _ hm).2.2
      unfold outer at this
      rw [reach_iff] at this
      exact .step this hap h1 (by rw [h2]; rfl)
  refine ⟨h.base, h.mgm, ?_, fun d hd => ?_, fun i hi hil d hd hpd ha => ?_, fun j hj hb hpb => ?_⟩
  · rw [List.nodup_append]
    exact ⟨h.nodup, by simp, fun a ha b hb e' => by rw [List.mem_singleton.1 hb] at e'; subst e'; exact h3 ha⟩
  · rcases List.mem_append.1 hd with hd | hd
    · exact h.mem d hd
    · rw [List.mem_singleton.1 hd]; exact ⟨h1, h2, hout⟩
  · rw [hg (by omega)] at ha
    exact List.mem_append.2 (.inl (h.done i hi (by omega) d hd hpd ha))
  · rw [hg hn] at hb hpb ⊢
    rcases Nat.lt_or_ge j k with h5 | h5
    · exact List.mem_append.2 (.inl (h.part j h5 hb hpb))
    · rw [show j = k by omega, he]; simp
theorem Out.next (h : Out x y z p n 6 mg r) : Out x y z p (n + 1) 0 mg r := by
  refine ⟨h.base, h.mgm, h.nodup, h.mem, fun i hi hil d hd hpd ha => ?_, by omega⟩
  rcases Nat.lt_or_ge i n with h1 | h1
  · exact h.done i h1 hil d hd hpd ha
  · rw [show i = n by omega] at ha
    have hm := mem_nbrs.2 ha
    obtain ⟨j, hj, rfl⟩ := List.getElem_of_mem hm
    have hj6 : j < 6 := by simpa [nbrs] using hj
    rw [← getD_get (d := default) hj] at hd hpd ⊢
    exact h.part j hj6 hd hpd
theorem Out.final (h : Out x y z p n k mg r) (hn : (mg ++ r).length ≤ n) {d : Cell} (hd : d.inBox x y z) : d ∈ r ↔ outer x y z p d = true := by
  refine ⟨fun hm => (h.mem d hm).2.2, fun ho => ?_⟩
  have key : ∀ c e, c ∈ mg ++ r → e.inBox x y z → p e = false → apart c e = 1 → e ∈ r := fun c e hc he hpe ha => by
    obtain ⟨i, hi, rfl⟩ := List.getElem_of_mem hc
    exact h.done i (by omega) hi e he hpe (by rw [getD_get hi]; exact ha)
  unfold outer at ho
  rw [reach_iff] at ho
  refine ho.ind (P := fun d => d ∈ r) (fun c hc hp => ?_) fun c e hc ha he hq => ?_
  · simp only [Bool.and_eq_true, Bool.not_eq_true'] at hp
    obtain ⟨e, h1, h2⟩ := (onRim_iff hc).1 hp.2
    refine key e c (List.mem_append.2 (.inl (h.base e ?_ h2))) hc hp.1 (by rw [apart_comm]; exact h1)
    obtain ⟨⟨_, _⟩, ⟨_, _⟩, ⟨_, _⟩⟩ := hc
    unfold apart at h1
    exact ⟨⟨by omega, by omega⟩, ⟨by omega, by omega⟩, ⟨by omega, by omega⟩⟩
  · exact key c e (List.mem_append.2 (.inr hc)) he (by simpa using hq) ha
end
end Go.Ab
