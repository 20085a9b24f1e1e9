/- Parts of the proof of FnExactCavitiesOfSaid: Qa Qb LCavitiesOf Ra Rb. -/
import Derived.Test.YtjndofbhdogblaaA8
import Derived.Test.YtjndofbhdogblaaA4
import Derived.Test.YtjndofbhdogblaaA6
import Derived.Test.YtjndofbhdogblaaA3
import Derived.Below
import Derived.Lib.SmallJoins
import Derived.Deep.Slices
import Derived.Laws.IdiomArrays
set_option linter.all false
/- Contracts: parts of sets, lists of sets; the program's CavitiesOf. -/
namespace Go.Ab
open Go
set_option linter.unusedSimpArgs false
set_option linter.unusedVariables false

/-- Sets, as the elements of a slice. -/
def setL (x y z : Int) (L : List (List Cell)) : List LV := L.map fun l => .W (bs x y z fun d => decide (d ∈ l))
theorem setL_lo {x y z : Int} {n : Nat} {L : List (List Cell)} : (setL x y z L).all (LV.lo1 n) = true := by
  rw [List.all_eq_true]; intro v hv
  obtain ⟨l, _, rfl⟩ := List.mem_map.1 hv
  rfl
theorem setL_len {x y z : Int} {L : List (List Cell)} : (setL x y z L).length = L.length := by simp [setL]
theorem setL_get {x y z : Int} {L : List (List Cell)} {i : Nat} (h : i < L.length) : (setL x y z L)[i]? = some (.W (bs x y z fun d => decide (d ∈ L.getD i []))) := by
  simp [setL, h]

section
variable {x y z : Int} (hS : Sides x y z)
include hS
theorem parts_congr' : ∀ {f : Nat} {p q : Cell → Bool}, (∀ c, c.inBox x y z → p c = q c) → parts x y z f p = parts x y z f q
  | 0, _, _, _ => rfl
  | f + 1, p, q, h => by
    have hp := pick_congr hS h
    have hr : ∀ c d, reach x y z (fun d => decide (d = c)) p d = reach x y z (fun d => decide (d = c)) q d := fun c d => by
      rw [Bool.eq_iff_iff, reach_iff, reach_iff]
      exact ⟨fun k => k.mono (fun e he h1 => .base he h1) fun e he h1 => by rw [← h e he]; exact h1, fun k => k.mono (fun e he h1 => .base he h1) fun e he h1 => by rw [h e he]; exact h1⟩
    simp only [parts]
    rw [hp]
    split
    · rfl
    · rename_i c rs hc
      rw [pick_congr hS fun d _ => hr c d, parts_congr' (f := f) fun d hd => by rw [h d hd, hr c d]]
theorem parts_pick : ∀ {f : Nat} {q : Cell → Bool}, ∀ l ∈ parts x y z f q, l = pick x y z fun d => decide (d ∈ l)
  | 0, _, l, h => by simp [parts] at h
  | f + 1, q, l, h => by
    simp only [parts] at h
    split at h
    · simp at h
    · rcases List.mem_cons.1 h with rfl | h
      · exact (pick_ok hS _).pick
      · exact parts_pick l h

theorem g_parts {q : Cell → Bool} {M : Mem} : CallsTo PG F.impl_box_parts [.agg [.I x, .I y, .I z], .W (bs x y z q)] M (.ref M.length 0 (parts x y z 65 q).length) (M ++ [some (.row (setL x y z (parts x y z 65 q)) true 1)]) := by
  refine calls_run K.impl_box_parts rfl ?_
  simp (disch := omega) only [C.impl_box_parts, ↓SXd, SXu, slBounds, ↓sop, ↓aop, ↓reduceIte, LV.cells, AOp.dst, LV.I, LV.B, LV.U, LV.S, LV.nil, Nat.reduceEqDiff, Nat.reduceAdd, Nat.reduceMul, Nat.reduceSub, Nat.reduceLeDiff, Nat.reduceBEq, Nat.reduceDiv, Nat.reduceMod, Int.reduceToNat, Int.reduceLT, Int.reduceLE, Int.reduceAdd, Int.reduceSub, Int.reduceMul, Int.reduceEq, Int.reduceNeg, reduceCtorEq, resV, resAll, ARes.ev, LV.flat, ite_true, ite_false, exists_eq_left', exists_eq_left, keyOf, implies_true, fillC, capOf]
  refine ev_loop (fun m fr M' => ∃ (p : Cell → Bool) (u : Nat) (L : List (List Cell)), parts x y z 65 q = L ++ parts x y z m p ∧ (pick x y z p).length < m ∧ L.length ≤ 65 ∧ Pre M M' ∧ Live M' M.length (.row [.I x, .I y, .I z] true 0) ∧ Live M' u (.row (setL x y z L) true 1) ∧ M.length < u ∧
    fr 1 = .W (bs x y z p) ∧ fr 2 = .ptr M.length 0 ∧ fr 5 = .ref u 0 L.length) 65
    ⟨q, M.length + 1, [], rfl, by have := pick_len hS q; omega, by simp, Pre.app _ _, Live.new, Live.newj rfl, by omega, rfl, rfl, rfl⟩ ?_
  rintro m fr M' ⟨p, u, L, hparts, hfuel, hL, hpre, hbox, hout, hu, f1, f2, f5⟩
  obtain ⟨m', rfl⟩ : ∃ m', m = m' + 1 := ⟨m - 1, by omega⟩
  simp (disch := omega) only [f1, f2, f5, ↓SXd, SXu, slBounds, ↓sop, ↓aop, ↓reduceIte, LV.cells, AOp.dst, LV.I, LV.B, LV.U, LV.S, LV.nil, Nat.reduceEqDiff, Nat.reduceAdd, Nat.reduceMul, Nat.reduceSub, Nat.reduceLeDiff, Nat.reduceBEq, Nat.reduceDiv, Nat.reduceMod, Int.reduceToNat, Int.reduceLT, Int.reduceLE, Int.reduceAdd, Int.reduceSub, Int.reduceMul, Int.reduceEq, Int.reduceNeg, reduceCtorEq, resV, resAll, ARes.ev, LV.flat, ite_true, ite_false, exists_eq_left', exists_eq_left, keyOf, implies_true, fillC, capOf]
  by_cases hz : bs x y z p = 0#64
  · simp (disch := omega) only [f1, f2, f5, hz, ↓SXd, SXu, slBounds, ↓sop, ↓aop, ↓reduceIte, LV.cells, AOp.dst, LV.I, LV.B, LV.U, LV.S, LV.nil, Nat.reduceEqDiff, Nat.reduceAdd, Nat.reduceMul, Nat.reduceSub, Nat.reduceLeDiff, Nat.reduceBEq, Nat.reduceDiv, Nat.reduceMod, Int.reduceToNat, Int.reduceLT, Int.reduceLE, Int.reduceAdd, Int.reduceSub, Int.reduceMul, Int.reduceEq, Int.reduceNeg, reduceCtorEq, resV, resAll, ARes.ev, LV.flat, ite_true, ite_false, exists_eq_left', exists_eq_left, keyOf, implies_true, fillC, capOf]
    have hnil : pick x y z p = [] := by
      have := (bs_zero hS).1 hz
      unfold pick; rw [List.filter_eq_nil_iff]
      intro c hc; rw [this c ((mem_cellsOf hS).1 hc)]; simp
    rw [show parts x y z (m' + 1) p = [] by simp only [parts, hnil], List.append_nil] at hparts
    rw [hparts]
    exact cmp_keepL hpre (by omega) hout setL_lo (by simp [rn, rn0, rn1])
  · obtain ⟨c, rs, hpk⟩ : ∃ c rs, pick x y z p = c :: rs := by
      cases hh : pick x y z p with
      | nil => exact absurd ((bs_zero hS).2 fun c hc => by
          cases hpc : p c with
          | false => rfl
          | true => have := (mem_pick hS).2 ⟨hc, hpc⟩; rw [hh] at this; cases this) hz
      | cons c rs => exact ⟨c, rs, rfl⟩
    have hcq := (mem_pick hS (p := p) (c := c)).1 (by rw [hpk]; simp)
    have hlow : ∀ d, d.inBox x y z → p d = true → ¬ d.lt c := fun d hd hpd hlt => by
      have hm := (mem_pick hS).2 ⟨hd, hpd⟩
      have hs := pick_sorted hS p
      rw [hpk] at hm hs
      rcases List.mem_cons.1 hm with rfl | hm
      · exact Cell.lt_irrefl _ hlt
      · exact Cell.lt_irrefl _ (Cell.lt_trans hlt ((List.pairwise_cons.1 hs).1 d hm))
    have hpp : parts x y z (m' + 1) p = pick x y z (reach x y z (fun d => decide (d = c)) p) :: parts x y z m' fun d => p d && !reach x y z (fun d => decide (d = c)) p d := by simp only [parts, hpk]
    rw [hpp] at hparts
    simp (disch := omega) only [f1, f2, f5, hz, hbox.cells, ↓SXd, SXu, slBounds, ↓sop, ↓aop, ↓reduceIte, LV.cells, AOp.dst, LV.I, LV.B, LV.U, LV.S, LV.nil, Nat.reduceEqDiff, Nat.reduceAdd, Nat.reduceMul, Nat.reduceSub, Nat.reduceLeDiff, Nat.reduceBEq, Nat.reduceDiv, Nat.reduceMod, Int.reduceToNat, Int.reduceLT, Int.reduceLE, Int.reduceAdd, Int.reduceSub, Int.reduceMul, Int.reduceEq, Int.reduceNeg, reduceCtorEq, resV, resAll, ARes.ev, LV.flat, ite_true, ite_false, exists_eq_left', exists_eq_left, keyOf, implies_true, fillC, capOf]
    rw [bs_low hS hcq.1 hcq.2 hlow]
    refine callK_of (g_grown hS) ?_
    simp (disch := omega) only [f1, f2, f5, ↓SXd, SXu, slBounds, ↓sop, ↓aop, ↓reduceIte, LV.cells, AOp.dst, LV.I, LV.B, LV.U, LV.S, LV.nil, Nat.reduceEqDiff, Nat.reduceAdd, Nat.reduceMul, Nat.reduceSub, Nat.reduceLeDiff, Nat.reduceBEq, Nat.reduceDiv, Nat.reduceMod, Int.reduceToNat, Int.reduceLT, Int.reduceLE, Int.reduceAdd, Int.reduceSub, Int.reduceMul, Int.reduceEq, Int.reduceNeg, reduceCtorEq, resV, resAll, ARes.ev, LV.flat, ite_true, ite_false, exists_eq_left', exists_eq_left, keyOf, implies_true, fillC, capOf]
    refine appendK_1 (acc := setL x y z L) (new := [.W (bs x y z (reach x y z (fun d => decide (d = c)) p))]) hout (by rw [setL_len]; omega) rfl (by omega) (by omega) (by omega) fun N' l1 l2 l3 => ?_
    simp (disch := omega) only [f1, f2, f5, ↓SXd, SXu, slBounds, ↓sop, ↓aop, ↓reduceIte, LV.cells, AOp.dst, LV.I, LV.B, LV.U, LV.S, LV.nil, Nat.reduceEqDiff, Nat.reduceAdd, Nat.reduceMul, Nat.reduceSub, Nat.reduceLeDiff, Nat.reduceBEq, Nat.reduceDiv, Nat.reduceMod, Int.reduceToNat, Int.reduceLT, Int.reduceLE, Int.reduceAdd, Int.reduceSub, Int.reduceMul, Int.reduceEq, Int.reduceNeg, reduceCtorEq, resV, resAll, ARes.ev, LV.flat, ite_true, ite_false, exists_eq_left', exists_eq_left, keyOf, implies_true, fillC, capOf]
    rw [bs_diff hS]
    refine ⟨m', by omega, fun d => p d && !reach x y z (fun d => decide (d = c)) p d, M'.length + 1, L ++ [pick x y z (reach x y z (fun d => decide (d = c)) p)], ?_, ?_, ?_, pre_step hpre (by omega) l1 l3, live_step hbox (by omega) l3, ?_, by have := hpre.1; omega, rfl, f2, ?_⟩
    · rw [hparts, List.append_assoc]; rfl
    · have := filter_lt hS (l := cellsOf x y z) (p := fun d => p d && !reach x y z (fun d => decide (d = c)) p d) (q := p) (fun a _ ha => by simp only [Bool.and_eq_true] at ha; exact ha.1)
        ⟨c, (mem_cellsOf hS).2 hcq.1, hcq.2, by rw [(reach_iff (c := c)).2 (.base hcq.1 (by simp))]; simp⟩
      unfold pick at hfuel ⊢
      omega
    · have h1 := parts_len (x := x) (y := y) (z := z) 65 q
      have h2 := congrArg List.length hparts
      simp only [List.length_append, List.length_cons] at h2
      simp; omega
    · rw [show setL x y z (L ++ [pick x y z (reach x y z (fun d => decide (d = c)) p)]) = setL x y z L ++ [.W (bs x y z (reach x y z (fun d => decide (d = c)) p))] by
        unfold setL
        rw [List.map_append, List.map_singleton]
        rw [(bs_eq hS).2 fun d hd => show decide (d ∈ pick x y z (reach x y z (fun d => decide (d = c)) p)) = reach x y z (fun d => decide (d = c)) p d by
          rw [Bool.eq_iff_iff, decide_eq_true_iff, mem_pick hS]; exact ⟨fun h => h.2, fun h => ⟨hd, h⟩⟩]]
      exact l2
    · rw [List.length_append, List.length_singleton]; rfl

theorem g_lists {L : List (List Cell)} {t : Nat} {w : Bool} {M : Mem} (h : Live M t (.row (setL x y z L) w 1)) (hL : L.length ≤ 1000000) (hp : ∀ l ∈ L, l = pick x y z fun d => decide (d ∈ l)) :
    CallsR PG F.impl_box_lists [.agg [.I x, .I y, .I z], .ref t 0 L.length] M fun v N => SlCC M N v L ∧ Pre M N := by
  have ht := h.lt
  refine callsR_run K.impl_box_lists rfl ?_
  simp (disch := omega) only [C.impl_box_lists, ↓SXd, SXu, slBounds, ↓sop, ↓aop, ↓reduceIte, LV.cells, AOp.dst, LV.I, LV.B, LV.U, LV.S, LV.nil, Nat.reduceEqDiff, Nat.reduceAdd, Nat.reduceMul, Nat.reduceSub, Nat.reduceLeDiff, Nat.reduceBEq, Nat.reduceDiv, Nat.reduceMod, Int.reduceToNat, Int.reduceLT, Int.reduceLE, Int.reduceAdd, Int.reduceSub, Int.reduceMul, Int.reduceEq, Int.reduceNeg, reduceCtorEq, resV, resAll, ARes.ev, LV.flat, ite_true, ite_false, exists_eq_left', exists_eq_left, keyOf, implies_true, fillC, capOf]
  refine ev_loop (fun m fr M' => ∃ (i u : Nat) (refs : List LV), i + m = L.length ∧ refs.length = i ∧ Pre M M' ∧ Live M' M.length (.row [.I x, .I y, .I z] true 0) ∧ Live M' u (.row refs true 1) ∧ M.length < u ∧ Css M' M.length M'.length refs (L.take i) ∧
    fr 2 = .ptr M.length 0 ∧ fr 5 = .ref u 0 refs.length ∧ fr 9 = .ref t 0 L.length ∧ fr 10 = .I L.length ∧ fr 11 = .I i) L.length
    ⟨0, M.length + 1, [], by omega, rfl, Pre.app _ _, Live.new, Live.newj rfl, by omega, trivial, rfl, rfl, rfl, rfl, rfl⟩ ?_
  rintro m fr M' ⟨i, u, refs, hi, hr, hpre, hbox, hout, hu, hcss, f2, f5, f9, f10, f11⟩
  simp (disch := omega) only [f2, f5, f9, f10, f11, ↓SXd, SXu, slBounds, ↓sop, ↓aop, ↓reduceIte, LV.cells, AOp.dst, LV.I, LV.B, LV.U, LV.S, LV.nil, Nat.reduceEqDiff, Nat.reduceAdd, Nat.reduceMul, Nat.reduceSub, Nat.reduceLeDiff, Nat.reduceBEq, Nat.reduceDiv, Nat.reduceMod, Int.reduceToNat, Int.reduceLT, Int.reduceLE, Int.reduceAdd, Int.reduceSub, Int.reduceMul, Int.reduceEq, Int.reduceNeg, reduceCtorEq, resV, resAll, ARes.ev, LV.flat, ite_true, ite_false, exists_eq_left', exists_eq_left, keyOf, implies_true, fillC, capOf]
  refine condC_dec (fun hlt => ?_) (fun hlt => ?_)
  · have hil : i < L.length := by omega
    have hset := (h.pre hpre).cell (o := i)
    rw [setL_get hil] at hset
    have hpi := hp _ (getD_mem' (d := []) hil)
    simp (disch := omega) only [f2, f5, f9, f10, f11, Nat.mul_one, hset, hbox.cells, ↓SXd, SXu, slBounds, ↓sop, ↓aop, ↓reduceIte, LV.cells, AOp.dst, LV.I, LV.B, LV.U, LV.S, LV.nil, Nat.reduceEqDiff, Nat.reduceAdd, Nat.reduceMul, Nat.reduceSub, Nat.reduceLeDiff, Nat.reduceBEq, Nat.reduceDiv, Nat.reduceMod, Int.reduceToNat, Int.reduceLT, Int.reduceLE, Int.reduceAdd, Int.reduceSub, Int.reduceMul, Int.reduceEq, Int.reduceNeg, reduceCtorEq, resV, resAll, ARes.ev, LV.flat, ite_true, ite_false, exists_eq_left', exists_eq_left, keyOf, implies_true, fillC, capOf]
    refine callN_of (g_list hS) ?_
    intro tn N htn hp2 hnr
    rw [← hpi] at hnr ⊢
    have hN := hp2.1
    simp (disch := omega) only [f2, f5, f9, f10, f11, ↓SXd, SXu, slBounds, ↓sop, ↓aop, ↓reduceIte, LV.cells, AOp.dst, LV.I, LV.B, LV.U, LV.S, LV.nil, Nat.reduceEqDiff, Nat.reduceAdd, Nat.reduceMul, Nat.reduceSub, Nat.reduceLeDiff, Nat.reduceBEq, Nat.reduceDiv, Nat.reduceMod, Int.reduceToNat, Int.reduceLT, Int.reduceLE, Int.reduceAdd, Int.reduceSub, Int.reduceMul, Int.reduceEq, Int.reduceNeg, reduceCtorEq, resV, resAll, ARes.ev, LV.flat, ite_true, ite_false, exists_eq_left', exists_eq_left, keyOf, implies_true, fillC, capOf]
    refine appendK_1 (acc := refs) (new := [.ref tn 0 (L.getD i []).length]) (hout.pre hp2) (by omega) rfl (by omega) (by omega) (by omega) fun N' l1 l2 l3 => ?_
    simp (disch := omega) only [f2, f5, f9, f10, f11, ↓SXd, SXu, slBounds, ↓sop, ↓aop, ↓reduceIte, LV.cells, AOp.dst, LV.I, LV.B, LV.U, LV.S, LV.nil, Nat.reduceEqDiff, Nat.reduceAdd, Nat.reduceMul, Nat.reduceSub, Nat.reduceLeDiff, Nat.reduceBEq, Nat.reduceDiv, Nat.reduceMod, Int.reduceToNat, Int.reduceLT, Int.reduceLE, Int.reduceAdd, Int.reduceSub, Int.reduceMul, Int.reduceEq, Int.reduceNeg, reduceCtorEq, resV, resAll, ARes.ev, LV.flat, ite_true, ite_false, exists_eq_left', exists_eq_left, keyOf, implies_true, fillC, capOf]
    have hlo := hout.lt
    have hln := hnr.lt
    have hts : L.take (i + 1) = L.take i ++ [L.getD i []] := by
      rw [List.take_succ, List.getElem?_eq_getElem hil]; simp [hil]
    refine ⟨m - 1, by omega, i + 1, N.length + 1, refs ++ [.ref tn 0 (L.getD i []).length], by omega, by simp [hr], pre_step (hpre.trans hp2) (by omega) l1 l3, live_step (hbox.pre hp2) (by omega) l3, l2, by have := hpre.1; omega, ?_, f2, ?_, f9, f10, eqI (natI _)⟩
    · rw [hts]
      exact ((hcss.pre hp2).keep (.inr ⟨_, _, _, hout.pre hp2, by decide⟩) l3).snoc htn (by omega) (live_step hnr (by omega) l3) (by have := hpre.1; omega)
    · rw [List.length_append, List.length_singleton]; rfl
  · simp (disch := omega) only [f2, f5, f9, f10, f11, ↓SXd, SXu, slBounds, ↓sop, ↓aop, ↓reduceIte, LV.cells, AOp.dst, LV.I, LV.B, LV.U, LV.S, LV.nil, Nat.reduceEqDiff, Nat.reduceAdd, Nat.reduceMul, Nat.reduceSub, Nat.reduceLeDiff, Nat.reduceBEq, Nat.reduceDiv, Nat.reduceMod, Int.reduceToNat, Int.reduceLT, Int.reduceLE, Int.reduceAdd, Int.reduceSub, Int.reduceMul, Int.reduceEq, Int.reduceNeg, reduceCtorEq, resV, resAll, ARes.ev, LV.flat, ite_true, ite_false, exists_eq_left', exists_eq_left, keyOf, implies_true, fillC, capOf]
    have : i = L.length := by omega
    subst this
    rw [List.take_length] at hcss
    exact ⟨SlCC.of (by omega) (Nat.le_refl _) hout hcss, hpre⟩
end

noncomputable def cavOf (x y z : Int) (cs : List Cell) : Option (List (List Cell)) := by
  classical
  exact if HeapOK x y z cs then some (parts x y z 65 (closed x y z fun c => decide (c ∈ cs))) else none
theorem cavOf_len {x y z : Int} {cs : List Cell} : ((cavOf x y z cs).getD []).length ≤ 1000000 ∧ tot ((cavOf x y z cs).getD []) ≤ 1000000 := by
  unfold cavOf
  split
  · rename_i h
    have h1 := parts_len (x := x) (y := y) (z := z) 65 (closed x y z fun c => decide (c ∈ cs))
    have h2 := tot_le (n := 64) (L := parts x y z 65 (closed x y z fun c => decide (c ∈ cs))) fun l hl => by rw [parts_pick h.1 l hl]; exact pick_len h.1 _
    simp only [Option.getD_some]; omega
  · simp [tot]

theorem g_cavities {x y z : Int} {t o : Nat} {cs : List Cell} {M : Mem} (h : Tri M t o cs) (hn : cs.length ≤ 1000000000) (hH : HeapOK x y z cs) :
    CallsTo PG F.impl_Heap_cavities [.agg [.I x, .I y, .I z, .ref t o cs.length]] M (.ref M.length 0 (parts x y z 65 (closed x y z fun c => decide (c ∈ cs))).length) (M ++ [some (.row (setL x y z (parts x y z 65 (closed x y z fun c => decide (c ∈ cs)))) true 1)]) := by
  have hS := hH.1
  refine calls_run K.impl_Heap_cavities rfl ?_
  simp (disch := omega) only [C.impl_Heap_cavities, ↓SXd, SXu, slBounds, ↓sop, ↓aop, ↓reduceIte, LV.cells, AOp.dst, LV.I, LV.B, LV.U, LV.S, LV.nil, Nat.reduceEqDiff, Nat.reduceAdd, Nat.reduceMul, Nat.reduceSub, Nat.reduceLeDiff, Nat.reduceBEq, Nat.reduceDiv, Nat.reduceMod, Int.reduceToNat, Int.reduceLT, Int.reduceLE, Int.reduceAdd, Int.reduceSub, Int.reduceMul, Int.reduceEq, Int.reduceNeg, reduceCtorEq, resV, resAll, ARes.ev, LV.flat, ite_true, ite_false, exists_eq_left', exists_eq_left, keyOf, implies_true, fillC, capOf]
  refine callK_of (g_box) ?_
  simp (disch := omega) only [↓SXd, SXu, slBounds, ↓sop, ↓aop, ↓reduceIte, LV.cells, AOp.dst, LV.I, LV.B, LV.U, LV.S, LV.nil, Nat.reduceEqDiff, Nat.reduceAdd, Nat.reduceMul, Nat.reduceSub, Nat.reduceLeDiff, Nat.reduceBEq, Nat.reduceDiv, Nat.reduceMod, Int.reduceToNat, Int.reduceLT, Int.reduceLE, Int.reduceAdd, Int.reduceSub, Int.reduceMul, Int.reduceEq, Int.reduceNeg, reduceCtorEq, resV, resAll, ARes.ev, LV.flat, ite_true, ite_false, exists_eq_left', exists_eq_left, keyOf, implies_true, fillC, capOf]
  refine callK_of (g_enclosed h.app hn hH) ?_
  simp (disch := omega) only [↓SXd, SXu, slBounds, ↓sop, ↓aop, ↓reduceIte, LV.cells, AOp.dst, LV.I, LV.B, LV.U, LV.S, LV.nil, Nat.reduceEqDiff, Nat.reduceAdd, Nat.reduceMul, Nat.reduceSub, Nat.reduceLeDiff, Nat.reduceBEq, Nat.reduceDiv, Nat.reduceMod, Int.reduceToNat, Int.reduceLT, Int.reduceLE, Int.reduceAdd, Int.reduceSub, Int.reduceMul, Int.reduceEq, Int.reduceNeg, reduceCtorEq, resV, resAll, ARes.ev, LV.flat, ite_true, ite_false, exists_eq_left', exists_eq_left, keyOf, implies_true, fillC, capOf]
  refine callK_of (g_parts hS) ?_
  simp (disch := omega) only [↓SXd, SXu, slBounds, ↓sop, ↓aop, ↓reduceIte, LV.cells, AOp.dst, LV.I, LV.B, LV.U, LV.S, LV.nil, Nat.reduceEqDiff, Nat.reduceAdd, Nat.reduceMul, Nat.reduceSub, Nat.reduceLeDiff, Nat.reduceBEq, Nat.reduceDiv, Nat.reduceMod, Int.reduceToNat, Int.reduceLT, Int.reduceLE, Int.reduceAdd, Int.reduceSub, Int.reduceMul, Int.reduceEq, Int.reduceNeg, reduceCtorEq, resV, resAll, ARes.ev, LV.flat, ite_true, ite_false, exists_eq_left', exists_eq_left, keyOf, implies_true, fillC, capOf]
  exact cmp_keep1 (j := 1) rfl setL_lo (by simp [rn, rn0, rn1, keepR_n])

theorem g_CavitiesOf {x y z : Int} {t : Nat} {w : Bool} {cs : List Cell} {M : Mem} (h0 : Live M t (.row (triL cs) w 3)) (hn : cs.length ≤ 1000000000) :
    CallsR PG F.impl_CavitiesOf [.agg [.I x, .I y, .I z, .ref t 0 cs.length]] M (CssRes M (cavOf x y z cs)) := by
  have h : Tri M t 0 cs := h0.has
  refine callsR_run K.impl_CavitiesOf rfl ?_
  simp (disch := omega) only [C.impl_CavitiesOf, ↓SXd, SXu, slBounds, ↓sop, ↓aop, ↓reduceIte, LV.cells, AOp.dst, LV.I, LV.B, LV.U, LV.S, LV.nil, Nat.reduceEqDiff, Nat.reduceAdd, Nat.reduceMul, Nat.reduceSub, Nat.reduceLeDiff, Nat.reduceBEq, Nat.reduceDiv, Nat.reduceMod, Int.reduceToNat, Int.reduceLT, Int.reduceLE, Int.reduceAdd, Int.reduceSub, Int.reduceMul, Int.reduceEq, Int.reduceNeg, reduceCtorEq, resV, resAll, ARes.ev, LV.flat, ite_true, ite_false, exists_eq_left', exists_eq_left, keyOf, implies_true, fillC, capOf]
  refine callK_of (g_IsHeap h.app hn) ?_
  simp (disch := omega) only [↓SXd, SXu, slBounds, ↓sop, ↓aop, ↓reduceIte, LV.cells, AOp.dst, LV.I, LV.B, LV.U, LV.S, LV.nil, Nat.reduceEqDiff, Nat.reduceAdd, Nat.reduceMul, Nat.reduceSub, Nat.reduceLeDiff, Nat.reduceBEq, Nat.reduceDiv, Nat.reduceMod, Int.reduceToNat, Int.reduceLT, Int.reduceLE, Int.reduceAdd, Int.reduceSub, Int.reduceMul, Int.reduceEq, Int.reduceNeg, reduceCtorEq, resV, resAll, ARes.ev, LV.flat, ite_true, ite_false, exists_eq_left', exists_eq_left, keyOf, implies_true, fillC, capOf]
  unfold cavOf
  by_cases hH : HeapOK x y z cs
  · have hS := hH.1
    rw [if_pos hH]
    simp (disch := omega) only [hH, ↓SXd, SXu, slBounds, ↓sop, ↓aop, ↓reduceIte, LV.cells, AOp.dst, LV.I, LV.B, LV.U, LV.S, LV.nil, Nat.reduceEqDiff, Nat.reduceAdd, Nat.reduceMul, Nat.reduceSub, Nat.reduceLeDiff, Nat.reduceBEq, Nat.reduceDiv, Nat.reduceMod, Int.reduceToNat, Int.reduceLT, Int.reduceLE, Int.reduceAdd, Int.reduceSub, Int.reduceMul, Int.reduceEq, Int.reduceNeg, reduceCtorEq, resV, resAll, ARes.ev, LV.flat, ite_true, ite_false, exists_eq_left', exists_eq_left, keyOf, implies_true, fillC, capOf]
    refine callK_of (g_box) ?_
    simp (disch := omega) only [↓SXd, SXu, slBounds, ↓sop, ↓aop, ↓reduceIte, LV.cells, AOp.dst, LV.I, LV.B, LV.U, LV.S, LV.nil, Nat.reduceEqDiff, Nat.reduceAdd, Nat.reduceMul, Nat.reduceSub, Nat.reduceLeDiff, Nat.reduceBEq, Nat.reduceDiv, Nat.reduceMod, Int.reduceToNat, Int.reduceLT, Int.reduceLE, Int.reduceAdd, Int.reduceSub, Int.reduceMul, Int.reduceEq, Int.reduceNeg, reduceCtorEq, resV, resAll, ARes.ev, LV.flat, ite_true, ite_false, exists_eq_left', exists_eq_left, keyOf, implies_true, fillC, capOf]
    refine callN_of (g_cavities h.app hn hH) ?_
    intro tn N2 htn hp2 hnr
    simp (disch := omega) only [↓SXd, SXu, slBounds, ↓sop, ↓aop, ↓reduceIte, LV.cells, AOp.dst, LV.I, LV.B, LV.U, LV.S, LV.nil, Nat.reduceEqDiff, Nat.reduceAdd, Nat.reduceMul, Nat.reduceSub, Nat.reduceLeDiff, Nat.reduceBEq, Nat.reduceDiv, Nat.reduceMod, Int.reduceToNat, Int.reduceLT, Int.reduceLE, Int.reduceAdd, Int.reduceSub, Int.reduceMul, Int.reduceEq, Int.reduceNeg, reduceCtorEq, resV, resAll, ARes.ev, LV.flat, ite_true, ite_false, exists_eq_left', exists_eq_left, keyOf, implies_true, fillC, capOf]
    have hl := parts_len (x := x) (y := y) (z := z) 65 (closed x y z fun c => decide (c ∈ cs))
    refine callR_of (g_lists hS hnr (by omega) (parts_pick hS)) ?_
    rintro v N ⟨h1, h2⟩
    have hv : (∃ a b c, v = .ref a b c) ∨ v = .nil := by
      rcases h1 with ⟨rfl, _⟩ | ⟨u, refs, rfl, _⟩
      · exact .inr rfl
      · exact .inl ⟨_, _, _, rfl⟩
    rcases hv with ⟨a, b, c, rfl⟩ | rfl
    all_goals
      simp (disch := omega) only [↓SXd, SXu, slBounds, ↓sop, ↓aop, ↓reduceIte, LV.cells, AOp.dst, LV.I, LV.B, LV.U, LV.S, LV.nil, Nat.reduceEqDiff, Nat.reduceAdd, Nat.reduceMul, Nat.reduceSub, Nat.reduceLeDiff, Nat.reduceBEq, Nat.reduceDiv, Nat.reduceMod, Int.reduceToNat, Int.reduceLT, Int.reduceLE, Int.reduceAdd, Int.reduceSub, Int.reduceMul, Int.reduceEq, Int.reduceNeg, reduceCtorEq, resV, resAll, ARes.ev, LV.flat, ite_true, ite_false, exists_eq_left', exists_eq_left, keyOf, implies_true, fillC, capOf]
      exact ⟨_, rfl, h1.mono ((Pre.app _ _).trans hp2), ((Pre.app _ _).trans hp2).trans h2⟩
  · rw [if_neg hH]
    simp (disch := omega) only [hH, ↓SXd, SXu, slBounds, ↓sop, ↓aop, ↓reduceIte, LV.cells, AOp.dst, LV.I, LV.B, LV.U, LV.S, LV.nil, Nat.reduceEqDiff, Nat.reduceAdd, Nat.reduceMul, Nat.reduceSub, Nat.reduceLeDiff, Nat.reduceBEq, Nat.reduceDiv, Nat.reduceMod, Int.reduceToNat, Int.reduceLT, Int.reduceLE, Int.reduceAdd, Int.reduceSub, Int.reduceMul, Int.reduceEq, Int.reduceNeg, reduceCtorEq, resV, resAll, ARes.ev, LV.flat, ite_true, ite_false, exists_eq_left', exists_eq_left, keyOf, implies_true, fillC, capOf]
    exact ⟨_, rfl, SlCC.nil, Pre.app _ _⟩
end Go.Ab

/- Contracts: the reference's CavitiesOf. -/
namespace Go.Ab
open Go
set_option linter.unusedSimpArgs false
set_option linter.unusedVariables false

theorem h_l6Cavities {x y z : Int} {t : Nat} {w : Bool} {cs : List Cell} {M : Mem} (h : Live M t (.row (triL cs) w 3)) (hH : HeapOK x y z cs) :
    CallsR PG F.spec_l6Cavities [.agg [.I x, .I y, .I z, .ref t 0 cs.length]] M fun v N => (∃ a b c, v = .ref a b c) ∧ SlCC M N v (parts x y z 65 (closed x y z fun c => decide (c ∈ cs))) ∧ Pre M N := by
  have hS := hH.1
  refine callsR_run K.spec_l6Cavities rfl ?_
  simp (disch := omega) only [C.spec_l6Cavities, ↓SXd, SXu, slBounds, ↓sop, ↓aop, ↓reduceIte, LV.cells, AOp.dst, LV.I, LV.B, LV.U, LV.S, LV.nil, Nat.reduceEqDiff, Nat.reduceAdd, Nat.reduceMul, Nat.reduceSub, Nat.reduceLeDiff, Nat.reduceBEq, Nat.reduceDiv, Nat.reduceMod, Int.reduceToNat, Int.reduceLT, Int.reduceLE, Int.reduceAdd, Int.reduceSub, Int.reduceMul, Int.reduceEq, Int.reduceNeg, reduceCtorEq, resV, resAll, ARes.ev, LV.flat, ite_true, ite_false, exists_eq_left', exists_eq_left, keyOf, implies_true, fillC, capOf]
  refine callN_of (h_l6Enclosed h.app hH) ?_
  intro tn N2 htn hp2 hnr
  have e0 : N2[M.length]? = some (some (.row [.I x, .I y, .I z, .ref t 0 cs.length] true 0)) := Live.new.pre hp2
  simp (disch := omega) only [e0, ↓SXd, SXu, slBounds, ↓sop, ↓aop, ↓reduceIte, LV.cells, AOp.dst, LV.I, LV.B, LV.U, LV.S, LV.nil, Nat.reduceEqDiff, Nat.reduceAdd, Nat.reduceMul, Nat.reduceSub, Nat.reduceLeDiff, Nat.reduceBEq, Nat.reduceDiv, Nat.reduceMod, Int.reduceToNat, Int.reduceLT, Int.reduceLE, Int.reduceAdd, Int.reduceSub, Int.reduceMul, Int.reduceEq, Int.reduceNeg, reduceCtorEq, resV, resAll, ARes.ev, LV.flat, ite_true, ite_false, exists_eq_left', exists_eq_left, keyOf, implies_true, fillC, capOf]
  refine callK_of (h_l2Made hnr.lt) ?_
  simp (disch := omega) only [↓SXd, SXu, slBounds, ↓sop, ↓aop, ↓reduceIte, LV.cells, AOp.dst, LV.I, LV.B, LV.U, LV.S, LV.nil, Nat.reduceEqDiff, Nat.reduceAdd, Nat.reduceMul, Nat.reduceSub, Nat.reduceLeDiff, Nat.reduceBEq, Nat.reduceDiv, Nat.reduceMod, Int.reduceToNat, Int.reduceLT, Int.reduceLE, Int.reduceAdd, Int.reduceSub, Int.reduceMul, Int.reduceEq, Int.reduceNeg, reduceCtorEq, resV, resAll, ARes.ev, LV.flat, ite_true, ite_false, exists_eq_left', exists_eq_left, keyOf, implies_true, fillC, capOf]
  refine callR_of (h_l2Parts hnr (pick_ok hS _)) ?_
  rintro _ N3 ⟨u, refs, rfl, hu, hL, hcss, hp3⟩
  simp (disch := omega) only [↓SXd, SXu, slBounds, ↓sop, ↓aop, ↓reduceIte, LV.cells, AOp.dst, LV.I, LV.B, LV.U, LV.S, LV.nil, Nat.reduceEqDiff, Nat.reduceAdd, Nat.reduceMul, Nat.reduceSub, Nat.reduceLeDiff, Nat.reduceBEq, Nat.reduceDiv, Nat.reduceMod, Int.reduceToNat, Int.reduceLT, Int.reduceLE, Int.reduceAdd, Int.reduceSub, Int.reduceMul, Int.reduceEq, Int.reduceNeg, reduceCtorEq, resV, resAll, ARes.ev, LV.flat, ite_true, ite_false, exists_eq_left', exists_eq_left, keyOf, implies_true, fillC, capOf]
  have hlt := hnr.lt
  rw [parts_congr' hS (q := closed x y z fun c => decide (c ∈ cs)) fun d hd => by
    rw [Bool.eq_iff_iff, decide_eq_true_iff, mem_pick hS]; exact ⟨fun h => h.2, fun h => ⟨hd, h⟩⟩] at hcss
  have hN := hp2.1
  simp only [List.length_append, List.length_singleton] at hN
  exact ⟨⟨_, _, _, rfl⟩, SlCC.of (by omega) (by omega) hL hcss, ((Pre.app _ _).trans hp2).trans hp3⟩

theorem h_sCavitiesOf {x y z : Int} {t : Nat} {w : Bool} {cs : List Cell} {M : Mem} (h : Live M t (.row (triL cs) w 3)) (hn : cs.length ≤ 1000000000) :
    CallsR PG F.spec_CavitiesOf [.agg [.I x, .I y, .I z, .ref t 0 cs.length]] M (CssRes M (cavOf x y z cs)) := by
  refine callsR_run K.spec_CavitiesOf rfl ?_
  simp (disch := omega) only [C.spec_CavitiesOf, ↓SXd, SXu, slBounds, ↓sop, ↓aop, ↓reduceIte, LV.cells, AOp.dst, LV.I, LV.B, LV.U, LV.S, LV.nil, Nat.reduceEqDiff, Nat.reduceAdd, Nat.reduceMul, Nat.reduceSub, Nat.reduceLeDiff, Nat.reduceBEq, Nat.reduceDiv, Nat.reduceMod, Int.reduceToNat, Int.reduceLT, Int.reduceLE, Int.reduceAdd, Int.reduceSub, Int.reduceMul, Int.reduceEq, Int.reduceNeg, reduceCtorEq, resV, resAll, ARes.ev, LV.flat, ite_true, ite_false, exists_eq_left', exists_eq_left, keyOf, implies_true, fillC, capOf]
  refine callK_of (h_l2Heap (Has.app h.has) hn) ?_
  simp (disch := omega) only [↓SXd, SXu, slBounds, ↓sop, ↓aop, ↓reduceIte, LV.cells, AOp.dst, LV.I, LV.B, LV.U, LV.S, LV.nil, Nat.reduceEqDiff, Nat.reduceAdd, Nat.reduceMul, Nat.reduceSub, Nat.reduceLeDiff, Nat.reduceBEq, Nat.reduceDiv, Nat.reduceMod, Int.reduceToNat, Int.reduceLT, Int.reduceLE, Int.reduceAdd, Int.reduceSub, Int.reduceMul, Int.reduceEq, Int.reduceNeg, reduceCtorEq, resV, resAll, ARes.ev, LV.flat, ite_true, ite_false, exists_eq_left', exists_eq_left, keyOf, implies_true, fillC, capOf]
  unfold cavOf
  by_cases hH : HeapOK x y z cs
  · rw [if_pos hH]
    simp (disch := omega) only [hH, ↓SXd, SXu, slBounds, ↓sop, ↓aop, ↓reduceIte, LV.cells, AOp.dst, LV.I, LV.B, LV.U, LV.S, LV.nil, Nat.reduceEqDiff, Nat.reduceAdd, Nat.reduceMul, Nat.reduceSub, Nat.reduceLeDiff, Nat.reduceBEq, Nat.reduceDiv, Nat.reduceMod, Int.reduceToNat, Int.reduceLT, Int.reduceLE, Int.reduceAdd, Int.reduceSub, Int.reduceMul, Int.reduceEq, Int.reduceNeg, reduceCtorEq, resV, resAll, ARes.ev, LV.flat, ite_true, ite_false, exists_eq_left', exists_eq_left, keyOf, implies_true, fillC, capOf]
    refine callR_of (h_l6Cavities h.app hH) ?_
    rintro _ N ⟨⟨a, b, c, rfl⟩, h1, h2⟩
    simp (disch := omega) only [↓SXd, SXu, slBounds, ↓sop, ↓aop, ↓reduceIte, LV.cells, AOp.dst, LV.I, LV.B, LV.U, LV.S, LV.nil, Nat.reduceEqDiff, Nat.reduceAdd, Nat.reduceMul, Nat.reduceSub, Nat.reduceLeDiff, Nat.reduceBEq, Nat.reduceDiv, Nat.reduceMod, Int.reduceToNat, Int.reduceLT, Int.reduceLE, Int.reduceAdd, Int.reduceSub, Int.reduceMul, Int.reduceEq, Int.reduceNeg, reduceCtorEq, resV, resAll, ARes.ev, LV.flat, ite_true, ite_false, exists_eq_left', exists_eq_left, keyOf, implies_true, fillC, capOf]
    exact ⟨_, rfl, h1.mono (Pre.app _ _), (Pre.app _ _).trans h2⟩
  · rw [if_neg hH]
    simp (disch := omega) only [hH, ↓SXd, SXu, slBounds, ↓sop, ↓aop, ↓reduceIte, LV.cells, AOp.dst, LV.I, LV.B, LV.U, LV.S, LV.nil, Nat.reduceEqDiff, Nat.reduceAdd, Nat.reduceMul, Nat.reduceSub, Nat.reduceLeDiff, Nat.reduceBEq, Nat.reduceDiv, Nat.reduceMod, Int.reduceToNat, Int.reduceLT, Int.reduceLE, Int.reduceAdd, Int.reduceSub, Int.reduceMul, Int.reduceEq, Int.reduceNeg, reduceCtorEq, resV, resAll, ARes.ev, LV.flat, ite_true, ite_false, exists_eq_left', exists_eq_left, keyOf, implies_true, fillC, capOf]
    exact ⟨_, rfl, SlCC.of (u := M.length + 1) (lo := M.length) (hi := M.length) (refs := []) (by omega) (Nat.le_refl _) (Live.newj (j := 1) rfl) trivial, Pre.app _ _⟩
end Go.Ab

/- The law of CavitiesOf. -/
namespace Go.Ab
open Go
set_option linter.unusedSimpArgs false
set_option linter.unusedVariables false
set_option maxRecDepth 20000

theorem l_CavitiesOf {x y z : Int} {t o : Nat} {cs : List Cell} {M : Mem} (h : Tri M t o cs) (hn0 : cs.length ≤ 9223372036854775807) :
    CallsR PG F.laws_FnExactCavitiesOf [.agg [.I x, .I y, .I z, .ref t o cs.length]] M fun v _ => v = .B true := by
  have ht := h.lt
  refine callsR_run K.laws_FnExactCavitiesOf rfl ?_
  simp (disch := omega) only [C.laws_FnExactCavitiesOf, ↓SXd, SXu, slBounds, ↓sop, ↓aop, ↓reduceIte, LV.cells, AOp.dst, LV.I, LV.B, LV.U, LV.S, LV.nil, Nat.reduceEqDiff, Nat.reduceAdd, Nat.reduceMul, Nat.reduceSub, Nat.reduceLeDiff, Nat.reduceBEq, Nat.reduceDiv, Nat.reduceMod, Int.reduceToNat, Int.reduceLT, Int.reduceLE, Int.reduceAdd, Int.reduceSub, Int.reduceMul, Int.reduceEq, Int.reduceNeg, reduceCtorEq, resV, resAll, ARes.ev, LV.flat, ite_true, ite_false, exists_eq_left', exists_eq_left, keyOf, implies_true, fillC, capOf]
  refine callK_of (h_szHeap (by omega) (by omega) (by omega)) ?_
  simp (disch := omega) only [↓SXd, SXu, slBounds, ↓sop, ↓aop, ↓reduceIte, LV.cells, AOp.dst, LV.I, LV.B, LV.U, LV.S, LV.nil, Nat.reduceEqDiff, Nat.reduceAdd, Nat.reduceMul, Nat.reduceSub, Nat.reduceLeDiff, Nat.reduceBEq, Nat.reduceDiv, Nat.reduceMod, Int.reduceToNat, Int.reduceLT, Int.reduceLE, Int.reduceAdd, Int.reduceSub, Int.reduceMul, Int.reduceEq, Int.reduceNeg, reduceCtorEq, resV, resAll, ARes.ev, LV.flat, ite_true, ite_false, exists_eq_left', exists_eq_left, keyOf, implies_true, fillC, capOf]
  by_cases hl : (1048576 : Int) < (cs.length : Nat)
  · rw [if_pos hl]
    simp (disch := omega) only [Int.reduceLT, ↓SXd, SXu, slBounds, ↓sop, ↓aop, ↓reduceIte, LV.cells, AOp.dst, LV.I, LV.B, LV.U, LV.S, LV.nil, Nat.reduceEqDiff, Nat.reduceAdd, Nat.reduceMul, Nat.reduceSub, Nat.reduceLeDiff, Nat.reduceBEq, Nat.reduceDiv, Nat.reduceMod, Int.reduceToNat, Int.reduceLT, Int.reduceLE, Int.reduceAdd, Int.reduceSub, Int.reduceMul, Int.reduceEq, Int.reduceNeg, reduceCtorEq, resV, resAll, ARes.ev, LV.flat, ite_true, ite_false, exists_eq_left', exists_eq_left, keyOf, implies_true, fillC, capOf]
    rfl
  · rw [if_neg hl]
    have hn : cs.length ≤ 1000000000 := by omega
    obtain ⟨hrl, hrt⟩ := cavOf_len (x := x) (y := y) (z := z) (cs := cs)
    simp (disch := omega) only [↓SXd, SXu, slBounds, ↓sop, ↓aop, ↓reduceIte, LV.cells, AOp.dst, LV.I, LV.B, LV.U, LV.S, LV.nil, Nat.reduceEqDiff, Nat.reduceAdd, Nat.reduceMul, Nat.reduceSub, Nat.reduceLeDiff, Nat.reduceBEq, Nat.reduceDiv, Nat.reduceMod, Int.reduceToNat, Int.reduceLT, Int.reduceLE, Int.reduceAdd, Int.reduceSub, Int.reduceMul, Int.reduceEq, Int.reduceNeg, reduceCtorEq, resV, resAll, ARes.ev, LV.flat, ite_true, ite_false, exists_eq_left', exists_eq_left, keyOf, implies_true, fillC, capOf]
    refine callK_of (h_toHeap h.app hn) ?_
    simp (disch := omega) only [↓SXd, SXu, slBounds, ↓sop, ↓aop, ↓reduceIte, LV.cells, AOp.dst, LV.I, LV.B, LV.U, LV.S, LV.nil, Nat.reduceEqDiff, Nat.reduceAdd, Nat.reduceMul, Nat.reduceSub, Nat.reduceLeDiff, Nat.reduceBEq, Nat.reduceDiv, Nat.reduceMod, Int.reduceToNat, Int.reduceLT, Int.reduceLE, Int.reduceAdd, Int.reduceSub, Int.reduceMul, Int.reduceEq, Int.reduceNeg, reduceCtorEq, resV, resAll, ARes.ev, LV.flat, ite_true, ite_false, exists_eq_left', exists_eq_left, keyOf, implies_true, fillC, capOf]
    refine callR_of (h_sCavitiesOf (Live.newj (j := 1) (b := .row (triL cs) true 3) rfl) hn) ?_
    rintro _ W ⟨w, rfl, hw, hp1⟩
    have b1 : Live W M.length (.row [.I x, .I y, .I z, .ref t o cs.length] true 0) := Live.new.pre hp1
    have hl1 := b1.lt
    have hM1 : Pre M W := (Pre.app _ _).trans hp1
    have hwv := hw.v
    simp (disch := omega) only [b1.cells, ↓SXd, SXu, slBounds, ↓sop, ↓aop, ↓reduceIte, LV.cells, AOp.dst, LV.I, LV.B, LV.U, LV.S, LV.nil, Nat.reduceEqDiff, Nat.reduceAdd, Nat.reduceMul, Nat.reduceSub, Nat.reduceLeDiff, Nat.reduceBEq, Nat.reduceDiv, Nat.reduceMod, Int.reduceToNat, Int.reduceLT, Int.reduceLE, Int.reduceAdd, Int.reduceSub, Int.reduceMul, Int.reduceEq, Int.reduceNeg, reduceCtorEq, resV, resAll, ARes.ev, LV.flat, ite_true, ite_false, exists_eq_left', exists_eq_left, keyOf, implies_true, fillC, capOf]
    refine callK_of (h_toHeap (h.pre hM1) hn) ?_
    simp (disch := omega) only [b1.cells, ↓SXd, SXu, slBounds, ↓sop, ↓aop, ↓reduceIte, LV.cells, AOp.dst, LV.I, LV.B, LV.U, LV.S, LV.nil, Nat.reduceEqDiff, Nat.reduceAdd, Nat.reduceMul, Nat.reduceSub, Nat.reduceLeDiff, Nat.reduceBEq, Nat.reduceDiv, Nat.reduceMod, Int.reduceToNat, Int.reduceLT, Int.reduceLE, Int.reduceAdd, Int.reduceSub, Int.reduceMul, Int.reduceEq, Int.reduceNeg, reduceCtorEq, resV, resAll, ARes.ev, LV.flat, ite_true, ite_false, exists_eq_left', exists_eq_left, keyOf, implies_true, fillC, capOf]
    refine callR_of (g_CavitiesOf (Live.newj (j := 0) (b := .row (triL cs) true 3) rfl) hn) ?_
    rintro _ N2 ⟨g, rfl, hg, hp2⟩
    have hpx : Pre W (W ++ [some (.row (triL cs) true 3), some (.row [.I x, .I y, .I z, .ref W.length 0 cs.length] true 0)]) := Pre.app _ _
    have hp12 : Pre W N2 := hpx.trans hp2
    have b2 := b1.pre hp12
    have r2 : Live N2 W.length (.row (triL cs) true 3) := (Live.newj (j := 0) rfl).pre hp2
    have x2 : Live N2 (W.length + 1) (.row [.I x, .I y, .I z, .ref W.length 0 cs.length] true 0) := (Live.newj (j := 1) rfl).pre hp2
    simp (disch := omega) only [↓SXd, SXu, slBounds, ↓sop, ↓aop, ↓reduceIte, LV.cells, AOp.dst, LV.I, LV.B, LV.U, LV.S, LV.nil, Nat.reduceEqDiff, Nat.reduceAdd, Nat.reduceMul, Nat.reduceSub, Nat.reduceLeDiff, Nat.reduceBEq, Nat.reduceDiv, Nat.reduceMod, Int.reduceToNat, Int.reduceLT, Int.reduceLE, Int.reduceAdd, Int.reduceSub, Int.reduceMul, Int.reduceEq, Int.reduceNeg, reduceCtorEq, resV, resAll, ARes.ev, LV.flat, ite_true, ite_false, exists_eq_left', exists_eq_left, keyOf, implies_true, fillC, capOf]
    refine callK_of (h_eqCss hg.v (hwv.pre hp12) hrl hrt) ?_
    simp (disch := omega) only [b2.cells, x2.cells, ↓SXd, SXu, slBounds, ↓sop, ↓aop, ↓reduceIte, LV.cells, AOp.dst, LV.I, LV.B, LV.U, LV.S, LV.nil, Nat.reduceEqDiff, Nat.reduceAdd, Nat.reduceMul, Nat.reduceSub, Nat.reduceLeDiff, Nat.reduceBEq, Nat.reduceDiv, Nat.reduceMod, Int.reduceToNat, Int.reduceLT, Int.reduceLE, Int.reduceAdd, Int.reduceSub, Int.reduceMul, Int.reduceEq, Int.reduceNeg, reduceCtorEq, resV, resAll, ARes.ev, LV.flat, ite_true, ite_false, exists_eq_left', exists_eq_left, keyOf, implies_true, fillC, capOf]
    refine callK_of (h_toHeap (h.pre (hM1.trans hp12)) hn) ?_
    simp (disch := omega) only [b2.cells, x2.cells, ↓SXd, SXu, slBounds, ↓sop, ↓aop, ↓reduceIte, LV.cells, AOp.dst, LV.I, LV.B, LV.U, LV.S, LV.nil, Nat.reduceEqDiff, Nat.reduceAdd, Nat.reduceMul, Nat.reduceSub, Nat.reduceLeDiff, Nat.reduceBEq, Nat.reduceDiv, Nat.reduceMod, Int.reduceToNat, Int.reduceLT, Int.reduceLE, Int.reduceAdd, Int.reduceSub, Int.reduceMul, Int.reduceEq, Int.reduceNeg, reduceCtorEq, resV, resAll, ARes.ev, LV.flat, ite_true, ite_false, exists_eq_left', exists_eq_left, keyOf, implies_true, fillC, capOf]
    have he := h_eqHeap (x := x) (y := y) (z := z) (x' := x) (y' := y) (z' := z) (M := N2 ++ [some (.row (triL cs) true 3)]) (Live.app r2).has (Live.newj (M := N2) (L := [some (.row (triL cs) true 3)]) (j := 0) rfl).has hn hn
    rw [decide_eq_true (by simp)] at he
    refine callK_of he ?_
    simp (disch := omega) only [x2.app.cells, ↓SXd, SXu, slBounds, ↓sop, ↓aop, ↓reduceIte, LV.cells, AOp.dst, LV.I, LV.B, LV.U, LV.S, LV.nil, Nat.reduceEqDiff, Nat.reduceAdd, Nat.reduceMul, Nat.reduceSub, Nat.reduceLeDiff, Nat.reduceBEq, Nat.reduceDiv, Nat.reduceMod, Int.reduceToNat, Int.reduceLT, Int.reduceLE, Int.reduceAdd, Int.reduceSub, Int.reduceMul, Int.reduceEq, Int.reduceNeg, reduceCtorEq, resV, resAll, ARes.ev, LV.flat, ite_true, ite_false, exists_eq_left', exists_eq_left, keyOf, implies_true, fillC, capOf]
    refine callR_of (h_markHeap (SlC.of r2.app) hn (by omega)) ?_
    rintro _ N4 ⟨rfl, _, hN4a, hN4b⟩
    have hp4 : PreV (.ref W.length 0 cs.length) (N2 ++ [some (.row (triL cs) true 3)]) N4 := ⟨hN4a, hN4b⟩
    have hg4 := (hg.pre (Pre.app N2 [some (.row (triL cs) true 3)])).keep (N' := N4) fun u hu hul => hN4b u hul (by
      simp only [List.length_append, List.length_cons, List.length_nil] at hu
      show u ≠ W.length; omega)
    have hW4 : Pre W N4 := hp4.pre (hp12.trans (Pre.app _ _)) (Newer.of (Nat.le_refl _))
    have b4 := b1.pre hW4
    have hk : ¬ (1 + 3 * (cs.length : Int) < 0) := by omega
    simp (disch := omega) only [hk, ↓SXd, SXu, slBounds, ↓sop, ↓aop, ↓reduceIte, LV.cells, AOp.dst, LV.I, LV.B, LV.U, LV.S, LV.nil, Nat.reduceEqDiff, Nat.reduceAdd, Nat.reduceMul, Nat.reduceSub, Nat.reduceLeDiff, Nat.reduceBEq, Nat.reduceDiv, Nat.reduceMod, Int.reduceToNat, Int.reduceLT, Int.reduceLE, Int.reduceAdd, Int.reduceSub, Int.reduceMul, Int.reduceEq, Int.reduceNeg, reduceCtorEq, resV, resAll, ARes.ev, LV.flat, ite_true, ite_false, exists_eq_left', exists_eq_left, keyOf, implies_true, fillC, capOf]
    refine callK_of (h_eqCss hg4.v (hwv.pre hW4) hrl hrt) ?_
    simp (disch := omega) only [↓SXd, SXu, slBounds, ↓sop, ↓aop, ↓reduceIte, LV.cells, AOp.dst, LV.I, LV.B, LV.U, LV.S, LV.nil, Nat.reduceEqDiff, Nat.reduceAdd, Nat.reduceMul, Nat.reduceSub, Nat.reduceLeDiff, Nat.reduceBEq, Nat.reduceDiv, Nat.reduceMod, Int.reduceToNat, Int.reduceLT, Int.reduceLE, Int.reduceAdd, Int.reduceSub, Int.reduceMul, Int.reduceEq, Int.reduceNeg, reduceCtorEq, resV, resAll, ARes.ev, LV.flat, ite_true, ite_false, exists_eq_left', exists_eq_left, keyOf, implies_true, fillC, capOf]
    refine callR_of (h_markCss hg4 hrl hrt (by omega)) ?_
    rintro _ N5 ⟨rfl, hg5, hN5a, hN5b⟩
    have hW5 : Pre W N5 := ⟨by have := hW4.1; omega, fun u hu => by rw [hN5b u (Nat.lt_of_lt_of_le hu hpx.1)]; exact hW4.2 u hu⟩
    have b5 := b1.pre hW5
    have hk2 : ¬ (1 + 3 * (tot ((cavOf x y z cs).getD []) : Int) < 0) := by omega
    simp (disch := omega) only [↓SXd, SXu, slBounds, ↓sop, ↓aop, ↓reduceIte, LV.cells, AOp.dst, LV.I, LV.B, LV.U, LV.S, LV.nil, Nat.reduceEqDiff, Nat.reduceAdd, Nat.reduceMul, Nat.reduceSub, Nat.reduceLeDiff, Nat.reduceBEq, Nat.reduceDiv, Nat.reduceMod, Int.reduceToNat, Int.reduceLT, Int.reduceLE, Int.reduceAdd, Int.reduceSub, Int.reduceMul, Int.reduceEq, Int.reduceNeg, reduceCtorEq, resV, resAll, ARes.ev, LV.flat, ite_true, ite_false, exists_eq_left', exists_eq_left, keyOf, implies_true, fillC, capOf]
    refine callK_of (h_heldCss hg5.v hrl hrt (by omega)) ?_
    simp (disch := omega) only [b5.cells, hk2, ↓SXd, SXu, slBounds, ↓sop, ↓aop, ↓reduceIte, LV.cells, AOp.dst, LV.I, LV.B, LV.U, LV.S, LV.nil, Nat.reduceEqDiff, Nat.reduceAdd, Nat.reduceMul, Nat.reduceSub, Nat.reduceLeDiff, Nat.reduceBEq, Nat.reduceDiv, Nat.reduceMod, Int.reduceToNat, Int.reduceLT, Int.reduceLE, Int.reduceAdd, Int.reduceSub, Int.reduceMul, Int.reduceEq, Int.reduceNeg, reduceCtorEq, resV, resAll, ARes.ev, LV.flat, ite_true, ite_false, exists_eq_left', exists_eq_left, keyOf, implies_true, fillC, capOf]
    refine callK_of (h_toHeap (h.pre (hM1.trans hW5)) hn) ?_
    simp (disch := omega) only [↓SXd, SXu, slBounds, ↓sop, ↓aop, ↓reduceIte, LV.cells, AOp.dst, LV.I, LV.B, LV.U, LV.S, LV.nil, Nat.reduceEqDiff, Nat.reduceAdd, Nat.reduceMul, Nat.reduceSub, Nat.reduceLeDiff, Nat.reduceBEq, Nat.reduceDiv, Nat.reduceMod, Int.reduceToNat, Int.reduceLT, Int.reduceLE, Int.reduceAdd, Int.reduceSub, Int.reduceMul, Int.reduceEq, Int.reduceNeg, reduceCtorEq, resV, resAll, ARes.ev, LV.flat, ite_true, ite_false, exists_eq_left', exists_eq_left, keyOf, implies_true, fillC, capOf]
    refine callR_of (g_CavitiesOf (Live.newj (M := N5) (j := 0) (b := .row (triL cs) true 3) rfl) hn) ?_
    rintro _ N6 ⟨g6, rfl, hg6, hp6⟩
    have hp56 : Pre N5 N6 := (Pre.app _ _).trans hp6
    simp (disch := omega) only [↓SXd, SXu, slBounds, ↓sop, ↓aop, ↓reduceIte, LV.cells, AOp.dst, LV.I, LV.B, LV.U, LV.S, LV.nil, Nat.reduceEqDiff, Nat.reduceAdd, Nat.reduceMul, Nat.reduceSub, Nat.reduceLeDiff, Nat.reduceBEq, Nat.reduceDiv, Nat.reduceMod, Int.reduceToNat, Int.reduceLT, Int.reduceLE, Int.reduceAdd, Int.reduceSub, Int.reduceMul, Int.reduceEq, Int.reduceNeg, reduceCtorEq, resV, resAll, ARes.ev, LV.flat, ite_true, ite_false, exists_eq_left', exists_eq_left, keyOf, implies_true, fillC, capOf]
    refine callK_of (h_eqCss hg6.v (hwv.pre (hW5.trans hp56)) hrl hrt) ?_
    simp (disch := omega) only [↓SXd, SXu, slBounds, ↓sop, ↓aop, ↓reduceIte, LV.cells, AOp.dst, LV.I, LV.B, LV.U, LV.S, LV.nil, Nat.reduceEqDiff, Nat.reduceAdd, Nat.reduceMul, Nat.reduceSub, Nat.reduceLeDiff, Nat.reduceBEq, Nat.reduceDiv, Nat.reduceMod, Int.reduceToNat, Int.reduceLT, Int.reduceLE, Int.reduceAdd, Int.reduceSub, Int.reduceMul, Int.reduceEq, Int.reduceNeg, reduceCtorEq, resV, resAll, ARes.ev, LV.flat, ite_true, ite_false, exists_eq_left', exists_eq_left, keyOf, implies_true, fillC, capOf]
    refine callK_of (h_heldCss (hg5.pre hp56).v hrl hrt (by omega)) ?_
    simp (disch := omega) only [hk2, ↓SXd, SXu, slBounds, ↓sop, ↓aop, ↓reduceIte, LV.cells, AOp.dst, LV.I, LV.B, LV.U, LV.S, LV.nil, Nat.reduceEqDiff, Nat.reduceAdd, Nat.reduceMul, Nat.reduceSub, Nat.reduceLeDiff, Nat.reduceBEq, Nat.reduceDiv, Nat.reduceMod, Int.reduceToNat, Int.reduceLT, Int.reduceLE, Int.reduceAdd, Int.reduceSub, Int.reduceMul, Int.reduceEq, Int.reduceNeg, reduceCtorEq, resV, resAll, ARes.ev, LV.flat, ite_true, ite_false, exists_eq_left', exists_eq_left, keyOf, implies_true, fillC, capOf]
    rfl
end Go.Ab

/- From the abstract machine to a row: a law that is called with what came in. -/
namespace Go.Ab
open Go Go.RowKit

/-- A memory of which nothing is ours. -/
def NoOwn (M : Mem) : Prop := ∀ t b, Live M t b → b.isOwn = false

theorem law_calls {P : Program} {f : FuncId} {args : List LV} {M N : Mem} {b : Bool} {G : Gh} {w : World} {xs : List Value} (hc : CallsTo P f args M (.B b) N) (hi : Inv G M w) (hn : NoOwn M) (hx : All2 (VR G) args xs) :
    Calls P f xs.toArray w fun e w' => e = .returned (.bool b) ∧ Below w.heap.size w w' := by
  refine (hc.2 G w xs hi hx).mono ?_
  rintro e w' ⟨v, N, x, G', ⟨rfl, rfl⟩, rfl, h1, h2, h3⟩
  refine ⟨by rw [(vr_val h1).1], h3.os, h3.tape, h3.output, h3.size, fun k hk => h3.keep k hk ?_⟩
  rintro ⟨t, blk, β, hl, ho, _⟩
  rw [hn t blk hl] at ho; cases ho

theorem law_callsR {P : Program} {f : FuncId} {args : List LV} {M : Mem} {b : Bool} {G : Gh} {w : World} {xs : List Value} (hc : CallsR P f args M fun v _ => v = .B b) (hi : Inv G M w) (hn : NoOwn M) (hx : All2 (VR G) args xs) :
    Calls P f xs.toArray w fun e w' => e = .returned (.bool b) ∧ Below w.heap.size w w' := by
  refine (hc.2 G w xs hi hx).mono ?_
  rintro e w' ⟨v, N, x, G', rfl, rfl, h1, h2, h3⟩
  refine ⟨by rw [(vr_val h1).1], h3.os, h3.tape, h3.output, h3.size, fun k hk => h3.keep k hk ?_⟩
  rintro ⟨t, blk, β, hl, ho, _⟩
  rw [hn t blk hl] at ho; cases ho
end Go.Ab

/- A heap that came in, opened. -/
namespace Go.Ab
open Go Go.RowKit

section
variable {H : Type} {enc : TypeId × Value → H} {P : Program} {w : World} {held : Bool}

/-- What the abstract machine is told of a slice of cells that came in. -/
def RowOf (w : World) (a : Option Addr) (len cap : Nat) (cs : List Cell) : Prop :=
  cs.length = len ∧ len ≤ cap ∧ cap ≤ maxLen ∧ (cap = 0 ∨ ∃ b o c e fz, a = some ⟨b, o, none⟩ ∧ w.heap[b]? = some (.cells c e fz) ∧ ∀ i, i < len → ∀ j v, (cs.getD i default).row[j]? = some (.I v) → c[o + (i * 3 + j)]? = some (.int .i64 v))

theorem cell_heap {a : Addr} {v : Value} (h : w.cell? a = some v) : ∃ b o c e fz, a = ⟨b, o, none⟩ ∧ w.heap[b]? = some (.cells c e fz) ∧ c[o]? = some v := by
  unfold World.cell? at h
  split at h
  · rename_i c e fz hh
    split at h
    · cases h
    · rename_i hs
      obtain ⟨b, o, s⟩ := a
      cases s with
      | some s => simp at hs
      | none => exact ⟨b, o, c, e, fz, rfl, hh, h⟩
  · cases h

theorem open_cells {ts ta ti : TypeId} {fuel : Nat} {cs : List Value} {x : DataW H × List MemPlace} (hts : P.underlying ts = some (.slice ta)) (hta : P.underlying ta = some (.array 3 ti)) (hti : P.underlying ti = some (.int .i64)) (hca : P.cellsOf ta = 3) (hci : P.cellsOf ti = 1)
    (h : DataW.trod enc P w 0 (fun _ => true) held fuel ts cs = some x) : ∃ a len cap ds, cs = [.slice a len cap] ∧ RowOf w a len cap ds := by
  rcases Go.Deep.open_slice hts h with ⟨rfl, _⟩ | ⟨a, len, cap, m, n, D, Pl, rfl, _, hl, hm, hme, _, hel⟩
  · exact ⟨none, 0, 0, [], rfl, rfl, Nat.le_refl _, Nat.zero_le _, .inl rfl⟩
  · have hmc : m = cap := by simpa using hme
    subst hmc
    have hel' : ∀ i, i < m → ∃ z : Cell, ∀ j v, z.row[j]? = some (.I v) → w.cell? (a.add (i * 3 + j)) = some (.int .i64 v) := fun i hi => by
      obtain ⟨cs', h1, h2⟩ := hel i hi
      rw [hca] at h1
      have r3 : List.range 3 = [0, 1, 2] := rfl
      simp only [World.cells?, Nat.zero_le, if_true, r3, List.mapM_cons, List.mapM_nil, Option.bind_eq_bind, Option.bind_eq_some_iff, Option.pure_def, Option.some.injEq] at h1
      obtain ⟨c0, e0, r, ⟨c1, e1, r', ⟨c2, e2, r'', rfl, rfl⟩, rfl⟩, rfl⟩ := h1
      obtain ⟨y0, y1, y2, n', _, k0, k1, k2⟩ := Go.ChangeShapes.trod_array3 hta hci h2
      obtain ⟨z0, q0, _, _⟩ := DataW.trod_int hti k0
      obtain ⟨z1, q1, _, _⟩ := DataW.trod_int hti k1
      obtain ⟨z2, q2, _, _⟩ := DataW.trod_int hti k2
      simp only [List.cons.injEq, and_true] at q0 q1 q2
      subst q0; subst q1; subst q2
      simp only [Go.Deep.add_add] at e0 e1 e2
      refine ⟨⟨z0, z1, z2⟩, fun j v hj => ?_⟩
      match j with
      | 0 => cases hj; exact e0
      | 1 => cases hj; exact e1
      | 2 => cases hj; exact e2
      | j + 3 => cases hj
    obtain ⟨f, hf⟩ : ∃ f : Nat → Cell, ∀ i, i < m → ∀ j v, (f i).row[j]? = some (.I v) → w.cell? (a.add (i * 3 + j)) = some (.int .i64 v) :=
      ⟨fun i => if h : i < m then Classical.choose (hel' i h) else default, fun i hi => by simp only [hi, dif_pos]; exact Classical.choose_spec (hel' i hi)⟩
    refine ⟨some a, len, m, (List.range len).map f, rfl, by simp, hl, hm, ?_⟩
    rcases Nat.eq_zero_or_pos m with h0 | h0
    · exact .inl h0
    · refine .inr ?_
      have hc0 := hf 0 h0 0 (f 0).a rfl
      obtain ⟨b, o, c, e, fz, ha, hh, _⟩ := cell_heap hc0
      have ha' : a = ⟨b, o, none⟩ := by simpa [Addr.add] using ha
      subst ha'
      refine ⟨b, o, c, e, fz, rfl, hh, fun i hi j v hj => ?_⟩
      have hg : ((List.range len).map f).getD i default = f i := by simp [hi]
      rw [hg] at hj
      have hcell := hf i (by omega) j v hj
      have hadd : (⟨b, o, none⟩ : Addr).add (i * 3 + j) = ⟨b, o + (i * 3 + j), none⟩ := addr_add _ _ _
      rw [hadd] at hcell
      unfold World.cell? at hcell
      simp only [hh] at hcell
      simpa using hcell
end

/-- A row that came in is laid into the abstract memory, to be read. -/
theorem Inv.addRow {G : Gh} {M : Mem} {w : World} (hi : Inv G M w) (hno : NoOwn M) {a : Option Addr} {len cap esz : Nat} {ls : List LV} (hl : len ≤ cap) (hll : ls.length ≤ cap * esz)
    (h : (cap = 0 ∧ ls = []) ∨ ∃ b o c e fz, a = some ⟨b, o, none⟩ ∧ w.heap[b]? = some (.cells c e fz) ∧ ∀ j l, ls[j]? = some l → ∃ x, c[o + j]? = some x ∧ VR1 G l x) :
    ∃ G', Ext G G' ∧ Inv G' (M ++ [some (.row ls false esz)]) w ∧ NoOwn (M ++ [some (.row ls false esz)]) ∧ VR1 G' (.ref M.length 0 len) (.slice a len cap) := by
  obtain ⟨β, hβ, hv⟩ : ∃ β : Base, (∀ G' : Gh, Ext G G' → EmbB G' w (.row ls false esz) β) ∧ (∀ G' : Gh, G' M.length = some β → VR1 G' (.ref M.length 0 len) (.slice a len cap)) := by
    rcases h with ⟨rfl, rfl⟩ | ⟨b, o, c, e, fz, rfl, hh, hc⟩
    · refine ⟨⟨0, 0, esz, 0, true⟩, fun G' _ => ⟨rfl, .inl ⟨rfl, rfl⟩⟩, fun G' hg => ⟨_, hg, a, 0, rfl, .inl ⟨by omega, rfl⟩⟩⟩
    · refine ⟨⟨b, o, esz, cap * esz, false⟩, fun G' hx => ⟨rfl, .inr ⟨rfl, c, e, fz, hh, (fun h => by cases h), hll, fun j l hj => ?_⟩⟩, fun G' hg => ⟨_, hg, _, cap, rfl, .inr ⟨rfl, rfl, hl, by simp⟩⟩⟩
      obtain ⟨x, h1, h2⟩ := hc j l hj
      exact ⟨x, h1, h2.ext hx⟩
  have hx : Ext G (G.put M.length β) := Gh.put_ext (hi.top _ (Nat.le_refl _))
  have hat : (G.put M.length β) M.length = some β := by simp [Gh.put]
  have hno' : NoOwn (M ++ [some (.row ls false esz)]) := fun t b hb => by
    rcases live_push hb with ⟨_, h1⟩ | ⟨_, rfl⟩
    · exact hno t b h1
    · rfl
  refine ⟨G.put M.length β, hx, ⟨fun t b hb => ?_, fun t t' b b' γ γ' _ hb _ ho => ?_, fun t ht => ?_⟩, hno', hv _ hat⟩
  · rcases live_push hb with ⟨hlt, h1⟩ | ⟨rfl, rfl⟩
    · obtain ⟨γ, hg, he⟩ := hi.emb t b h1
      exact ⟨γ, hx _ _ hg, he.ext hx fun _ => rfl⟩
    · exact ⟨β, hat, hβ _ hx⟩
  · rw [hno' t b hb] at ho; cases ho
  · simp at ht
    unfold Gh.put
    rw [if_neg (by omega)]
    exact hi.top t (by omega)

theorem Inv.none (w : World) : Inv (fun _ => Option.none) [] w := ⟨fun t b h => by unfold Live at h; simp at h, fun t t' b b' _ _ _ h => by unfold Live at h; simp at h, fun _ _ => rfl⟩
theorem NoOwn.none : NoOwn [] := fun t b h => by unfold Live at h; simp at h

theorem Inv.addCells {G : Gh} {M : Mem} {w : World} (hi : Inv G M w) (hno : NoOwn M) {a : Option Addr} {len cap : Nat} {cs : List Cell} (h : RowOf w a len cap cs) :
    ∃ G', Ext G G' ∧ Inv G' (M ++ [some (.row (triL cs) false 3)]) w ∧ NoOwn (M ++ [some (.row (triL cs) false 3)]) ∧ VR1 G' (.ref M.length 0 len) (.slice a len cap) := by
  obtain ⟨h1, h2, h3, h4⟩ := h
  refine hi.addRow hno h2 (by rw [triL_len]; omega) ?_
  rcases h4 with h0 | ⟨b, o, c, e, fz, ha, hh, hc⟩
  · refine .inl ⟨h0, ?_⟩
    have : cs = [] := List.eq_nil_of_length_eq_zero (by omega)
    rw [this]; rfl
  · refine .inr ⟨b, o, c, e, fz, ha, hh, fun j l hj => ?_⟩
    have hjl : j < cs.length * 3 := by
      rw [← triL_len]
      rcases Nat.lt_or_ge j (triL cs).length with h | h
      · exact h
      · rw [List.getElem?_eq_none h] at hj; cases hj
    have hat := triL_at (cs := cs) (k := j / 3) (by omega)
    have hrow : (cs.getD (j / 3) default).row[j % 3]? = some l := by
      rw [← hat, List.getElem?_take, if_pos (Nat.mod_lt _ (by omega)), List.getElem?_drop]
      rw [show j / 3 * 3 + j % 3 = j by omega]; exact hj
    have hI : ∃ v, l = .I v := by
      have hm : j % 3 < 3 := Nat.mod_lt _ (by omega)
      generalize j % 3 = r at hrow hm
      match r with
      | 0 => cases hrow; exact ⟨_, rfl⟩
      | 1 => cases hrow; exact ⟨_, rfl⟩
      | 2 => cases hrow; exact ⟨_, rfl⟩
    obtain ⟨v, rfl⟩ := hI
    refine ⟨.int .i64 v, ?_, rfl, rfl⟩
    have := hc (j / 3) (by omega) (j % 3) v hrow
    rwa [show j / 3 * 3 + j % 3 = j by omega] at this
end Go.Ab
