/- Parts of the proof of FnStairOrdersSaid: Xe Xf Xg Xh C_Jq K_Jq C_Jp K_Jp C_Vd K_Vd C_Vc K_Vc C_Um K_Um Um Pw Vc Vd Ve Jo C_Jg K_Jg Jg. -/
import Derived.Test.YtggnfklcgopflaaA8
import Derived.Test.YtggnfklcgopflaaA4
import Derived.Test.YtggnfklcgopflaaA7
import Derived.Test.YtggnfklcgopflaaA6
import Derived.Test.YtggnfklcgopflaaA3
import Derived.Test.YtggnfklcgopflaaProg
import Derived.KernelRfl
import Derived.Test.YtggnfklcgopflaaA5
set_option linter.all false
/- Contracts: staircases, corners, lines and orders of the reference. -/
namespace Go.Ab
open Go
set_option linter.unusedSimpArgs false
set_option linter.unusedVariables false
set_option maxRecDepth 20000

theorem dec_at {c : Cell} {k : Nat} (hk : k < 3) : (decC c k).at (k : Int) = c.at (k : Int) - 1 := by
  rcases (show k = 0 ∨ k = 1 ∨ k = 2 by omega) with rfl | rfl | rfl <;> rfl
theorem dec_splice {c : Cell} {k : Nat} (hk : k < 3) : splice [LV.I c.a, LV.I c.b, LV.I c.c] k [LV.I (c.at (k : Int) - 1)] = [LV.I (decC c k).a, LV.I (decC c k).b, LV.I (decC c k).c] := by
  rcases (show k = 0 ∨ k = 1 ∨ k = 2 by omega) with rfl | rfl | rfl <;> rfl
theorem row_k (c : Cell) {j : Nat} (h : j < 3) : [LV.I c.a, .I c.b, .I c.c][j]? = some (.I (c.at (j : Int))) := by
  rcases (show j = 0 ∨ j = 1 ∨ j = 2 by omega) with rfl | rfl | rfl <;> rfl
theorem at_box {x y z : Int} {c : Cell} (hS : Sides x y z) (h : c.inBox x y z) {j : Nat} (hj : j < 3) : 0 ≤ c.at (j : Int) ∧ c.at (j : Int) ≤ 3 := by
  obtain ⟨⟨_, _⟩, ⟨_, _⟩, ⟨_, _⟩⟩ := h
  obtain ⟨⟨_, _⟩, ⟨_, _⟩, ⟨_, _⟩⟩ := hS
  rcases (show j = 0 ∨ j = 1 ∨ j = 2 by omega) with rfl | rfl | rfl
  · show 0 ≤ c.a ∧ c.a ≤ 3; omega
  · show 0 ≤ c.b ∧ c.b ≤ 3; omega
  · show 0 ≤ c.c ∧ c.c ≤ 3; omega
theorem stairM {x y z : Int} {cs : List Cell} (hH : HeapOK x y z cs) : (StairP x y z fun d => decide (d ∈ cs)) ↔ ∀ c ∈ cs, ∀ k : Nat, k < 3 → 0 ≤ c.at (k : Int) - 1 → decC c k ∈ cs := by
  rw [stair_step]
  constructor
  · intro h c hc k hk h0
    exact of_decide_eq_true (h c (hH.mem hc) (decide_eq_true hc) k hk (by rw [dec_at hk]; exact h0))
  · intro h c _ hc k hk h0
    exact decide_eq_true (h c (of_decide_eq_true hc) k hk (by rw [dec_at hk] at h0; exact h0))

theorem h_l5Stair {x y z : Int} {t : Nat} {w : Bool} {cs : List Cell} {M : Mem} (h : Live M t (.row (triL cs) w 3)) (hH : HeapOK x y z cs) :
    CallsTo PG F.spec_l5Stair [.agg [.I x, .I y, .I z, .ref t 0 cs.length]] M (.B (decide (StairP x y z fun d => decide (d ∈ cs)))) M := by
  have hlen := hH.len
  have hS := hH.1
  refine calls_run K.spec_l5Stair rfl ?_
  simp (disch := omega) only [C.spec_l5Stair, ↓SXd, SXu, slBounds, ↓sop, ↓aop, ↓reduceIte, LV.cells, AOp.dst, LV.I, LV.B, LV.U, LV.S, LV.nil, Nat.reduceEqDiff, Nat.reduceAdd, Nat.reduceMul, Nat.reduceSub, Nat.reduceLeDiff, Nat.reduceBEq, Nat.reduceDiv, Nat.reduceMod, Int.reduceToNat, Int.reduceLT, Int.reduceLE, Int.reduceAdd, Int.reduceSub, Int.reduceMul, Int.reduceEq, Int.reduceNeg, reduceCtorEq, resV, resAll, ARes.ev, LV.flat, ite_true, ite_false, exists_eq_left', exists_eq_left, keyOf, implies_true, fillC, capOf]
  refine ev_loop (fun m fr M' => ∃ i : Nat, i + m = cs.length ∧ Pre M M' ∧ Live M' M.length (.row [.I x, .I y, .I z, .ref t 0 cs.length] true 0) ∧ (∀ c ∈ cs.take i, ∀ k : Nat, k < 3 → 0 ≤ c.at (k : Int) - 1 → decC c k ∈ cs) ∧ fr 1 = .ptr M.length 0 ∧ fr 3 = .I i) cs.length
    ⟨0, by omega, Pre.app _ _, Live.new, by simp, rfl, rfl⟩ ?_
  rintro m fr M' ⟨i, hi, hpre, b1, hall, f1, f3⟩
  simp (disch := omega) only [f1, f3, b1.cell, ↓SXd, SXu, slBounds, ↓sop, ↓aop, ↓reduceIte, LV.cells, AOp.dst, LV.I, LV.B, LV.U, LV.S, LV.nil, Nat.reduceEqDiff, Nat.reduceAdd, Nat.reduceMul, Nat.reduceSub, Nat.reduceLeDiff, Nat.reduceBEq, Nat.reduceDiv, Nat.reduceMod, Int.reduceToNat, Int.reduceLT, Int.reduceLE, Int.reduceAdd, Int.reduceSub, Int.reduceMul, Int.reduceEq, Int.reduceNeg, reduceCtorEq, resV, resAll, ARes.ev, LV.flat, ite_true, ite_false, exists_eq_left', exists_eq_left, keyOf, implies_true, fillC, capOf]
  refine condC_dec (fun hlt => ?_) (fun hlt => ?_)
  · have hil : i < cs.length := by omega
    have hts : cs.take (i + 1) = cs.take i ++ [cs.getD i default] := take_snoc' hil
    have hcm := getD_mem' (d := default) hil
    have hcg := fun {N : Mem} (hp : Pre M N) => (h.pre hp).tri0 hil
    generalize cs.getD i default = c at hts hcm hcg
    simp (disch := omega) only [f1, f3, ↓SXd, SXu, slBounds, ↓sop, ↓aop, ↓reduceIte, LV.cells, AOp.dst, LV.I, LV.B, LV.U, LV.S, LV.nil, Nat.reduceEqDiff, Nat.reduceAdd, Nat.reduceMul, Nat.reduceSub, Nat.reduceLeDiff, Nat.reduceBEq, Nat.reduceDiv, Nat.reduceMod, Int.reduceToNat, Int.reduceLT, Int.reduceLE, Int.reduceAdd, Int.reduceSub, Int.reduceMul, Int.reduceEq, Int.reduceNeg, reduceCtorEq, resV, resAll, ARes.ev, LV.flat, ite_true, ite_false, exists_eq_left', exists_eq_left, keyOf, implies_true, fillC, capOf]
    refine ev_loop (fun m2 fr N => ∃ k : Nat, k + m2 = 3 ∧ Pre M N ∧ Live N M.length (.row [.I x, .I y, .I z, .ref t 0 cs.length] true 0) ∧ (∀ j : Nat, j < k → 0 ≤ c.at (j : Int) - 1 → decC c j ∈ cs) ∧ fr 1 = .ptr M.length 0 ∧ fr 3 = .I i ∧ fr 4 = .I k) 3
      ⟨0, by omega, hpre, b1, fun j hj => by omega, f1, f3, rfl⟩ ?_
    clear f1 f3 b1 hpre hlt
    rintro m2 fr N ⟨k, hk, hpre, b1, hall2, f1, f3, f4⟩
    simp (disch := omega) only [f1, f3, f4, ↓SXd, SXu, slBounds, ↓sop, ↓aop, ↓reduceIte, LV.cells, AOp.dst, LV.I, LV.B, LV.U, LV.S, LV.nil, Nat.reduceEqDiff, Nat.reduceAdd, Nat.reduceMul, Nat.reduceSub, Nat.reduceLeDiff, Nat.reduceBEq, Nat.reduceDiv, Nat.reduceMod, Int.reduceToNat, Int.reduceLT, Int.reduceLE, Int.reduceAdd, Int.reduceSub, Int.reduceMul, Int.reduceEq, Int.reduceNeg, reduceCtorEq, resV, resAll, ARes.ev, LV.flat, ite_true, ite_false, exists_eq_left', exists_eq_left, keyOf, implies_true, fillC, capOf]
    refine condC_dec (fun hlt => ?_) (fun hlt => ?_)
    · have hk3 : k < 3 := by omega
      have hcb := at_box hS (hH.mem hcm) hk3
      have hck := row_k c hk3
      have hdk := row_k (decC c k) hk3
      rw [dec_at hk3] at hdk
      have hlt1 : k + 1 ≤ 3 := by omega
      have e0 : splice [LV.I 0, LV.I 0, LV.I 0] 0 [LV.I c.a, LV.I c.b, LV.I c.c] = [LV.I c.a, LV.I c.b, LV.I c.c] := rfl
      have e1 := dec_splice (c := c) hk3
      simp (disch := omega) only [f1, f3, f4, b1.cell, (hcg hpre), Cell.row, e0, e1, hck, hdk, hlt1, Nat.mul_one, Nat.zero_add, List.length_cons, List.length_nil, ↓SXd, SXu, slBounds, ↓sop, ↓aop, ↓reduceIte, LV.cells, AOp.dst, LV.I, LV.B, LV.U, LV.S, LV.nil, Nat.reduceEqDiff, Nat.reduceAdd, Nat.reduceMul, Nat.reduceSub, Nat.reduceLeDiff, Nat.reduceBEq, Nat.reduceDiv, Nat.reduceMod, Int.reduceToNat, Int.reduceLT, Int.reduceLE, Int.reduceAdd, Int.reduceSub, Int.reduceMul, Int.reduceEq, Int.reduceNeg, reduceCtorEq, resV, resAll, ARes.ev, LV.flat, ite_true, ite_false, exists_eq_left', exists_eq_left, keyOf, implies_true, fillC, capOf]
      by_cases h0 : 0 ≤ c.at (k : Int) - 1
      · simp (disch := omega) only [f1, f3, f4, h0, b1.app.cells, ↓SXd, SXu, slBounds, ↓sop, ↓aop, ↓reduceIte, LV.cells, AOp.dst, LV.I, LV.B, LV.U, LV.S, LV.nil, Nat.reduceEqDiff, Nat.reduceAdd, Nat.reduceMul, Nat.reduceSub, Nat.reduceLeDiff, Nat.reduceBEq, Nat.reduceDiv, Nat.reduceMod, Int.reduceToNat, Int.reduceLT, Int.reduceLE, Int.reduceAdd, Int.reduceSub, Int.reduceMul, Int.reduceEq, Int.reduceNeg, reduceCtorEq, resV, resAll, ARes.ev, LV.flat, ite_true, ite_false, exists_eq_left', exists_eq_left, keyOf, implies_true, fillC, capOf]
        refine callK_of (h_l2Has ((h.pre hpre).app.has) (by omega)) ?_
        simp (disch := omega) only [f1, f3, f4, ↓SXd, SXu, slBounds, ↓sop, ↓aop, ↓reduceIte, LV.cells, AOp.dst, LV.I, LV.B, LV.U, LV.S, LV.nil, Nat.reduceEqDiff, Nat.reduceAdd, Nat.reduceMul, Nat.reduceSub, Nat.reduceLeDiff, Nat.reduceBEq, Nat.reduceDiv, Nat.reduceMod, Int.reduceToNat, Int.reduceLT, Int.reduceLE, Int.reduceAdd, Int.reduceSub, Int.reduceMul, Int.reduceEq, Int.reduceNeg, reduceCtorEq, resV, resAll, ARes.ev, LV.flat, ite_true, ite_false, exists_eq_left', exists_eq_left, keyOf, implies_true, fillC, capOf]
        rw [cell_eta]
        by_cases hm : decC c k ∈ cs
        · simp (disch := omega) only [f1, f3, f4, hm, ↓SXd, SXu, slBounds, ↓sop, ↓aop, ↓reduceIte, LV.cells, AOp.dst, LV.I, LV.B, LV.U, LV.S, LV.nil, Nat.reduceEqDiff, Nat.reduceAdd, Nat.reduceMul, Nat.reduceSub, Nat.reduceLeDiff, Nat.reduceBEq, Nat.reduceDiv, Nat.reduceMod, Int.reduceToNat, Int.reduceLT, Int.reduceLE, Int.reduceAdd, Int.reduceSub, Int.reduceMul, Int.reduceEq, Int.reduceNeg, reduceCtorEq, resV, resAll, ARes.ev, LV.flat, ite_true, ite_false, exists_eq_left', exists_eq_left, keyOf, implies_true, fillC, capOf]
          refine ⟨m2 - 1, by omega, k + 1, by omega, hpre.app', b1.app, fun j hj => ?_, f1, f3, eqI (natI _)⟩
          rcases Nat.lt_or_ge j k with hjk | hjk
          · exact hall2 j hjk
          · rw [show j = k by omega]; exact fun _ => hm
        · have hno : ¬ StairP x y z fun d => decide (d ∈ cs) := fun hst => hm ((stairM hH).1 hst c hcm k hk3 h0)
          rw [decide_eq_false hno]
          simp (disch := omega) only [f1, f3, f4, hm, ↓SXd, SXu, slBounds, ↓sop, ↓aop, ↓reduceIte, LV.cells, AOp.dst, LV.I, LV.B, LV.U, LV.S, LV.nil, Nat.reduceEqDiff, Nat.reduceAdd, Nat.reduceMul, Nat.reduceSub, Nat.reduceLeDiff, Nat.reduceBEq, Nat.reduceDiv, Nat.reduceMod, Int.reduceToNat, Int.reduceLT, Int.reduceLE, Int.reduceAdd, Int.reduceSub, Int.reduceMul, Int.reduceEq, Int.reduceNeg, reduceCtorEq, resV, resAll, ARes.ev, LV.flat, ite_true, ite_false, exists_eq_left', exists_eq_left, keyOf, implies_true, fillC, capOf]
          exact cmp_pre hpre.app' rfl
      · simp (disch := omega) only [f1, f3, f4, h0, ↓SXd, SXu, slBounds, ↓sop, ↓aop, ↓reduceIte, LV.cells, AOp.dst, LV.I, LV.B, LV.U, LV.S, LV.nil, Nat.reduceEqDiff, Nat.reduceAdd, Nat.reduceMul, Nat.reduceSub, Nat.reduceLeDiff, Nat.reduceBEq, Nat.reduceDiv, Nat.reduceMod, Int.reduceToNat, Int.reduceLT, Int.reduceLE, Int.reduceAdd, Int.reduceSub, Int.reduceMul, Int.reduceEq, Int.reduceNeg, reduceCtorEq, resV, resAll, ARes.ev, LV.flat, ite_true, ite_false, exists_eq_left', exists_eq_left, keyOf, implies_true, fillC, capOf]
        refine ⟨m2 - 1, by omega, k + 1, by omega, hpre.app', b1.app, fun j hj => ?_, f1, f3, eqI (natI _)⟩
        rcases Nat.lt_or_ge j k with hjk | hjk
        · exact hall2 j hjk
        · rw [show j = k by omega]; exact fun hh => absurd hh h0
    · have : k = 3 := by omega
      subst this
      simp (disch := omega) only [f1, f3, f4, ↓SXd, SXu, slBounds, ↓sop, ↓aop, ↓reduceIte, LV.cells, AOp.dst, LV.I, LV.B, LV.U, LV.S, LV.nil, Nat.reduceEqDiff, Nat.reduceAdd, Nat.reduceMul, Nat.reduceSub, Nat.reduceLeDiff, Nat.reduceBEq, Nat.reduceDiv, Nat.reduceMod, Int.reduceToNat, Int.reduceLT, Int.reduceLE, Int.reduceAdd, Int.reduceSub, Int.reduceMul, Int.reduceEq, Int.reduceNeg, reduceCtorEq, resV, resAll, ARes.ev, LV.flat, ite_true, ite_false, exists_eq_left', exists_eq_left, keyOf, implies_true, fillC, capOf]
      refine ⟨m - 1, by omega, i + 1, by omega, hpre, b1, fun d hd => ?_, f1, eqI (natI _)⟩
      rw [hts] at hd
      rcases List.mem_append.1 hd with hd | hd
      · exact hall d hd
      · rw [List.mem_singleton.1 hd]; exact hall2
  · have : i = cs.length := by omega
    subst this
    rw [List.take_length] at hall
    rw [decide_eq_true ((stairM hH).2 hall)]
    simp (disch := omega) only [f1, f3, ↓SXd, SXu, slBounds, ↓sop, ↓aop, ↓reduceIte, LV.cells, AOp.dst, LV.I, LV.B, LV.U, LV.S, LV.nil, Nat.reduceEqDiff, Nat.reduceAdd, Nat.reduceMul, Nat.reduceSub, Nat.reduceLeDiff, Nat.reduceBEq, Nat.reduceDiv, Nat.reduceMod, Int.reduceToNat, Int.reduceLT, Int.reduceLE, Int.reduceAdd, Int.reduceSub, Int.reduceMul, Int.reduceEq, Int.reduceNeg, reduceCtorEq, resV, resAll, ARes.ev, LV.flat, ite_true, ite_false, exists_eq_left', exists_eq_left, keyOf, implies_true, fillC, capOf]
    exact cmp_pre hpre rfl
theorem h_l5Good {x y z : Int} {t : Nat} {w : Bool} {cs : List Cell} {M : Mem} (h : Live M t (.row (triL cs) w 3)) (hn : cs.length ≤ 1000000000) :
    CallsTo PG F.spec_l5Good [.agg [.I x, .I y, .I z, .ref t 0 cs.length]] M (.B (strB x y z cs)) M := by
  refine calls_run K.spec_l5Good rfl ?_
  simp (disch := omega) only [C.spec_l5Good, ↓SXd, SXu, slBounds, ↓sop, ↓aop, ↓reduceIte, LV.cells, AOp.dst, LV.I, LV.B, LV.U, LV.S, LV.nil, Nat.reduceEqDiff, Nat.reduceAdd, Nat.reduceMul, Nat.reduceSub, Nat.reduceLeDiff, Nat.reduceBEq, Nat.reduceDiv, Nat.reduceMod, Int.reduceToNat, Int.reduceLT, Int.reduceLE, Int.reduceAdd, Int.reduceSub, Int.reduceMul, Int.reduceEq, Int.reduceNeg, reduceCtorEq, resV, resAll, ARes.ev, LV.flat, ite_true, ite_false, exists_eq_left', exists_eq_left, keyOf, implies_true, fillC, capOf]
  refine callK_of (h_l2Heap h.app.has hn) ?_
  simp (disch := omega) only [↓SXd, SXu, slBounds, ↓sop, ↓aop, ↓reduceIte, LV.cells, AOp.dst, LV.I, LV.B, LV.U, LV.S, LV.nil, Nat.reduceEqDiff, Nat.reduceAdd, Nat.reduceMul, Nat.reduceSub, Nat.reduceLeDiff, Nat.reduceBEq, Nat.reduceDiv, Nat.reduceMod, Int.reduceToNat, Int.reduceLT, Int.reduceLE, Int.reduceAdd, Int.reduceSub, Int.reduceMul, Int.reduceEq, Int.reduceNeg, reduceCtorEq, resV, resAll, ARes.ev, LV.flat, ite_true, ite_false, exists_eq_left', exists_eq_left, keyOf, implies_true, fillC, capOf]
  by_cases hH : HeapOK x y z cs
  · have e : strB x y z cs = decide (StairP x y z fun c => decide (c ∈ cs)) := by
      rw [Bool.eq_iff_iff, strB_iff, decide_eq_true_iff]
      exact ⟨fun h => h.2, fun h => ⟨hH, h⟩⟩
    rw [e]
    simp (disch := omega) only [hH, ↓SXd, SXu, slBounds, ↓sop, ↓aop, ↓reduceIte, LV.cells, AOp.dst, LV.I, LV.B, LV.U, LV.S, LV.nil, Nat.reduceEqDiff, Nat.reduceAdd, Nat.reduceMul, Nat.reduceSub, Nat.reduceLeDiff, Nat.reduceBEq, Nat.reduceDiv, Nat.reduceMod, Int.reduceToNat, Int.reduceLT, Int.reduceLE, Int.reduceAdd, Int.reduceSub, Int.reduceMul, Int.reduceEq, Int.reduceNeg, reduceCtorEq, resV, resAll, ARes.ev, LV.flat, ite_true, ite_false, exists_eq_left', exists_eq_left, keyOf, implies_true, fillC, capOf]
    refine callK_of (h_l5Stair h.app hH) ?_
    simp (disch := omega) only [↓SXd, SXu, slBounds, ↓sop, ↓aop, ↓reduceIte, LV.cells, AOp.dst, LV.I, LV.B, LV.U, LV.S, LV.nil, Nat.reduceEqDiff, Nat.reduceAdd, Nat.reduceMul, Nat.reduceSub, Nat.reduceLeDiff, Nat.reduceBEq, Nat.reduceDiv, Nat.reduceMod, Int.reduceToNat, Int.reduceLT, Int.reduceLE, Int.reduceAdd, Int.reduceSub, Int.reduceMul, Int.reduceEq, Int.reduceNeg, reduceCtorEq, resV, resAll, ARes.ev, LV.flat, ite_true, ite_false, exists_eq_left', exists_eq_left, keyOf, implies_true, fillC, capOf]
    exact cmp_drop rfl
  · rw [str_no fun h => hH h.1]
    simp (disch := omega) only [hH, ↓SXd, SXu, slBounds, ↓sop, ↓aop, ↓reduceIte, LV.cells, AOp.dst, LV.I, LV.B, LV.U, LV.S, LV.nil, Nat.reduceEqDiff, Nat.reduceAdd, Nat.reduceMul, Nat.reduceSub, Nat.reduceLeDiff, Nat.reduceBEq, Nat.reduceDiv, Nat.reduceMod, Int.reduceToNat, Int.reduceLT, Int.reduceLE, Int.reduceAdd, Int.reduceSub, Int.reduceMul, Int.reduceEq, Int.reduceNeg, reduceCtorEq, resV, resAll, ARes.ev, LV.flat, ite_true, ite_false, exists_eq_left', exists_eq_left, keyOf, implies_true, fillC, capOf]
    exact cmp_drop rfl

theorem corn_iff {x y z : Int} {cs : List Cell} {c : Cell} (hc : c ∈ cs) : (StairP x y z fun d => decide (d ∈ cs.filter fun d => !decide (d = c))) ↔ cornC x y z (fun d => decide (d ∈ cs)) c = true := by
  unfold cornC
  rw [Bool.and_eq_true, decide_eq_true_iff, decide_eq_true_iff]
  have : (fun d => decide (d ∈ cs.filter fun d => !decide (d = c))) = fun d => decide (d ∈ cs) && !decide (d = c) := by
    funext d
    rw [Bool.eq_iff_iff]
    simp
  rw [this]
  exact ⟨fun h => ⟨hc, h⟩, fun h => h.2⟩
/-- The corners of a staircase. -/
noncomputable def cornL (x y z : Int) (cs : List Cell) : List Cell := cs.filter (cornC x y z fun d => decide (d ∈ cs))
theorem corn_pick {x y z : Int} {cs : List Cell} (hH : HeapOK x y z cs) : cornL x y z cs = pick x y z (cornC x y z fun d => decide (d ∈ cs)) := by
  unfold cornL
  conv => lhs; rw [hH.pick]
  rw [filter_pick]
  refine pick_congr hH.1 fun d _ => ?_
  rw [← hH.pick]
  cases hd : cornC x y z (fun d => decide (d ∈ cs)) d with
  | false => simp
  | true => rw [cornC_sub hd]; rfl
theorem h_l5Corners {x y z : Int} {t : Nat} {w : Bool} {cs : List Cell} {M : Mem} (h : Live M t (.row (triL cs) w 3)) (hH : HeapOK x y z cs) :
    CallsTo PG F.spec_l5Corners [.agg [.I x, .I y, .I z, .ref t 0 cs.length]] M (.ref M.length 0 (cornL x y z cs).length) (M ++ [some (.row (triL (cornL x y z cs)) true 3)]) := by
  have hlen := hH.len
  unfold cornL
  refine calls_run K.spec_l5Corners rfl ?_
  simp (disch := omega) only [C.spec_l5Corners, ↓SXd, SXu, slBounds, ↓sop, ↓aop, ↓reduceIte, LV.cells, AOp.dst, LV.I, LV.B, LV.U, LV.S, LV.nil, Nat.reduceEqDiff, Nat.reduceAdd, Nat.reduceMul, Nat.reduceSub, Nat.reduceLeDiff, Nat.reduceBEq, Nat.reduceDiv, Nat.reduceMod, Int.reduceToNat, Int.reduceLT, Int.reduceLE, Int.reduceAdd, Int.reduceSub, Int.reduceMul, Int.reduceEq, Int.reduceNeg, reduceCtorEq, resV, resAll, ARes.ev, LV.flat, ite_true, ite_false, exists_eq_left', exists_eq_left, keyOf, implies_true, fillC, capOf]
  refine ev_loop (fun m fr M' => ∃ (i u : Nat), i + m = cs.length ∧ Pre M M' ∧ Live M' M.length (.row [.I x, .I y, .I z, .ref t 0 cs.length] true 0) ∧ M.length < u ∧ Live M' u (.row (triL ((cs.take i).filter (cornC x y z fun d => decide (d ∈ cs)))) true 3) ∧
    fr 1 = .ptr M.length 0 ∧ fr 3 = .ref u 0 ((cs.take i).filter (cornC x y z fun d => decide (d ∈ cs))).length ∧ fr 4 = .I i) cs.length
    ⟨0, M.length + 1, by omega, Pre.app _ _, Live.new, by omega, Live.newj rfl, rfl, rfl, rfl⟩ ?_
  rintro m fr M' ⟨i, u, hi, hpre, b1, hu, b3, f1, f3, f4⟩
  simp (disch := omega) only [f1, f3, f4, b1.cell, ↓SXd, SXu, slBounds, ↓sop, ↓aop, ↓reduceIte, LV.cells, AOp.dst, LV.I, LV.B, LV.U, LV.S, LV.nil, Nat.reduceEqDiff, Nat.reduceAdd, Nat.reduceMul, Nat.reduceSub, Nat.reduceLeDiff, Nat.reduceBEq, Nat.reduceDiv, Nat.reduceMod, Int.reduceToNat, Int.reduceLT, Int.reduceLE, Int.reduceAdd, Int.reduceSub, Int.reduceMul, Int.reduceEq, Int.reduceNeg, reduceCtorEq, resV, resAll, ARes.ev, LV.flat, ite_true, ite_false, exists_eq_left', exists_eq_left, keyOf, implies_true, fillC, capOf]
  refine condC_dec (fun hlt => ?_) (fun hlt => ?_)
  · have hil : i < cs.length := by omega
    have hc := (h.pre hpre).tri0 hil
    have hts : cs.take (i + 1) = cs.take i ++ [cs.getD i default] := take_snoc' hil
    have hcm := getD_mem' (d := default) hil
    have hfl := List.length_filter_le (cornC x y z fun d => decide (d ∈ cs)) (cs.take i)
    have htl : (cs.take i).length = i := by simp; omega
    have hcg := fun {N : Mem} (hp : Pre M N) => (h.pre hp).tri0 hil
    generalize cs.getD i default = c at hc hts hcm hcg
    simp (disch := omega) only [f1, f3, f4, b1.cell, b1.cells, hc, Cell.row, ↓SXd, SXu, slBounds, ↓sop, ↓aop, ↓reduceIte, LV.cells, AOp.dst, LV.I, LV.B, LV.U, LV.S, LV.nil, Nat.reduceEqDiff, Nat.reduceAdd, Nat.reduceMul, Nat.reduceSub, Nat.reduceLeDiff, Nat.reduceBEq, Nat.reduceDiv, Nat.reduceMod, Int.reduceToNat, Int.reduceLT, Int.reduceLE, Int.reduceAdd, Int.reduceSub, Int.reduceMul, Int.reduceEq, Int.reduceNeg, reduceCtorEq, resV, resAll, ARes.ev, LV.flat, ite_true, ite_false, exists_eq_left', exists_eq_left, keyOf, implies_true, fillC, capOf]
    refine callH_of (h_l2Without (h.pre hpre).has (by omega)) ?_
    intro u2 N2 hu2 hp2 hb2
    rw [cell_eta] at hb2 ⊢
    have hcs := h_l5Stair (M := N2) hb2 (heap_without hH c)
    have hpM := hpre.1
    simp (disch := omega) only [f1, f3, f4, (keepL_pr hp2), ↓SXd, SXu, slBounds, ↓sop, ↓aop, ↓reduceIte, LV.cells, AOp.dst, LV.I, LV.B, LV.U, LV.S, LV.nil, Nat.reduceEqDiff, Nat.reduceAdd, Nat.reduceMul, Nat.reduceSub, Nat.reduceLeDiff, Nat.reduceBEq, Nat.reduceDiv, Nat.reduceMod, Int.reduceToNat, Int.reduceLT, Int.reduceLE, Int.reduceAdd, Int.reduceSub, Int.reduceMul, Int.reduceEq, Int.reduceNeg, reduceCtorEq, resV, resAll, ARes.ev, LV.flat, ite_true, ite_false, exists_eq_left', exists_eq_left, keyOf, implies_true, fillC, capOf]
    refine callK_of hcs ?_
    by_cases hk : cornC x y z (fun d => decide (d ∈ cs)) c = true
    · have hk' := (corn_iff (x := x) (y := y) (z := z) hcm).2 hk
      have hfs : (cs.take (i + 1)).filter (cornC x y z fun d => decide (d ∈ cs)) = (cs.take i).filter (cornC x y z fun d => decide (d ∈ cs)) ++ [c] := by
        rw [hts, List.filter_append, List.filter_cons_of_pos hk, List.filter_nil]
      simp (disch := omega) only [f1, f3, f4, hk', (b1.pre hp2).cell, (hcg (hpre.trans hp2)), Cell.row, splice, ↓SXd, SXu, slBounds, ↓sop, ↓aop, ↓reduceIte, LV.cells, AOp.dst, LV.I, LV.B, LV.U, LV.S, LV.nil, Nat.reduceEqDiff, Nat.reduceAdd, Nat.reduceMul, Nat.reduceSub, Nat.reduceLeDiff, Nat.reduceBEq, Nat.reduceDiv, Nat.reduceMod, Int.reduceToNat, Int.reduceLT, Int.reduceLE, Int.reduceAdd, Int.reduceSub, Int.reduceMul, Int.reduceEq, Int.reduceNeg, reduceCtorEq, resV, resAll, ARes.ev, LV.flat, ite_true, ite_false, exists_eq_left', exists_eq_left, keyOf, implies_true, fillC, capOf]
      refine appendK_cell (b3.pre hp2) (by omega) fun N5 l1 l2 l3 => ?_
      rw [cell_eta, ← hfs] at l2
      have hN2 := hp2.1
      have hub := b3.lt
      simp (disch := omega) only [f1, f3, f4, ↓SXd, SXu, slBounds, ↓sop, ↓aop, ↓reduceIte, LV.cells, AOp.dst, LV.I, LV.B, LV.U, LV.S, LV.nil, Nat.reduceEqDiff, Nat.reduceAdd, Nat.reduceMul, Nat.reduceSub, Nat.reduceLeDiff, Nat.reduceBEq, Nat.reduceDiv, Nat.reduceMod, Int.reduceToNat, Int.reduceLT, Int.reduceLE, Int.reduceAdd, Int.reduceSub, Int.reduceMul, Int.reduceEq, Int.reduceNeg, reduceCtorEq, resV, resAll, ARes.ev, LV.flat, ite_true, ite_false, exists_eq_left', exists_eq_left, keyOf, implies_true, fillC, capOf]
      refine ⟨m - 1, by omega, i + 1, N2.length + 1, by omega, pre_step (hpre.trans hp2) (by omega) l1 l3, live_step (b1.pre hp2) (by omega) l3, by omega, l2, f1, ?_, eqI (natI _)⟩
      rw [hfs]; rfl
    · have hk' : ¬ StairP x y z fun d => decide (d ∈ cs.filter fun d => !decide (d = c)) := fun e => hk ((corn_iff hcm).1 e)
      have hfs : (cs.take (i + 1)).filter (cornC x y z fun d => decide (d ∈ cs)) = (cs.take i).filter (cornC x y z fun d => decide (d ∈ cs)) := by
        rw [hts, List.filter_append, List.filter_cons_of_neg hk, List.filter_nil, List.append_nil]
      simp (disch := omega) only [f1, f3, f4, hk', ↓SXd, SXu, slBounds, ↓sop, ↓aop, ↓reduceIte, LV.cells, AOp.dst, LV.I, LV.B, LV.U, LV.S, LV.nil, Nat.reduceEqDiff, Nat.reduceAdd, Nat.reduceMul, Nat.reduceSub, Nat.reduceLeDiff, Nat.reduceBEq, Nat.reduceDiv, Nat.reduceMod, Int.reduceToNat, Int.reduceLT, Int.reduceLE, Int.reduceAdd, Int.reduceSub, Int.reduceMul, Int.reduceEq, Int.reduceNeg, reduceCtorEq, resV, resAll, ARes.ev, LV.flat, ite_true, ite_false, exists_eq_left', exists_eq_left, keyOf, implies_true, fillC, capOf]
      refine ⟨m - 1, by omega, i + 1, u, by omega, hpre.trans hp2, b1.pre hp2, hu, ?_, f1, ?_, eqI (natI _)⟩
      · rw [hfs]; exact b3.pre hp2
      · rw [hfs]; exact f3
  · have : i = cs.length := by omega
    subst this
    rw [List.take_length] at b3 f3
    simp (disch := omega) only [f1, f3, f4, ↓SXd, SXu, slBounds, ↓sop, ↓aop, ↓reduceIte, LV.cells, AOp.dst, LV.I, LV.B, LV.U, LV.S, LV.nil, Nat.reduceEqDiff, Nat.reduceAdd, Nat.reduceMul, Nat.reduceSub, Nat.reduceLeDiff, Nat.reduceBEq, Nat.reduceDiv, Nat.reduceMod, Int.reduceToNat, Int.reduceLT, Int.reduceLE, Int.reduceAdd, Int.reduceSub, Int.reduceMul, Int.reduceEq, Int.reduceNeg, reduceCtorEq, resV, resAll, ARes.ev, LV.flat, ite_true, ite_false, exists_eq_left', exists_eq_left, keyOf, implies_true, fillC, capOf]
    exact cmp_keepL hpre (by omega) b3 (triL_lo _) (by simp [rn, rn0, rn1])

theorem orN_mem {x y z : Int} (hS : Sides x y z) {n : Nat} {cs : List Cell} {c : Cell} : orN x y z n (fun d => decide (d ∈ cs.filter fun d => !decide (d = c))) = orN x y z n fun d => decide (d ∈ cs) && !decide (d = c) := orN_congr hS fun d _ => by
  simp only [List.mem_filter, Bool.decide_and, Bool.not_eq_true', decide_eq_false_iff_not]
  rw [Bool.eq_iff_iff]; simp
theorem h_l5Orders {x y z : Int} : ∀ (n : Nat) {cs : List Cell} {t : Nat} {w : Bool} {M : Mem}, Live M t (.row (triL cs) w 3) → HeapOK x y z cs → cs.length = n → n ≤ 9 →
    CallsTo PG F.spec_l5Orders [.agg [.I x, .I y, .I z, .ref t 0 cs.length]] M (.I (orN x y z n fun d => decide (d ∈ cs) : Nat)) M
  | 0, cs, t, w, M, h, hH, hn, _ => by
    refine calls_run K.spec_l5Orders rfl ?_
    simp (disch := omega) only [C.spec_l5Orders, hn, ↓SXd, SXu, slBounds, ↓sop, ↓aop, ↓reduceIte, LV.cells, AOp.dst, LV.I, LV.B, LV.U, LV.S, LV.nil, Nat.reduceEqDiff, Nat.reduceAdd, Nat.reduceMul, Nat.reduceSub, Nat.reduceLeDiff, Nat.reduceBEq, Nat.reduceDiv, Nat.reduceMod, Int.reduceToNat, Int.reduceLT, Int.reduceLE, Int.reduceAdd, Int.reduceSub, Int.reduceMul, Int.reduceEq, Int.reduceNeg, reduceCtorEq, resV, resAll, ARes.ev, LV.flat, ite_true, ite_false, exists_eq_left', exists_eq_left, keyOf, implies_true, fillC, capOf]
    exact cmp_drop rfl
  | n + 1, cs, t, w, M, h, hH, hn, h8 => by
    have hS := hH.1
    have hne : ¬ ((cs.length : Nat) : Int) = 0 := by omega
    have hfac : ∀ n, n ≤ 8 → facN n ≤ 40320 := by decide
    have hfc := hfac n (by omega)
    have hLm : ∀ c ∈ cornL x y z cs, c ∈ cs := fun c hc => (List.mem_filter.1 hc).1
    have hLl : (cornL x y z cs).length ≤ 9 := by
      have := List.length_filter_le (cornC x y z fun d => decide (d ∈ cs)) cs
      unfold cornL; omega
    have hfb : ∀ c ∈ cs, orN x y z n (fun d => decide (d ∈ cs) && !decide (d = c)) ≤ 40320 := fun c hc => by
      have h1 := pick_less hS (p := fun d => decide (d ∈ cs)) (hH.mem hc) (by simp [hc])
      rw [← hH.pick] at h1
      have := orN_le hS (n := n) (p := fun d => decide (d ∈ cs) && !decide (d = c)) (by omega)
      omega
    have hall : orN x y z (n + 1) (fun d => decide (d ∈ cs)) = ((cornL x y z cs).map fun c => orN x y z n fun d => decide (d ∈ cs) && !decide (d = c)).sum := by
      rw [corn_pick hH]; rfl
    rw [hall]
    refine calls_run K.spec_l5Orders rfl ?_
    simp (disch := omega) only [C.spec_l5Orders, hne, ↓SXd, SXu, slBounds, ↓sop, ↓aop, ↓reduceIte, LV.cells, AOp.dst, LV.I, LV.B, LV.U, LV.S, LV.nil, Nat.reduceEqDiff, Nat.reduceAdd, Nat.reduceMul, Nat.reduceSub, Nat.reduceLeDiff, Nat.reduceBEq, Nat.reduceDiv, Nat.reduceMod, Int.reduceToNat, Int.reduceLT, Int.reduceLE, Int.reduceAdd, Int.reduceSub, Int.reduceMul, Int.reduceEq, Int.reduceNeg, reduceCtorEq, resV, resAll, ARes.ev, LV.flat, ite_true, ite_false, exists_eq_left', exists_eq_left, keyOf, implies_true, fillC, capOf]
    refine callK_of (h_l5Corners h.app hH) ?_
    simp (disch := omega) only [↓SXd, SXu, slBounds, ↓sop, ↓aop, ↓reduceIte, LV.cells, AOp.dst, LV.I, LV.B, LV.U, LV.S, LV.nil, Nat.reduceEqDiff, Nat.reduceAdd, Nat.reduceMul, Nat.reduceSub, Nat.reduceLeDiff, Nat.reduceBEq, Nat.reduceDiv, Nat.reduceMod, Int.reduceToNat, Int.reduceLT, Int.reduceLE, Int.reduceAdd, Int.reduceSub, Int.reduceMul, Int.reduceEq, Int.reduceNeg, reduceCtorEq, resV, resAll, ARes.ev, LV.flat, ite_true, ite_false, exists_eq_left', exists_eq_left, keyOf, implies_true, fillC, capOf]
    generalize hL : cornL x y z cs = L at hLm hLl
    have b1 : Live (M ++ [some (.row [.I x, .I y, .I z, .ref t 0 cs.length] true 0), some (.row (triL L) true 3)]) M.length (.row [.I x, .I y, .I z, .ref t 0 cs.length] true 0) := Live.new
    have b4 : Live (M ++ [some (.row [.I x, .I y, .I z, .ref t 0 cs.length] true 0), some (.row (triL L) true 3)]) (M.length + 1) (.row (triL L) true 3) := Live.newj rfl
    refine ev_loop (fun m fr M' => ∃ i : Nat, i + m = L.length ∧ Pre M M' ∧ Live M' M.length (.row [.I x, .I y, .I z, .ref t 0 cs.length] true 0) ∧ Live M' (M.length + 1) (.row (triL L) true 3) ∧
      fr 1 = .ptr M.length 0 ∧ fr 3 = .I (((L.take i).map fun c => orN x y z n fun d => decide (d ∈ cs) && !decide (d = c)).sum : Nat) ∧ fr 4 = .ref (M.length + 1) 0 L.length ∧ fr 5 = .I i) L.length
      ⟨0, by omega, Pre.app _ _, b1, b4, rfl, rfl, rfl, rfl⟩ ?_
    clear b1 b4
    rintro m fr M' ⟨i, hi, hpre, b1, b4, f1, f3, f4, f5⟩
    simp (disch := omega) only [f1, f3, f4, f5, ↓SXd, SXu, slBounds, ↓sop, ↓aop, ↓reduceIte, LV.cells, AOp.dst, LV.I, LV.B, LV.U, LV.S, LV.nil, Nat.reduceEqDiff, Nat.reduceAdd, Nat.reduceMul, Nat.reduceSub, Nat.reduceLeDiff, Nat.reduceBEq, Nat.reduceDiv, Nat.reduceMod, Int.reduceToNat, Int.reduceLT, Int.reduceLE, Int.reduceAdd, Int.reduceSub, Int.reduceMul, Int.reduceEq, Int.reduceNeg, reduceCtorEq, resV, resAll, ARes.ev, LV.flat, ite_true, ite_false, exists_eq_left', exists_eq_left, keyOf, implies_true, fillC, capOf]
    refine condC_dec (fun hlt => ?_) (fun hlt => ?_)
    · have hil : i < L.length := by omega
      have hc := b4.tri0 hil
      have hcm := hLm _ (getD_mem' (d := default) hil)
      have hts : L.take (i + 1) = L.take i ++ [L.getD i default] := take_snoc' hil
      generalize L.getD i default = c at hc hts hcm
      have hsb : ((L.take i).map fun c => orN x y z n fun d => decide (d ∈ cs) && !decide (d = c)).sum ≤ 9 * 40320 := by
        refine Nat.le_trans (sum_le (b := 40320) fun d hd => hfb d (hLm d (List.mem_of_mem_take hd))) (Nat.mul_le_mul_right _ ?_)
        have h2 : (L.take i).length = i := by simp; omega
        omega
      have hcb := hfb c hcm
      have hwl := without_len hH hcm
      have hcall := fun {u : Nat} {N : Mem} (hu : Live N u (.row (triL (cs.filter fun d => !decide (d = c))) true 3)) => h_l5Orders n hu (heap_without hH c) (by omega) (by omega)
      rw [orN_mem hS] at hcall
      generalize hst : ((L.take i).map fun c => orN x y z n fun d => decide (d ∈ cs) && !decide (d = c)).sum = s0 at f3 hsb
      simp (disch := omega) only [f1, f3, f4, f5, b1.cells, hc, Cell.row, ↓SXd, SXu, slBounds, ↓sop, ↓aop, ↓reduceIte, LV.cells, AOp.dst, LV.I, LV.B, LV.U, LV.S, LV.nil, Nat.reduceEqDiff, Nat.reduceAdd, Nat.reduceMul, Nat.reduceSub, Nat.reduceLeDiff, Nat.reduceBEq, Nat.reduceDiv, Nat.reduceMod, Int.reduceToNat, Int.reduceLT, Int.reduceLE, Int.reduceAdd, Int.reduceSub, Int.reduceMul, Int.reduceEq, Int.reduceNeg, reduceCtorEq, resV, resAll, ARes.ev, LV.flat, ite_true, ite_false, exists_eq_left', exists_eq_left, keyOf, implies_true, fillC, capOf]
      refine callH_of (h_l2Without (h.pre hpre).has (by omega)) ?_
      intro u2 N2 hu2 hp2 hb2
      rw [cell_eta] at hb2 ⊢
      simp (disch := omega) only [f1, f3, f4, f5, (keepL_pr hp2), ↓SXd, SXu, slBounds, ↓sop, ↓aop, ↓reduceIte, LV.cells, AOp.dst, LV.I, LV.B, LV.U, LV.S, LV.nil, Nat.reduceEqDiff, Nat.reduceAdd, Nat.reduceMul, Nat.reduceSub, Nat.reduceLeDiff, Nat.reduceBEq, Nat.reduceDiv, Nat.reduceMod, Int.reduceToNat, Int.reduceLT, Int.reduceLE, Int.reduceAdd, Int.reduceSub, Int.reduceMul, Int.reduceEq, Int.reduceNeg, reduceCtorEq, resV, resAll, ARes.ev, LV.flat, ite_true, ite_false, exists_eq_left', exists_eq_left, keyOf, implies_true, fillC, capOf]
      refine callK_of (hcall hb2) ?_
      simp (disch := omega) only [f1, f3, f4, f5, (keepL_pr hp2), ↓SXd, SXu, slBounds, ↓sop, ↓aop, ↓reduceIte, LV.cells, AOp.dst, LV.I, LV.B, LV.U, LV.S, LV.nil, Nat.reduceEqDiff, Nat.reduceAdd, Nat.reduceMul, Nat.reduceSub, Nat.reduceLeDiff, Nat.reduceBEq, Nat.reduceDiv, Nat.reduceMod, Int.reduceToNat, Int.reduceLT, Int.reduceLE, Int.reduceAdd, Int.reduceSub, Int.reduceMul, Int.reduceEq, Int.reduceNeg, reduceCtorEq, resV, resAll, ARes.ev, LV.flat, ite_true, ite_false, exists_eq_left', exists_eq_left, keyOf, implies_true, fillC, capOf]
      refine ⟨m - 1, by omega, i + 1, by omega, hpre.trans hp2, b1.pre hp2, b4.pre hp2, f1, ?_, f4, eqI (natI _)⟩
      rw [hts, List.map_append, List.sum_append, hst]
      exact eqI (by simp)
    · have : i = L.length := by omega
      subst this
      rw [List.take_length] at f3
      simp (disch := omega) only [f1, f3, f4, f5, ↓SXd, SXu, slBounds, ↓sop, ↓aop, ↓reduceIte, LV.cells, AOp.dst, LV.I, LV.B, LV.U, LV.S, LV.nil, Nat.reduceEqDiff, Nat.reduceAdd, Nat.reduceMul, Nat.reduceSub, Nat.reduceLeDiff, Nat.reduceBEq, Nat.reduceDiv, Nat.reduceMod, Int.reduceToNat, Int.reduceLT, Int.reduceLE, Int.reduceAdd, Int.reduceSub, Int.reduceMul, Int.reduceEq, Int.reduceNeg, reduceCtorEq, resV, resAll, ARes.ev, LV.flat, ite_true, ite_false, exists_eq_left', exists_eq_left, keyOf, implies_true, fillC, capOf]
      exact cmp_pre hpre rfl

noncomputable def orsB (x y z : Int) (cs : List Cell) : Bool := strB x y z cs && decide (cs.length ≤ 9)
noncomputable def orsN (x y z : Int) (cs : List Cell) : Nat := if orsB x y z cs = true then orN x y z cs.length (fun d => decide (d ∈ cs)) else 0
theorem h_sStairOrders {x y z : Int} {t : Nat} {w : Bool} {cs : List Cell} {M : Mem} (h : Live M t (.row (triL cs) w 3)) (hn : cs.length ≤ 1000000000) :
    CallsTo PG F.spec_StairOrders [.agg [.I x, .I y, .I z, .ref t 0 cs.length]] M (.tup [.I (orsN x y z cs : Nat), .B (orsB x y z cs)]) M := by
  refine calls_run K.spec_StairOrders rfl ?_
  simp (disch := omega) only [C.spec_StairOrders, ↓SXd, SXu, slBounds, ↓sop, ↓aop, ↓reduceIte, LV.cells, AOp.dst, LV.I, LV.B, LV.U, LV.S, LV.nil, Nat.reduceEqDiff, Nat.reduceAdd, Nat.reduceMul, Nat.reduceSub, Nat.reduceLeDiff, Nat.reduceBEq, Nat.reduceDiv, Nat.reduceMod, Int.reduceToNat, Int.reduceLT, Int.reduceLE, Int.reduceAdd, Int.reduceSub, Int.reduceMul, Int.reduceEq, Int.reduceNeg, reduceCtorEq, resV, resAll, ARes.ev, LV.flat, ite_true, ite_false, exists_eq_left', exists_eq_left, keyOf, implies_true, fillC, capOf]
  refine callK_of (h_l5Good h.app hn) ?_
  simp (disch := omega) only [↓SXd, SXu, slBounds, ↓sop, ↓aop, ↓reduceIte, LV.cells, AOp.dst, LV.I, LV.B, LV.U, LV.S, LV.nil, Nat.reduceEqDiff, Nat.reduceAdd, Nat.reduceMul, Nat.reduceSub, Nat.reduceLeDiff, Nat.reduceBEq, Nat.reduceDiv, Nat.reduceMod, Int.reduceToNat, Int.reduceLT, Int.reduceLE, Int.reduceAdd, Int.reduceSub, Int.reduceMul, Int.reduceEq, Int.reduceNeg, reduceCtorEq, resV, resAll, ARes.ev, LV.flat, ite_true, ite_false, exists_eq_left', exists_eq_left, keyOf, implies_true, fillC, capOf]
  unfold orsN orsB
  by_cases hV : HeapOK x y z cs ∧ StairP x y z (fun c => decide (c ∈ cs))
  · rw [str_yes hV, Bool.true_and]
    by_cases h8 : cs.length ≤ 9
    · have h8' : ¬ ((9 : Int) < (cs.length : Nat)) := by omega
      rw [decide_eq_true h8, if_pos rfl]
      simp (disch := omega) only [h8', ↓SXd, SXu, slBounds, ↓sop, ↓aop, ↓reduceIte, LV.cells, AOp.dst, LV.I, LV.B, LV.U, LV.S, LV.nil, Nat.reduceEqDiff, Nat.reduceAdd, Nat.reduceMul, Nat.reduceSub, Nat.reduceLeDiff, Nat.reduceBEq, Nat.reduceDiv, Nat.reduceMod, Int.reduceToNat, Int.reduceLT, Int.reduceLE, Int.reduceAdd, Int.reduceSub, Int.reduceMul, Int.reduceEq, Int.reduceNeg, reduceCtorEq, resV, resAll, ARes.ev, LV.flat, ite_true, ite_false, exists_eq_left', exists_eq_left, keyOf, implies_true, fillC, capOf]
      refine callK_of (h_l5Orders cs.length h.app hV.1 rfl h8) ?_
      simp (disch := omega) only [↓SXd, SXu, slBounds, ↓sop, ↓aop, ↓reduceIte, LV.cells, AOp.dst, LV.I, LV.B, LV.U, LV.S, LV.nil, Nat.reduceEqDiff, Nat.reduceAdd, Nat.reduceMul, Nat.reduceSub, Nat.reduceLeDiff, Nat.reduceBEq, Nat.reduceDiv, Nat.reduceMod, Int.reduceToNat, Int.reduceLT, Int.reduceLE, Int.reduceAdd, Int.reduceSub, Int.reduceMul, Int.reduceEq, Int.reduceNeg, reduceCtorEq, resV, resAll, ARes.ev, LV.flat, ite_true, ite_false, exists_eq_left', exists_eq_left, keyOf, implies_true, fillC, capOf]
      exact cmp_drop rfl
    · have h8' : (9 : Int) < (cs.length : Nat) := by omega
      rw [decide_eq_false h8, if_neg (by simp)]
      simp (disch := omega) only [h8', ↓SXd, SXu, slBounds, ↓sop, ↓aop, ↓reduceIte, LV.cells, AOp.dst, LV.I, LV.B, LV.U, LV.S, LV.nil, Nat.reduceEqDiff, Nat.reduceAdd, Nat.reduceMul, Nat.reduceSub, Nat.reduceLeDiff, Nat.reduceBEq, Nat.reduceDiv, Nat.reduceMod, Int.reduceToNat, Int.reduceLT, Int.reduceLE, Int.reduceAdd, Int.reduceSub, Int.reduceMul, Int.reduceEq, Int.reduceNeg, reduceCtorEq, resV, resAll, ARes.ev, LV.flat, ite_true, ite_false, exists_eq_left', exists_eq_left, keyOf, implies_true, fillC, capOf]
      exact cmp_drop rfl
  · rw [str_no hV, Bool.false_and, if_neg (by simp)]
    simp (disch := omega) only [↓SXd, SXu, slBounds, ↓sop, ↓aop, ↓reduceIte, LV.cells, AOp.dst, LV.I, LV.B, LV.U, LV.S, LV.nil, Nat.reduceEqDiff, Nat.reduceAdd, Nat.reduceMul, Nat.reduceSub, Nat.reduceLeDiff, Nat.reduceBEq, Nat.reduceDiv, Nat.reduceMod, Int.reduceToNat, Int.reduceLT, Int.reduceLE, Int.reduceAdd, Int.reduceSub, Int.reduceMul, Int.reduceEq, Int.reduceNeg, reduceCtorEq, resV, resAll, ARes.ev, LV.flat, ite_true, ite_false, exists_eq_left', exists_eq_left, keyOf, implies_true, fillC, capOf]
    exact cmp_drop rfl
end Go.Ab

/- Contracts: staircases, corners, lines and orders of the program. -/
namespace Go.Ab
open Go
set_option linter.unusedSimpArgs false
set_option linter.unusedVariables false
set_option maxRecDepth 20000

/-- What the map says is true. -/
def MemoO (x y z : Int) (L : List (BitVec 64 × Int)) : Prop := (∃ q ∈ L, q.1 = 0#64) ∧ ∀ q ∈ L, ∀ p : Cell → Bool, q.1 = bs x y z p → q.2 = (orN x y z (pick x y z p).length p : Nat)

theorem g_StairOrders_1 {x y z : Int} (hS : Sides x y z) {a1 a2 a3 tm : Nat} {hv : LV} (hd : tm ≠ a1 ∧ tm ≠ a2 ∧ tm ≠ a3) : ∀ (n : Nat) {p : Cell → Bool} {M : Mem} {L : List (BitVec 64 × Int)}, (pick x y z p).length = n → n ≤ 9 →
    Live M a1 (.row [.mp tm] true 0) → Live M a2 (.row [.I x, .I y, .I z, hv] true 0) → Live M a3 (.row [.clo F.impl_StairOrders_1 [(a1, 0), (a2, 0), (a3, 0)]] true 0) → Live M tm (.map (memE L)) → MemoO x y z L →
    CallsR PG F.impl_StairOrders_1 [.W (bs x y z p), .ptr a1 0, .ptr a2 0, .ptr a3 0] M fun v N => v = .I (orN x y z n p : Nat) ∧ But1 tm M N ∧ ∃ L', Live N tm (.map (memE L')) ∧ MemoO x y z L' := by
  intro n
  induction n with
  | zero =>
    intro p M L hp h8 b1 b2 b3 bm hL
    refine callsR_run K.impl_StairOrders_1 rfl ?_
    have hz : bs x y z p = 0#64 := (bs_zero hS).2 fun c hc => by
      cases hpc : p c with
      | false => rfl
      | true => have := (mem_pick hS).2 ⟨hc, hpc⟩; rw [List.eq_nil_of_length_eq_zero hp] at this; cases this
    obtain ⟨k, hk, hmem⟩ : ∃ k, lookM 0 (.mp tm) (.val (.int .u64 (((bs x y z p).toNat : Nat) : Int))) M = some (some (LV.I k)) ∧ (bs x y z p, k) ∈ L := by
      rcases look_mem (b := bs x y z p) bm with ⟨_, h⟩ | h
      · obtain ⟨q, hq, e⟩ := hL.1
        exact absurd (e.trans hz.symm) (h q hq)
      · exact h
    have hkv := hL.2 _ hmem p rfl
    simp only [hp] at hkv
    simp (disch := omega) only [C.impl_StairOrders_1, b1.cell, hk, Option.getD_some, Option.isSome_some, ↓SXd, SXu, slBounds, ↓sop, ↓aop, ↓reduceIte, LV.cells, AOp.dst, LV.I, LV.B, LV.U, LV.S, LV.nil, Nat.reduceEqDiff, Nat.reduceAdd, Nat.reduceMul, Nat.reduceSub, Nat.reduceLeDiff, Nat.reduceBEq, Nat.reduceDiv, Nat.reduceMod, Int.reduceToNat, Int.reduceLT, Int.reduceLE, Int.reduceAdd, Int.reduceSub, Int.reduceMul, Int.reduceEq, Int.reduceNeg, reduceCtorEq, resV, resAll, ARes.ev, LV.flat, ite_true, ite_false, exists_eq_left', exists_eq_left, keyOf, implies_true, fillC, capOf]
    exact ⟨by rw [hkv], But1.of (Pre.refl _), L, bm, hL⟩
  | succ n ih =>
    intro p M L hp h8 b1 b2 b3 bm hL
    refine callsR_run K.impl_StairOrders_1 rfl ?_
    rcases look_mem (b := bs x y z p) bm with ⟨hk, hno⟩ | ⟨k, hk, hmem⟩
    rotate_left
    · have hkv := hL.2 _ hmem p rfl
      simp only [hp] at hkv
      simp (disch := omega) only [C.impl_StairOrders_1, b1.cell, hk, Option.getD_some, Option.isSome_some, ↓SXd, SXu, slBounds, ↓sop, ↓aop, ↓reduceIte, LV.cells, AOp.dst, LV.I, LV.B, LV.U, LV.S, LV.nil, Nat.reduceEqDiff, Nat.reduceAdd, Nat.reduceMul, Nat.reduceSub, Nat.reduceLeDiff, Nat.reduceBEq, Nat.reduceDiv, Nat.reduceMod, Int.reduceToNat, Int.reduceLT, Int.reduceLE, Int.reduceAdd, Int.reduceSub, Int.reduceMul, Int.reduceEq, Int.reduceNeg, reduceCtorEq, resV, resAll, ARes.ev, LV.flat, ite_true, ite_false, exists_eq_left', exists_eq_left, keyOf, implies_true, fillC, capOf]
      exact ⟨by rw [hkv], But1.of (Pre.refl _), L, bm, hL⟩
    have hall : orN x y z (n + 1) p = ((pick x y z (cornC x y z p)).map fun c => orN x y z n fun d => p d && !decide (d = c)).sum := rfl
    have hfac : ∀ n, n ≤ 8 → facN n ≤ 40320 := by decide
    have hfc := hfac n (by omega)
    have hcin : ∀ c ∈ pick x y z (cornC x y z p), c.inBox x y z ∧ p c = true := fun c hc => ⟨((mem_pick hS).1 hc).1, cornC_sub ((mem_pick hS).1 hc).2⟩
    have hfb : ∀ c ∈ pick x y z (cornC x y z p), orN x y z n (fun d => p d && !decide (d = c)) ≤ 40320 := fun c hc => by
      have h1 := pick_less hS (hcin c hc).1 (hcin c hc).2
      have := orN_le hS (n := n) (p := fun d => p d && !decide (d = c)) (by omega)
      omega
    have hcl : (pick x y z (cornC x y z p)).length ≤ 9 := by
      have := nodup_sub (l := pick x y z (cornC x y z p)) (m := pick x y z p) (pick_ok hS _).nodup fun c hc => (mem_pick hS).2 (hcin c hc)
      omega
    have hso := pick_sorted hS (cornC x y z p)
    rw [hall]
    simp (disch := omega) only [C.impl_StairOrders_1, b1.cell, hk, Option.getD_none, Option.isSome_none, b2.cells, ↓SXd, SXu, slBounds, ↓sop, ↓aop, ↓reduceIte, LV.cells, AOp.dst, LV.I, LV.B, LV.U, LV.S, LV.nil, Nat.reduceEqDiff, Nat.reduceAdd, Nat.reduceMul, Nat.reduceSub, Nat.reduceLeDiff, Nat.reduceBEq, Nat.reduceDiv, Nat.reduceMod, Int.reduceToNat, Int.reduceLT, Int.reduceLE, Int.reduceAdd, Int.reduceSub, Int.reduceMul, Int.reduceEq, Int.reduceNeg, reduceCtorEq, resV, resAll, ARes.ev, LV.flat, ite_true, ite_false, exists_eq_left', exists_eq_left, keyOf, implies_true, fillC, capOf]
    refine callK_of (g_box) ?_
    simp (disch := omega) only [↓SXd, SXu, slBounds, ↓sop, ↓aop, ↓reduceIte, LV.cells, AOp.dst, LV.I, LV.B, LV.U, LV.S, LV.nil, Nat.reduceEqDiff, Nat.reduceAdd, Nat.reduceMul, Nat.reduceSub, Nat.reduceLeDiff, Nat.reduceBEq, Nat.reduceDiv, Nat.reduceMod, Int.reduceToNat, Int.reduceLT, Int.reduceLE, Int.reduceAdd, Int.reduceSub, Int.reduceMul, Int.reduceEq, Int.reduceNeg, reduceCtorEq, resV, resAll, ARes.ev, LV.flat, ite_true, ite_false, exists_eq_left', exists_eq_left, keyOf, implies_true, fillC, capOf]
    refine callK_of (g_stairCorners hS) ?_
    simp (disch := omega) only [↓SXd, SXu, slBounds, ↓sop, ↓aop, ↓reduceIte, LV.cells, AOp.dst, LV.I, LV.B, LV.U, LV.S, LV.nil, Nat.reduceEqDiff, Nat.reduceAdd, Nat.reduceMul, Nat.reduceSub, Nat.reduceLeDiff, Nat.reduceBEq, Nat.reduceDiv, Nat.reduceMod, Int.reduceToNat, Int.reduceLT, Int.reduceLE, Int.reduceAdd, Int.reduceSub, Int.reduceMul, Int.reduceEq, Int.reduceNeg, reduceCtorEq, resV, resAll, ARes.ev, LV.flat, ite_true, ite_false, exists_eq_left', exists_eq_left, keyOf, implies_true, fillC, capOf]
    have hpre0 : But1 tm M M := But1.of (Pre.refl _)
    refine ev_loop (fun m fr M' => ∃ (done todo : List Cell) (L : List (BitVec 64 × Int)), pick x y z (cornC x y z p) = done ++ todo ∧ todo.length = m ∧ But1 tm M M' ∧ Live M' tm (.map (memE L)) ∧ MemoO x y z L ∧
      fr 0 = .W (bs x y z p) ∧ fr 1 = .ptr a1 0 ∧ fr 2 = .ptr a2 0 ∧ fr 3 = .ptr a3 0 ∧ fr 8 = .I ((done.map fun c => orN x y z n fun d => p d && !decide (d = c)).sum : Nat) ∧ fr 9 = .W (bs x y z fun d => decide (d ∈ todo))) (pick x y z (cornC x y z p)).length
      ⟨[], pick x y z (cornC x y z p), L, rfl, rfl, hpre0, bm, hL, rfl, rfl, rfl, rfl, rfl, ?_⟩ ?_
    · rw [show (bs x y z fun d => decide (d ∈ pick x y z (cornC x y z p))) = bs x y z (cornC x y z p) from (bs_eq hS).2 fun d hd => by
        rw [Bool.eq_iff_iff, decide_eq_true_iff, mem_pick hS]; exact ⟨fun h => h.2, fun h => ⟨hd, h⟩⟩]
      rfl
    clear hk hno bm hL L hpre0
    rintro m fr M' ⟨done, todo, L, hdt, htm, hbut, bm, hL, f0, f1, f2, f3, f8, f9⟩
    have b1' := b1.but hbut (by omega)
    have b3' := b3.but hbut (by omega)
    have b2' := b2.but hbut (by omega)
    cases todo with
    | nil =>
      have hz : bs x y z (fun d => decide (d ∈ ([] : List Cell))) = 0#64 := (bs_zero hS).2 fun c hc => by simp
      rw [List.append_nil] at hdt
      have hsl : (done.map fun c => orN x y z n fun d => p d && !decide (d = c)).sum = orN x y z (n + 1) p := by rw [hall, hdt]
      rw [hsl] at f8
      rw [← hall]
      simp (disch := omega) only [f0, f1, f2, f3, f8, f9, hz, b1'.cell, ↓SXd, SXu, slBounds, ↓sop, ↓aop, ↓reduceIte, LV.cells, AOp.dst, LV.I, LV.B, LV.U, LV.S, LV.nil, Nat.reduceEqDiff, Nat.reduceAdd, Nat.reduceMul, Nat.reduceSub, Nat.reduceLeDiff, Nat.reduceBEq, Nat.reduceDiv, Nat.reduceMod, Int.reduceToNat, Int.reduceLT, Int.reduceLE, Int.reduceAdd, Int.reduceSub, Int.reduceMul, Int.reduceEq, Int.reduceNeg, reduceCtorEq, resV, resAll, ARes.ev, LV.flat, ite_true, ite_false, exists_eq_left', exists_eq_left, keyOf, implies_true, fillC, capOf]
      refine memK_mem bm fun N L' k1 k2 k3 k4 k5 => ?_
      simp (disch := omega) only [f0, f1, f2, f3, f8, f9, ↓SXd, SXu, slBounds, ↓sop, ↓aop, ↓reduceIte, LV.cells, AOp.dst, LV.I, LV.B, LV.U, LV.S, LV.nil, Nat.reduceEqDiff, Nat.reduceAdd, Nat.reduceMul, Nat.reduceSub, Nat.reduceLeDiff, Nat.reduceBEq, Nat.reduceDiv, Nat.reduceMod, Int.reduceToNat, Int.reduceLT, Int.reduceLE, Int.reduceAdd, Int.reduceSub, Int.reduceMul, Int.reduceEq, Int.reduceNeg, reduceCtorEq, resV, resAll, ARes.ev, LV.flat, ite_true, ite_false, exists_eq_left', exists_eq_left, keyOf, implies_true, fillC, capOf]
      refine ⟨rfl, hbut.trans ⟨by omega, fun u h1 h2 => k5 u h1 h2⟩, L', k2, ?_, fun q hq r hr => ?_⟩
      · exact k4 _ (.inr hL.1)
      · rcases k3 q hq with rfl | hq
        · have hpr := (bs_eq hS).1 hr
          rw [show (pick x y z r).length = n + 1 by rw [← pick_congr hS hpr]; exact hp, orN_congr hS hpr]
        · exact hL.2 q hq r hr
    | cons c rest =>
      have hcm : c ∈ pick x y z (cornC x y z p) := by rw [hdt]; simp
      obtain ⟨hci, hpc⟩ := hcin c hcm
      have hso2 : (c :: rest).Pairwise Cell.lt := by
        rw [hdt] at hso; exact (List.pairwise_append.1 hso).2.1
      obtain ⟨hlt, hso3⟩ := List.pairwise_cons.1 hso2
      have hlow : ∀ d, d.inBox x y z → decide (d ∈ c :: rest) = true → ¬ d.lt c := fun d _ hd hl => by
        rw [decide_eq_true_iff] at hd
        rcases List.mem_cons.1 hd with rfl | hd
        · exact Cell.lt_irrefl _ hl
        · exact Cell.lt_irrefl _ (Cell.lt_trans hl (hlt d hd))
      have hl1 := bs_low hS (p := fun d => decide (d ∈ c :: rest)) hci (by simp) hlow
      have hl2 := bs_clear hS (p := fun d => decide (d ∈ c :: rest)) hci (by simp) hlow
      have hl3 : (bs x y z fun d => decide (d ∈ c :: rest) && !decide (d = c)) = bs x y z fun d => decide (d ∈ rest) := (bs_eq hS).2 fun d _ => by
        rw [Bool.eq_iff_iff]
        simp only [Bool.and_eq_true, decide_eq_true_eq, Bool.not_eq_true', decide_eq_false_iff_not, List.mem_cons]
        exact ⟨fun h => h.1.resolve_left h.2, fun h => ⟨.inr h, fun e => Cell.lt_irrefl _ (by have := hlt d h; rwa [e] at this)⟩⟩
      rw [hl3] at hl2
      have hne : ¬ bs x y z (fun d => decide (d ∈ c :: rest)) = 0#64 := fun e => by
        have := (bs_zero hS).1 e c hci
        simp at this
      have hsb : (done.map fun c => orN x y z n fun d => p d && !decide (d = c)).sum ≤ 9 * 40320 := by
        refine Nat.le_trans (sum_le (b := 40320) fun d hd => hfb d (by rw [hdt]; simp [hd])) (Nat.mul_le_mul_right _ ?_)
        rw [hdt, List.length_append] at hcl; omega
      have hcb := hfb c hcm
      have hpl := pick_less hS hci hpc
      have hdf := bs_diff hS p fun d => decide (d = c)
      generalize hst : (done.map fun c => orN x y z n fun d => p d && !decide (d = c)).sum = s0 at f8 hsb
      generalize bs x y z (fun d => decide (d ∈ c :: rest)) = B at *
      simp (disch := omega) only [f0, f1, f2, f3, f8, f9, hne, b3'.cell, hl1, hdf, ↓SXd, SXu, slBounds, ↓sop, ↓aop, ↓reduceIte, LV.cells, AOp.dst, LV.I, LV.B, LV.U, LV.S, LV.nil, Nat.reduceEqDiff, Nat.reduceAdd, Nat.reduceMul, Nat.reduceSub, Nat.reduceLeDiff, Nat.reduceBEq, Nat.reduceDiv, Nat.reduceMod, Int.reduceToNat, Int.reduceLT, Int.reduceLE, Int.reduceAdd, Int.reduceSub, Int.reduceMul, Int.reduceEq, Int.reduceNeg, reduceCtorEq, resV, resAll, ARes.ev, LV.flat, ite_true, ite_false, exists_eq_left', exists_eq_left, keyOf, implies_true, fillC, capOf]
      refine callR_of (ih (by omega) (by omega) b1' b2' b3' bm hL) ?_
      rintro _ N ⟨rfl, hb2, L', bm', hL'⟩
      simp (disch := omega) only [f0, f1, f2, f3, f8, f9, hl2, ↓SXd, SXu, slBounds, ↓sop, ↓aop, ↓reduceIte, LV.cells, AOp.dst, LV.I, LV.B, LV.U, LV.S, LV.nil, Nat.reduceEqDiff, Nat.reduceAdd, Nat.reduceMul, Nat.reduceSub, Nat.reduceLeDiff, Nat.reduceBEq, Nat.reduceDiv, Nat.reduceMod, Int.reduceToNat, Int.reduceLT, Int.reduceLE, Int.reduceAdd, Int.reduceSub, Int.reduceMul, Int.reduceEq, Int.reduceNeg, reduceCtorEq, resV, resAll, ARes.ev, LV.flat, ite_true, ite_false, exists_eq_left', exists_eq_left, keyOf, implies_true, fillC, capOf]
      refine ⟨rest.length, by rw [← htm]; simp, done ++ [c], rest, L', by rw [hdt]; simp, rfl, hbut.trans hb2, bm', hL', f0, f1, f2, f3, ?_, rfl⟩
      rw [List.map_append, List.sum_append, hst]
      exact eqI (by simp)

theorem g_StairOrders {x y z : Int} {t : Nat} {w : Bool} {cs : List Cell} {M : Mem} (h : Live M t (.row (triL cs) w 3)) (hn : cs.length ≤ 1000000000) :
    CallsTo PG F.impl_StairOrders [.agg [.I x, .I y, .I z, .ref t 0 cs.length]] M (.tup [.I (orsN x y z cs : Nat), .B (orsB x y z cs)]) M := by
  refine calls_run K.impl_StairOrders rfl ?_
  simp (disch := omega) only [C.impl_StairOrders, ↓SXd, SXu, slBounds, ↓sop, ↓aop, ↓reduceIte, LV.cells, AOp.dst, LV.I, LV.B, LV.U, LV.S, LV.nil, Nat.reduceEqDiff, Nat.reduceAdd, Nat.reduceMul, Nat.reduceSub, Nat.reduceLeDiff, Nat.reduceBEq, Nat.reduceDiv, Nat.reduceMod, Int.reduceToNat, Int.reduceLT, Int.reduceLE, Int.reduceAdd, Int.reduceSub, Int.reduceMul, Int.reduceEq, Int.reduceNeg, reduceCtorEq, resV, resAll, ARes.ev, LV.flat, ite_true, ite_false, exists_eq_left', exists_eq_left, keyOf, implies_true, fillC, capOf]
  refine callK_of (g_isStair (Has.app h.has) hn) ?_
  simp (disch := omega) only [↓SXd, SXu, slBounds, ↓sop, ↓aop, ↓reduceIte, LV.cells, AOp.dst, LV.I, LV.B, LV.U, LV.S, LV.nil, Nat.reduceEqDiff, Nat.reduceAdd, Nat.reduceMul, Nat.reduceSub, Nat.reduceLeDiff, Nat.reduceBEq, Nat.reduceDiv, Nat.reduceMod, Int.reduceToNat, Int.reduceLT, Int.reduceLE, Int.reduceAdd, Int.reduceSub, Int.reduceMul, Int.reduceEq, Int.reduceNeg, reduceCtorEq, resV, resAll, ARes.ev, LV.flat, ite_true, ite_false, exists_eq_left', exists_eq_left, keyOf, implies_true, fillC, capOf]
  unfold orsN orsB
  by_cases hV : HeapOK x y z cs ∧ StairP x y z (fun c => decide (c ∈ cs))
  rotate_left
  · rw [str_no hV, Bool.false_and, if_neg (by simp)]
    simp (disch := omega) only [hV, ↓SXd, SXu, slBounds, ↓sop, ↓aop, ↓reduceIte, LV.cells, AOp.dst, LV.I, LV.B, LV.U, LV.S, LV.nil, Nat.reduceEqDiff, Nat.reduceAdd, Nat.reduceMul, Nat.reduceSub, Nat.reduceLeDiff, Nat.reduceBEq, Nat.reduceDiv, Nat.reduceMod, Int.reduceToNat, Int.reduceLT, Int.reduceLE, Int.reduceAdd, Int.reduceSub, Int.reduceMul, Int.reduceEq, Int.reduceNeg, reduceCtorEq, resV, resAll, ARes.ev, LV.flat, ite_true, ite_false, exists_eq_left', exists_eq_left, keyOf, implies_true, fillC, capOf]
    exact cmp_drop rfl
  rw [str_yes hV, Bool.true_and]
  have hS := hV.1.1
  by_cases h8 : cs.length ≤ 9
  rotate_left
  · have h8' : (9 : Int) < (cs.length : Nat) := by omega
    rw [decide_eq_false h8, if_neg (by simp)]
    simp (disch := omega) only [hV, h8', ↓SXd, SXu, slBounds, ↓sop, ↓aop, ↓reduceIte, LV.cells, AOp.dst, LV.I, LV.B, LV.U, LV.S, LV.nil, Nat.reduceEqDiff, Nat.reduceAdd, Nat.reduceMul, Nat.reduceSub, Nat.reduceLeDiff, Nat.reduceBEq, Nat.reduceDiv, Nat.reduceMod, Int.reduceToNat, Int.reduceLT, Int.reduceLE, Int.reduceAdd, Int.reduceSub, Int.reduceMul, Int.reduceEq, Int.reduceNeg, reduceCtorEq, resV, resAll, ARes.ev, LV.flat, ite_true, ite_false, exists_eq_left', exists_eq_left, keyOf, implies_true, fillC, capOf]
    exact cmp_drop rfl
  have h8' : ¬ ((9 : Int) < (cs.length : Nat)) := by omega
  rw [decide_eq_true h8, if_pos rfl]
  simp (disch := omega) only [hV, h8', ↓SXd, SXu, slBounds, ↓sop, ↓aop, ↓reduceIte, LV.cells, AOp.dst, LV.I, LV.B, LV.U, LV.S, LV.nil, Nat.reduceEqDiff, Nat.reduceAdd, Nat.reduceMul, Nat.reduceSub, Nat.reduceLeDiff, Nat.reduceBEq, Nat.reduceDiv, Nat.reduceMod, Int.reduceToNat, Int.reduceLT, Int.reduceLE, Int.reduceAdd, Int.reduceSub, Int.reduceMul, Int.reduceEq, Int.reduceNeg, reduceCtorEq, resV, resAll, ARes.ev, LV.flat, ite_true, ite_false, exists_eq_left', exists_eq_left, keyOf, implies_true, fillC, capOf]
  refine memK_mem (b := 0#64) (L := []) (n := 1) (Live.newj (j := 1) rfl) fun N L k1 k2 k3 k4 k5 => ?_
  have hN : N.length = M.length + 2 := by rw [k1]; simp
  have hL : ∀ q ∈ L, q = (0#64, 1) := fun q hq => (k3 q hq).resolve_right (by simp)
  have b1 : Live N M.length (.row [.I x, .I y, .I z, .ref t 0 cs.length] true 0) := live_step Live.new (by omega) k5
  have hpN : ∀ u, u < M.length → N[u]? = M[u]? := fun u hu => by
    rw [k5 u (by omega) (by simp; omega), List.getElem?_append_left hu]
  have hL0 : ∃ q ∈ L, q.1 = 0#64 := k4 _ (.inl rfl)
  have hMT : MemoO x y z L := ⟨hL0, fun q hq p hp => by
    rw [hL q hq] at hp ⊢
    have hz := (bs_zero hS).1 hp.symm
    have : pick x y z p = [] := by
      unfold pick; rw [List.filter_eq_nil_iff]
      intro c hc; rw [hz c ((mem_cellsOf hS).1 hc)]; simp
    rw [this]; rfl⟩
  have ht := h.lt
  have hN0 : Live N t (.row (triL cs) w 3) := Live.at h (hpN t ht)
  simp (disch := omega) only [b1.app.cells, ↓SXd, SXu, slBounds, ↓sop, ↓aop, ↓reduceIte, LV.cells, AOp.dst, LV.I, LV.B, LV.U, LV.S, LV.nil, Nat.reduceEqDiff, Nat.reduceAdd, Nat.reduceMul, Nat.reduceSub, Nat.reduceLeDiff, Nat.reduceBEq, Nat.reduceDiv, Nat.reduceMod, Int.reduceToNat, Int.reduceLT, Int.reduceLE, Int.reduceAdd, Int.reduceSub, Int.reduceMul, Int.reduceEq, Int.reduceNeg, reduceCtorEq, resV, resAll, ARes.ev, LV.flat, ite_true, ite_false, exists_eq_left', exists_eq_left, keyOf, implies_true, fillC, capOf]
  refine callK_of (g_cubes (Has.app hN0.has) hn hS (fun c hc => hV.1.mem hc)) ?_
  simp (disch := omega) only [↓SXd, SXu, slBounds, ↓sop, ↓aop, ↓reduceIte, LV.cells, AOp.dst, LV.I, LV.B, LV.U, LV.S, LV.nil, Nat.reduceEqDiff, Nat.reduceAdd, Nat.reduceMul, Nat.reduceSub, Nat.reduceLeDiff, Nat.reduceBEq, Nat.reduceDiv, Nat.reduceMod, Int.reduceToNat, Int.reduceLT, Int.reduceLE, Int.reduceAdd, Int.reduceSub, Int.reduceMul, Int.reduceEq, Int.reduceNeg, reduceCtorEq, resV, resAll, ARes.ev, LV.flat, ite_true, ite_false, exists_eq_left', exists_eq_left, keyOf, implies_true, fillC, capOf]
  refine callR_of (g_StairOrders_1 hS (a1 := N.length) (a2 := M.length) (a3 := N.length + 1) (tm := M.length + 1) (by omega) cs.length (by rw [← hV.1.pick]) h8 Live.new b1.app (Live.newj (j := 1) rfl) (Live.app k2) hMT) ?_
  rintro _ W ⟨rfl, hb, _⟩
  simp (disch := omega) only [↓SXd, SXu, slBounds, ↓sop, ↓aop, ↓reduceIte, LV.cells, AOp.dst, LV.I, LV.B, LV.U, LV.S, LV.nil, Nat.reduceEqDiff, Nat.reduceAdd, Nat.reduceMul, Nat.reduceSub, Nat.reduceLeDiff, Nat.reduceBEq, Nat.reduceDiv, Nat.reduceMod, Int.reduceToNat, Int.reduceLT, Int.reduceLE, Int.reduceAdd, Int.reduceSub, Int.reduceMul, Int.reduceEq, Int.reduceNeg, reduceCtorEq, resV, resAll, ARes.ev, LV.flat, ite_true, ite_false, exists_eq_left', exists_eq_left, keyOf, implies_true, fillC, capOf]
  refine cmp_pre ⟨?_, fun u hu => ?_⟩ rfl
  · have := hb.1; simp at this; omega
  · rw [hb.2 u (by omega) (by simp; omega), List.getElem?_append_left (by omega)]
    exact hpN u hu

/-! ### Lines -/
noncomputable def linV (x y z : Int) (cs : List Cell) : Nat := if strB x y z cs = true then linesN ⟨x, y, z, cs⟩ else 0
theorem countP_rg {f : Nat → Bool} {k : Nat} : (List.range (k + 1)).countP f = (List.range k).countP f + if f k then 1 else 0 := by
  rw [List.range_succ, List.countP_append, List.countP_singleton]
theorem countP_le6 {f : Nat → Bool} {k : Nat} : (List.range k).countP f ≤ k := by
  have := List.countP_le_length (p := f) (l := List.range k)
  simpa using this
theorem g_StairLines {x y z : Int} {t : Nat} {w : Bool} {cs : List Cell} {M : Mem} (h : Live M t (.row (triL cs) w 3)) (hn : cs.length ≤ 1000000000) :
    CallsTo PG F.impl_StairLines [.agg [.I x, .I y, .I z, .ref t 0 cs.length]] M (.tup [.I (linV x y z cs : Nat), .B (strB x y z cs)]) M := by
  refine calls_run K.impl_StairLines rfl ?_
  simp (disch := omega) only [C.impl_StairLines, ↓SXd, SXu, slBounds, ↓sop, ↓aop, ↓reduceIte, LV.cells, AOp.dst, LV.I, LV.B, LV.U, LV.S, LV.nil, Nat.reduceEqDiff, Nat.reduceAdd, Nat.reduceMul, Nat.reduceSub, Nat.reduceLeDiff, Nat.reduceBEq, Nat.reduceDiv, Nat.reduceMod, Int.reduceToNat, Int.reduceLT, Int.reduceLE, Int.reduceAdd, Int.reduceSub, Int.reduceMul, Int.reduceEq, Int.reduceNeg, reduceCtorEq, resV, resAll, ARes.ev, LV.flat, ite_true, ite_false, exists_eq_left', exists_eq_left, keyOf, implies_true, fillC, capOf]
  refine callK_of (g_isStair h.app.has hn) ?_
  simp (disch := omega) only [↓SXd, SXu, slBounds, ↓sop, ↓aop, ↓reduceIte, LV.cells, AOp.dst, LV.I, LV.B, LV.U, LV.S, LV.nil, Nat.reduceEqDiff, Nat.reduceAdd, Nat.reduceMul, Nat.reduceSub, Nat.reduceLeDiff, Nat.reduceBEq, Nat.reduceDiv, Nat.reduceMod, Int.reduceToNat, Int.reduceLT, Int.reduceLE, Int.reduceAdd, Int.reduceSub, Int.reduceMul, Int.reduceEq, Int.reduceNeg, reduceCtorEq, resV, resAll, ARes.ev, LV.flat, ite_true, ite_false, exists_eq_left', exists_eq_left, keyOf, implies_true, fillC, capOf]
  unfold linV
  by_cases hV : HeapOK x y z cs ∧ StairP x y z (fun c => decide (c ∈ cs))
  rotate_left
  · rw [str_no hV, if_neg (by simp)]
    simp (disch := omega) only [↓SXd, SXu, slBounds, ↓sop, ↓aop, ↓reduceIte, LV.cells, AOp.dst, LV.I, LV.B, LV.U, LV.S, LV.nil, Nat.reduceEqDiff, Nat.reduceAdd, Nat.reduceMul, Nat.reduceSub, Nat.reduceLeDiff, Nat.reduceBEq, Nat.reduceDiv, Nat.reduceMod, Int.reduceToNat, Int.reduceLT, Int.reduceLE, Int.reduceAdd, Int.reduceSub, Int.reduceMul, Int.reduceEq, Int.reduceNeg, reduceCtorEq, resV, resAll, ARes.ev, LV.flat, ite_true, ite_false, exists_eq_left', exists_eq_left, keyOf, implies_true, fillC, capOf]
    exact cmp_drop rfl
  rw [str_yes hV, if_pos rfl]
  have hlen := hV.1.len
  simp (disch := omega) only [↓SXd, SXu, slBounds, ↓sop, ↓aop, ↓reduceIte, LV.cells, AOp.dst, LV.I, LV.B, LV.U, LV.S, LV.nil, Nat.reduceEqDiff, Nat.reduceAdd, Nat.reduceMul, Nat.reduceSub, Nat.reduceLeDiff, Nat.reduceBEq, Nat.reduceDiv, Nat.reduceMod, Int.reduceToNat, Int.reduceLT, Int.reduceLE, Int.reduceAdd, Int.reduceSub, Int.reduceMul, Int.reduceEq, Int.reduceNeg, reduceCtorEq, resV, resAll, ARes.ev, LV.flat, ite_true, ite_false, exists_eq_left', exists_eq_left, keyOf, implies_true, fillC, capOf]
  refine callK_of (g_orders) ?_
  simp (disch := omega) only [↓SXd, SXu, slBounds, ↓sop, ↓aop, ↓reduceIte, LV.cells, AOp.dst, LV.I, LV.B, LV.U, LV.S, LV.nil, Nat.reduceEqDiff, Nat.reduceAdd, Nat.reduceMul, Nat.reduceSub, Nat.reduceLeDiff, Nat.reduceBEq, Nat.reduceDiv, Nat.reduceMod, Int.reduceToNat, Int.reduceLT, Int.reduceLE, Int.reduceAdd, Int.reduceSub, Int.reduceMul, Int.reduceEq, Int.reduceNeg, reduceCtorEq, resV, resAll, ARes.ev, LV.flat, ite_true, ite_false, exists_eq_left', exists_eq_left, keyOf, implies_true, fillC, capOf]
  refine ev_loop (fun m fr M' => ∃ i : Nat, i + m = 6 ∧ Pre M M' ∧ Live M' M.length (.row [.I x, .I y, .I z, .ref t 0 cs.length] true 0) ∧ Live M' (M.length + 1) (.row (triL ordersL) true 3) ∧
    fr 1 = .ptr M.length 0 ∧ fr 4 = .I ((List.range i).countP fun j => fixB ⟨x, y, z, cs⟩ j : Nat) ∧ fr 10 = .ref (M.length + 1) 0 6 ∧ fr 11 = .I 6 ∧ fr 12 = .I i) 6
    ⟨0, rfl, Pre.app _ _, Live.new, Live.newj rfl, rfl, rfl, rfl, rfl, rfl⟩ ?_
  rintro m fr M' ⟨i, hi, hpre, b1, bo, f1, f4, f10, f11, f12⟩
  simp (disch := omega) only [f1, f4, f10, f11, f12, ↓SXd, SXu, slBounds, ↓sop, ↓aop, ↓reduceIte, LV.cells, AOp.dst, LV.I, LV.B, LV.U, LV.S, LV.nil, Nat.reduceEqDiff, Nat.reduceAdd, Nat.reduceMul, Nat.reduceSub, Nat.reduceLeDiff, Nat.reduceBEq, Nat.reduceDiv, Nat.reduceMod, Int.reduceToNat, Int.reduceLT, Int.reduceLE, Int.reduceAdd, Int.reduceSub, Int.reduceMul, Int.reduceEq, Int.reduceNeg, reduceCtorEq, resV, resAll, ARes.ev, LV.flat, ite_true, ite_false, exists_eq_left', exists_eq_left, keyOf, implies_true, fillC, capOf]
  refine condC_dec (fun hlt => ?_) (fun hlt => ?_)
  · have hi6 : i < 6 := by omega
    have hg := bo.tri0 (k := i) hi6
    rw [show ordersL.getD i default = ordAt i from rfl] at hg
    have hle := countP_le6 (f := fun j => fixB ⟨x, y, z, cs⟩ j) (k := i)
    have hcp := countP_rg (f := fun j => fixB ⟨x, y, z, cs⟩ j) (k := i)
    simp (disch := omega) only [f1, f4, f10, f11, f12, hg, Cell.row, splice, b1.app.cells, ↓SXd, SXu, slBounds, ↓sop, ↓aop, ↓reduceIte, LV.cells, AOp.dst, LV.I, LV.B, LV.U, LV.S, LV.nil, Nat.reduceEqDiff, Nat.reduceAdd, Nat.reduceMul, Nat.reduceSub, Nat.reduceLeDiff, Nat.reduceBEq, Nat.reduceDiv, Nat.reduceMod, Int.reduceToNat, Int.reduceLT, Int.reduceLE, Int.reduceAdd, Int.reduceSub, Int.reduceMul, Int.reduceEq, Int.reduceNeg, reduceCtorEq, resV, resAll, ARes.ev, LV.flat, ite_true, ite_false, exists_eq_left', exists_eq_left, keyOf, implies_true, fillC, capOf]
    refine callR_of (g_turned (i := i) ((h.pre hpre).app.has) hV.1 hi6) ?_
    rintro _ N2 ⟨⟨u, rfl, hu, hul⟩, hp2⟩
    have hp3 : Pre M N2 := (hpre.trans (Pre.app _ _)).trans hp2
    simp (disch := omega) only [f1, f4, f10, f11, f12, (keepL_pr hp2), ↓SXd, SXu, slBounds, ↓sop, ↓aop, ↓reduceIte, LV.cells, AOp.dst, LV.I, LV.B, LV.U, LV.S, LV.nil, Nat.reduceEqDiff, Nat.reduceAdd, Nat.reduceMul, Nat.reduceSub, Nat.reduceLeDiff, Nat.reduceBEq, Nat.reduceDiv, Nat.reduceMod, Int.reduceToNat, Int.reduceLT, Int.reduceLE, Int.reduceAdd, Int.reduceSub, Int.reduceMul, Int.reduceEq, Int.reduceNeg, reduceCtorEq, resV, resAll, ARes.ev, LV.flat, ite_true, ite_false, exists_eq_left', exists_eq_left, keyOf, implies_true, fillC, capOf]
    refine callK_of (g_same (g := ⟨x, y, z, cs⟩) (h := exHp (ordAt i) ⟨x, y, z, cs⟩) (h.pre hp3).has hu.has (by show cs.length ≤ 1000000; omega) (by rw [exHp_len hi6 hV.1]; show cs.length ≤ 1000000; omega)) ?_
    rw [show decide ((⟨x, y, z, cs⟩ : Hp).dims = (exHp (ordAt i) ⟨x, y, z, cs⟩).dims ∧ (⟨x, y, z, cs⟩ : Hp).cs = (exHp (ordAt i) ⟨x, y, z, cs⟩).cs) = fixB ⟨x, y, z, cs⟩ i from rfl]
    cases hf : fixB ⟨x, y, z, cs⟩ i with
    | true =>
      rw [hf, if_pos rfl] at hcp
      simp (disch := omega) only [f1, f4, f10, f11, f12, ↓SXd, SXu, slBounds, ↓sop, ↓aop, ↓reduceIte, LV.cells, AOp.dst, LV.I, LV.B, LV.U, LV.S, LV.nil, Nat.reduceEqDiff, Nat.reduceAdd, Nat.reduceMul, Nat.reduceSub, Nat.reduceLeDiff, Nat.reduceBEq, Nat.reduceDiv, Nat.reduceMod, Int.reduceToNat, Int.reduceLT, Int.reduceLE, Int.reduceAdd, Int.reduceSub, Int.reduceMul, Int.reduceEq, Int.reduceNeg, reduceCtorEq, resV, resAll, ARes.ev, LV.flat, ite_true, ite_false, exists_eq_left', exists_eq_left, keyOf, implies_true, fillC, capOf]
      refine ⟨m - 1, by omega, i + 1, by omega, hp3, b1.pre ((Pre.app _ _).trans hp2), bo.pre ((Pre.app _ _).trans hp2), f1, ?_, f10, f11, eqI (natI _)⟩
      rw [hcp]; exact eqI (natI _)
    | false =>
      rw [hf, if_neg (by simp), Nat.add_zero] at hcp
      simp (disch := omega) only [f1, f4, f10, f11, f12, ↓SXd, SXu, slBounds, ↓sop, ↓aop, ↓reduceIte, LV.cells, AOp.dst, LV.I, LV.B, LV.U, LV.S, LV.nil, Nat.reduceEqDiff, Nat.reduceAdd, Nat.reduceMul, Nat.reduceSub, Nat.reduceLeDiff, Nat.reduceBEq, Nat.reduceDiv, Nat.reduceMod, Int.reduceToNat, Int.reduceLT, Int.reduceLE, Int.reduceAdd, Int.reduceSub, Int.reduceMul, Int.reduceEq, Int.reduceNeg, reduceCtorEq, resV, resAll, ARes.ev, LV.flat, ite_true, ite_false, exists_eq_left', exists_eq_left, keyOf, implies_true, fillC, capOf]
      refine ⟨m - 1, by omega, i + 1, by omega, hp3, b1.pre ((Pre.app _ _).trans hp2), bo.pre ((Pre.app _ _).trans hp2), f1, ?_, f10, f11, eqI (natI _)⟩
      rw [hcp]; exact f4
  · have : i = 6 := by omega
    subst this
    rw [show linesN ⟨x, y, z, cs⟩ = (List.range 6).countP fun j => fixB ⟨x, y, z, cs⟩ j from rfl]
    simp (disch := omega) only [f1, f4, f10, f11, f12, ↓SXd, SXu, slBounds, ↓sop, ↓aop, ↓reduceIte, LV.cells, AOp.dst, LV.I, LV.B, LV.U, LV.S, LV.nil, Nat.reduceEqDiff, Nat.reduceAdd, Nat.reduceMul, Nat.reduceSub, Nat.reduceLeDiff, Nat.reduceBEq, Nat.reduceDiv, Nat.reduceMod, Int.reduceToNat, Int.reduceLT, Int.reduceLE, Int.reduceAdd, Int.reduceSub, Int.reduceMul, Int.reduceEq, Int.reduceNeg, reduceCtorEq, resV, resAll, ARes.ev, LV.flat, ite_true, ite_false, exists_eq_left', exists_eq_left, keyOf, implies_true, fillC, capOf]
    exact cmp_pre hpre rfl
theorem g_TurnStair {x y z : Int} {t : Nat} {w : Bool} {cs : List Cell} {M : Mem} (h : Live M t (.row (triL cs) w 3)) (hV : HeapOK x y z cs ∧ StairP x y z fun c => decide (c ∈ cs)) :
    CallsR PG F.impl_TurnStair [.agg [.I x, .I y, .I z, .ref t 0 cs.length]] M fun v N => HeapT M (exHp (ordAt 4) ⟨x, y, z, cs⟩) v N ∧ Pre M N := by
  have hlen := hV.1.len
  refine callsR_run K.impl_TurnStair rfl ?_
  simp (disch := omega) only [C.impl_TurnStair, ↓SXd, SXu, slBounds, ↓sop, ↓aop, ↓reduceIte, LV.cells, AOp.dst, LV.I, LV.B, LV.U, LV.S, LV.nil, Nat.reduceEqDiff, Nat.reduceAdd, Nat.reduceMul, Nat.reduceSub, Nat.reduceLeDiff, Nat.reduceBEq, Nat.reduceDiv, Nat.reduceMod, Int.reduceToNat, Int.reduceLT, Int.reduceLE, Int.reduceAdd, Int.reduceSub, Int.reduceMul, Int.reduceEq, Int.reduceNeg, reduceCtorEq, resV, resAll, ARes.ev, LV.flat, ite_true, ite_false, exists_eq_left', exists_eq_left, keyOf, implies_true, fillC, capOf]
  refine callK_of (g_isStair h.app.has (by omega)) ?_
  simp (disch := omega) only [↓SXd, SXu, slBounds, ↓sop, ↓aop, ↓reduceIte, LV.cells, AOp.dst, LV.I, LV.B, LV.U, LV.S, LV.nil, Nat.reduceEqDiff, Nat.reduceAdd, Nat.reduceMul, Nat.reduceSub, Nat.reduceLeDiff, Nat.reduceBEq, Nat.reduceDiv, Nat.reduceMod, Int.reduceToNat, Int.reduceLT, Int.reduceLE, Int.reduceAdd, Int.reduceSub, Int.reduceMul, Int.reduceEq, Int.reduceNeg, reduceCtorEq, resV, resAll, ARes.ev, LV.flat, ite_true, ite_false, exists_eq_left', exists_eq_left, keyOf, implies_true, fillC, capOf]
  rw [str_yes hV]
  simp (disch := omega) only [splice, ↓SXd, SXu, slBounds, ↓sop, ↓aop, ↓reduceIte, LV.cells, AOp.dst, LV.I, LV.B, LV.U, LV.S, LV.nil, Nat.reduceEqDiff, Nat.reduceAdd, Nat.reduceMul, Nat.reduceSub, Nat.reduceLeDiff, Nat.reduceBEq, Nat.reduceDiv, Nat.reduceMod, Int.reduceToNat, Int.reduceLT, Int.reduceLE, Int.reduceAdd, Int.reduceSub, Int.reduceMul, Int.reduceEq, Int.reduceNeg, reduceCtorEq, resV, resAll, ARes.ev, LV.flat, ite_true, ite_false, exists_eq_left', exists_eq_left, keyOf, implies_true, fillC, capOf]
  refine callR_of (g_turned (i := 4) h.app.has hV.1 (by omega)) ?_
  rintro _ N ⟨⟨u, rfl, hu, hul⟩, hp⟩
  have c2 : Live N (M.length + 1) (.row [.I 0, .I 0, .I 0, .nil] true 0) := (Live.newj (j := 1) rfl).pre hp
  simp only [List.length_append, List.length_cons, List.length_nil] at hul
  have hpM : Pre M N := (Pre.app _ _).trans hp
  simp (disch := omega) only [↓SXd, SXu, slBounds, ↓sop, ↓aop, ↓reduceIte, LV.cells, AOp.dst, LV.I, LV.B, LV.U, LV.S, LV.nil, Nat.reduceEqDiff, Nat.reduceAdd, Nat.reduceMul, Nat.reduceSub, Nat.reduceLeDiff, Nat.reduceBEq, Nat.reduceDiv, Nat.reduceMod, Int.reduceToNat, Int.reduceLT, Int.reduceLE, Int.reduceAdd, Int.reduceSub, Int.reduceMul, Int.reduceEq, Int.reduceNeg, reduceCtorEq, resV, resAll, ARes.ev, LV.flat, ite_true, ite_false, exists_eq_left', exists_eq_left, keyOf, implies_true, fillC, capOf]
  refine memK_box c2 (by simp) fun N3 k1 k2 k3 => ?_
  simp (disch := omega) only [k2.cells, ↓SXd, SXu, slBounds, ↓sop, ↓aop, ↓reduceIte, LV.cells, AOp.dst, LV.I, LV.B, LV.U, LV.S, LV.nil, Nat.reduceEqDiff, Nat.reduceAdd, Nat.reduceMul, Nat.reduceSub, Nat.reduceLeDiff, Nat.reduceBEq, Nat.reduceDiv, Nat.reduceMod, Int.reduceToNat, Int.reduceLT, Int.reduceLE, Int.reduceAdd, Int.reduceSub, Int.reduceMul, Int.reduceEq, Int.reduceNeg, reduceCtorEq, resV, resAll, ARes.ev, LV.flat, ite_true, ite_false, exists_eq_left', exists_eq_left, keyOf, implies_true, fillC, capOf]
  exact ⟨⟨u, rfl, live_step hu (by omega) k3, by omega⟩, pre_step hpM (by omega) (j := 0) k1 k3⟩
theorem g_StairCorners {x y z : Int} {t : Nat} {w : Bool} {cs : List Cell} {M : Mem} (h : Live M t (.row (triL cs) w 3)) (hV : HeapOK x y z cs ∧ StairP x y z fun c => decide (c ∈ cs)) :
    CallsR PG F.impl_StairCorners [.agg [.I x, .I y, .I z, .ref t 0 cs.length]] M fun v N => ∃ u, v = .tup [.ref u 0 (cornL x y z cs).length, .B true] ∧ Live N u (.row (triL (cornL x y z cs)) true 3) ∧ Pre M N := by
  have hlen := hV.1.len
  have hS := hV.1.1
  refine callsR_run K.impl_StairCorners rfl ?_
  simp (disch := omega) only [C.impl_StairCorners, ↓SXd, SXu, slBounds, ↓sop, ↓aop, ↓reduceIte, LV.cells, AOp.dst, LV.I, LV.B, LV.U, LV.S, LV.nil, Nat.reduceEqDiff, Nat.reduceAdd, Nat.reduceMul, Nat.reduceSub, Nat.reduceLeDiff, Nat.reduceBEq, Nat.reduceDiv, Nat.reduceMod, Int.reduceToNat, Int.reduceLT, Int.reduceLE, Int.reduceAdd, Int.reduceSub, Int.reduceMul, Int.reduceEq, Int.reduceNeg, reduceCtorEq, resV, resAll, ARes.ev, LV.flat, ite_true, ite_false, exists_eq_left', exists_eq_left, keyOf, implies_true, fillC, capOf]
  refine callK_of (g_isStair h.app.has (by omega)) ?_
  simp (disch := omega) only [↓SXd, SXu, slBounds, ↓sop, ↓aop, ↓reduceIte, LV.cells, AOp.dst, LV.I, LV.B, LV.U, LV.S, LV.nil, Nat.reduceEqDiff, Nat.reduceAdd, Nat.reduceMul, Nat.reduceSub, Nat.reduceLeDiff, Nat.reduceBEq, Nat.reduceDiv, Nat.reduceMod, Int.reduceToNat, Int.reduceLT, Int.reduceLE, Int.reduceAdd, Int.reduceSub, Int.reduceMul, Int.reduceEq, Int.reduceNeg, reduceCtorEq, resV, resAll, ARes.ev, LV.flat, ite_true, ite_false, exists_eq_left', exists_eq_left, keyOf, implies_true, fillC, capOf]
  rw [str_yes hV, corn_pick hV.1]
  simp (disch := omega) only [↓SXd, SXu, slBounds, ↓sop, ↓aop, ↓reduceIte, LV.cells, AOp.dst, LV.I, LV.B, LV.U, LV.S, LV.nil, Nat.reduceEqDiff, Nat.reduceAdd, Nat.reduceMul, Nat.reduceSub, Nat.reduceLeDiff, Nat.reduceBEq, Nat.reduceDiv, Nat.reduceMod, Int.reduceToNat, Int.reduceLT, Int.reduceLE, Int.reduceAdd, Int.reduceSub, Int.reduceMul, Int.reduceEq, Int.reduceNeg, reduceCtorEq, resV, resAll, ARes.ev, LV.flat, ite_true, ite_false, exists_eq_left', exists_eq_left, keyOf, implies_true, fillC, capOf]
  refine callK_of (g_box) ?_
  simp (disch := omega) only [↓SXd, SXu, slBounds, ↓sop, ↓aop, ↓reduceIte, LV.cells, AOp.dst, LV.I, LV.B, LV.U, LV.S, LV.nil, Nat.reduceEqDiff, Nat.reduceAdd, Nat.reduceMul, Nat.reduceSub, Nat.reduceLeDiff, Nat.reduceBEq, Nat.reduceDiv, Nat.reduceMod, Int.reduceToNat, Int.reduceLT, Int.reduceLE, Int.reduceAdd, Int.reduceSub, Int.reduceMul, Int.reduceEq, Int.reduceNeg, reduceCtorEq, resV, resAll, ARes.ev, LV.flat, ite_true, ite_false, exists_eq_left', exists_eq_left, keyOf, implies_true, fillC, capOf]
  refine callK_of (g_box) ?_
  simp (disch := omega) only [↓SXd, SXu, slBounds, ↓sop, ↓aop, ↓reduceIte, LV.cells, AOp.dst, LV.I, LV.B, LV.U, LV.S, LV.nil, Nat.reduceEqDiff, Nat.reduceAdd, Nat.reduceMul, Nat.reduceSub, Nat.reduceLeDiff, Nat.reduceBEq, Nat.reduceDiv, Nat.reduceMod, Int.reduceToNat, Int.reduceLT, Int.reduceLE, Int.reduceAdd, Int.reduceSub, Int.reduceMul, Int.reduceEq, Int.reduceNeg, reduceCtorEq, resV, resAll, ARes.ev, LV.flat, ite_true, ite_false, exists_eq_left', exists_eq_left, keyOf, implies_true, fillC, capOf]
  refine callK_of (g_cubes (Has.app h.has) (by omega) hS (fun c hc => hV.1.mem hc)) ?_
  simp (disch := omega) only [↓SXd, SXu, slBounds, ↓sop, ↓aop, ↓reduceIte, LV.cells, AOp.dst, LV.I, LV.B, LV.U, LV.S, LV.nil, Nat.reduceEqDiff, Nat.reduceAdd, Nat.reduceMul, Nat.reduceSub, Nat.reduceLeDiff, Nat.reduceBEq, Nat.reduceDiv, Nat.reduceMod, Int.reduceToNat, Int.reduceLT, Int.reduceLE, Int.reduceAdd, Int.reduceSub, Int.reduceMul, Int.reduceEq, Int.reduceNeg, reduceCtorEq, resV, resAll, ARes.ev, LV.flat, ite_true, ite_false, exists_eq_left', exists_eq_left, keyOf, implies_true, fillC, capOf]
  refine callK_of (g_stairCorners hS) ?_
  simp (disch := omega) only [↓SXd, SXu, slBounds, ↓sop, ↓aop, ↓reduceIte, LV.cells, AOp.dst, LV.I, LV.B, LV.U, LV.S, LV.nil, Nat.reduceEqDiff, Nat.reduceAdd, Nat.reduceMul, Nat.reduceSub, Nat.reduceLeDiff, Nat.reduceBEq, Nat.reduceDiv, Nat.reduceMod, Int.reduceToNat, Int.reduceLT, Int.reduceLE, Int.reduceAdd, Int.reduceSub, Int.reduceMul, Int.reduceEq, Int.reduceNeg, reduceCtorEq, resV, resAll, ARes.ev, LV.flat, ite_true, ite_false, exists_eq_left', exists_eq_left, keyOf, implies_true, fillC, capOf]
  refine callK_of (g_list hS) ?_
  simp (disch := omega) only [↓SXd, SXu, slBounds, ↓sop, ↓aop, ↓reduceIte, LV.cells, AOp.dst, LV.I, LV.B, LV.U, LV.S, LV.nil, Nat.reduceEqDiff, Nat.reduceAdd, Nat.reduceMul, Nat.reduceSub, Nat.reduceLeDiff, Nat.reduceBEq, Nat.reduceDiv, Nat.reduceMod, Int.reduceToNat, Int.reduceLT, Int.reduceLE, Int.reduceAdd, Int.reduceSub, Int.reduceMul, Int.reduceEq, Int.reduceNeg, reduceCtorEq, resV, resAll, ARes.ev, LV.flat, ite_true, ite_false, exists_eq_left', exists_eq_left, keyOf, implies_true, fillC, capOf]
  exact ⟨_, rfl, Live.newj (j := 1) rfl, Pre.app _ _⟩
end Go.Ab

/- Contracts: exchanged heaps, lines, hollows, least staircases of the reference. -/
namespace Go.Ab
open Go
set_option linter.unusedSimpArgs false
set_option linter.unusedVariables false
set_option maxRecDepth 20000

theorem sideOf_at {x y z s : Int} (hs : Dir s) : sideOf x y z s = (⟨x, y, z⟩ : Cell).at s := by
  rcases hs with rfl | rfl | rfl <;> rfl
theorem h_l5Exchanged {x y z : Int} {t i : Nat} {w : Bool} {cs : List Cell} {M : Mem} (h : Live M t (.row (triL cs) w 3)) (hH : HeapOK x y z cs) (hi : i < 6) :
    CallsR PG F.spec_l5Exchanged [.agg [.I x, .I y, .I z, .ref t 0 cs.length], .agg [.I (ordAt i).a, .I (ordAt i).b, .I (ordAt i).c]] M fun v N => HeapV M (exHp (ordAt i) ⟨x, y, z, cs⟩).x (exHp (ordAt i) ⟨x, y, z, cs⟩).y (exHp (ordAt i) ⟨x, y, z, cs⟩).z (exHp (ordAt i) ⟨x, y, z, cs⟩).cs v N ∧ Pre M N := by
  have hlen := hH.len
  have hS := hH.1
  have ho := ord_dir hi
  have hSS := ord_sides hi hS
  have hin : ∀ c ∈ cs, (permC (ordAt i) c).inBox (permC (ordAt i) ⟨x, y, z⟩).a (permC (ordAt i) ⟨x, y, z⟩).b (permC (ordAt i) ⟨x, y, z⟩).c := fun c hc => ord_box hi (hH.mem hc)
  show CallsR PG F.spec_l5Exchanged _ M fun v N => HeapV M (permC (ordAt i) ⟨x, y, z⟩).a (permC (ordAt i) ⟨x, y, z⟩).b (permC (ordAt i) ⟨x, y, z⟩).c (pick (permC (ordAt i) ⟨x, y, z⟩).a (permC (ordAt i) ⟨x, y, z⟩).b (permC (ordAt i) ⟨x, y, z⟩).c fun d => decide (d ∈ cs.map (permC (ordAt i)))) v N ∧ Pre M N
  generalize ordAt i = o at ho hSS hin ⊢
  obtain ⟨s1, s2, s3⟩ := ho
  have p1 : sideOf x y z o.a = (permC o ⟨x, y, z⟩).a := sideOf_at s1
  have p2 : sideOf x y z o.b = (permC o ⟨x, y, z⟩).b := sideOf_at s2
  have p3 : sideOf x y z o.c = (permC o ⟨x, y, z⟩).c := sideOf_at s3
  generalize permC o ⟨x, y, z⟩ = S at hSS hin p1 p2 p3 ⊢
  refine callsR_run K.spec_l5Exchanged rfl ?_
  simp (disch := omega) only [C.spec_l5Exchanged, ↓SXd, SXu, slBounds, ↓sop, ↓aop, ↓reduceIte, LV.cells, AOp.dst, LV.I, LV.B, LV.U, LV.S, LV.nil, Nat.reduceEqDiff, Nat.reduceAdd, Nat.reduceMul, Nat.reduceSub, Nat.reduceLeDiff, Nat.reduceBEq, Nat.reduceDiv, Nat.reduceMod, Int.reduceToNat, Int.reduceLT, Int.reduceLE, Int.reduceAdd, Int.reduceSub, Int.reduceMul, Int.reduceEq, Int.reduceNeg, reduceCtorEq, resV, resAll, ARes.ev, LV.flat, ite_true, ite_false, exists_eq_left', exists_eq_left, keyOf, implies_true, fillC, capOf]
  refine callK_of (h_l2Long s1) ?_
  simp (disch := omega) only [↓SXd, SXu, slBounds, ↓sop, ↓aop, ↓reduceIte, LV.cells, AOp.dst, LV.I, LV.B, LV.U, LV.S, LV.nil, Nat.reduceEqDiff, Nat.reduceAdd, Nat.reduceMul, Nat.reduceSub, Nat.reduceLeDiff, Nat.reduceBEq, Nat.reduceDiv, Nat.reduceMod, Int.reduceToNat, Int.reduceLT, Int.reduceLE, Int.reduceAdd, Int.reduceSub, Int.reduceMul, Int.reduceEq, Int.reduceNeg, reduceCtorEq, resV, resAll, ARes.ev, LV.flat, ite_true, ite_false, exists_eq_left', exists_eq_left, keyOf, implies_true, fillC, capOf]
  refine callK_of (h_l2Long s2) ?_
  simp (disch := omega) only [↓SXd, SXu, slBounds, ↓sop, ↓aop, ↓reduceIte, LV.cells, AOp.dst, LV.I, LV.B, LV.U, LV.S, LV.nil, Nat.reduceEqDiff, Nat.reduceAdd, Nat.reduceMul, Nat.reduceSub, Nat.reduceLeDiff, Nat.reduceBEq, Nat.reduceDiv, Nat.reduceMod, Int.reduceToNat, Int.reduceLT, Int.reduceLE, Int.reduceAdd, Int.reduceSub, Int.reduceMul, Int.reduceEq, Int.reduceNeg, reduceCtorEq, resV, resAll, ARes.ev, LV.flat, ite_true, ite_false, exists_eq_left', exists_eq_left, keyOf, implies_true, fillC, capOf]
  refine callK_of (h_l2Long s3) ?_
  simp (disch := omega) only [↓SXd, SXu, slBounds, ↓sop, ↓aop, ↓reduceIte, LV.cells, AOp.dst, LV.I, LV.B, LV.U, LV.S, LV.nil, Nat.reduceEqDiff, Nat.reduceAdd, Nat.reduceMul, Nat.reduceSub, Nat.reduceLeDiff, Nat.reduceBEq, Nat.reduceDiv, Nat.reduceMod, Int.reduceToNat, Int.reduceLT, Int.reduceLE, Int.reduceAdd, Int.reduceSub, Int.reduceMul, Int.reduceEq, Int.reduceNeg, reduceCtorEq, resV, resAll, ARes.ev, LV.flat, ite_true, ite_false, exists_eq_left', exists_eq_left, keyOf, implies_true, fillC, capOf]
  rw [p1, p2, p3]
  refine callK_of (h_l2Empty) ?_
  simp (disch := omega) only [splice, ↓SXd, SXu, slBounds, ↓sop, ↓aop, ↓reduceIte, LV.cells, AOp.dst, LV.I, LV.B, LV.U, LV.S, LV.nil, Nat.reduceEqDiff, Nat.reduceAdd, Nat.reduceMul, Nat.reduceSub, Nat.reduceLeDiff, Nat.reduceBEq, Nat.reduceDiv, Nat.reduceMod, Int.reduceToNat, Int.reduceLT, Int.reduceLE, Int.reduceAdd, Int.reduceSub, Int.reduceMul, Int.reduceEq, Int.reduceNeg, reduceCtorEq, resV, resAll, ARes.ev, LV.flat, ite_true, ite_false, exists_eq_left', exists_eq_left, keyOf, implies_true, fillC, capOf]
  have h1 := dir_lt s1
  have h2 := dir_lt s2
  have h3 := dir_lt s3
  have hLl : (cs.map (permC o)).length = cs.length := List.length_map ..
  have hLg : ∀ i, i < cs.length → (cs.map (permC o)).getD i default = permC o (cs.getD i default) := fun i hi => by simp [hi]
  generalize cs.map (permC o) = L at hLl hLg ⊢
  have e0 : (pick S.a S.b S.c fun d => decide (d ∈ L.take 0)) = [] := by unfold pick; rw [List.filter_eq_nil_iff]; simp
  refine ev_loop (fun m fr M' => ∃ i u : Nat, i + m = cs.length ∧ Pre M M' ∧ Live M' M.length (.row [.I x, .I y, .I z, .ref t 0 cs.length] true 0) ∧ Live M' (M.length + 1) (.row [.I o.a, .I o.b, .I o.c] true 0) ∧ Live M' (M.length + 2) (.row [.I 0, .I 0, .I 0, .nil] true 0) ∧
    Live M' (M.length + 3) (.row [.I S.a, .I S.b, .I S.c, .ref u 0 (pick S.a S.b S.c fun d => decide (d ∈ L.take i)).length] true 0) ∧ Live M' u (.row (triL (pick S.a S.b S.c fun d => decide (d ∈ L.take i))) true 3) ∧ M.length ≤ u ∧
    fr 2 = .ptr M.length 0 ∧ fr 3 = .ptr (M.length + 1) 0 ∧ fr 4 = .ptr (M.length + 2) 0 ∧ fr 5 = .ptr (M.length + 3) 0 ∧ fr 6 = .I i) cs.length
    ⟨0, M.length + 4, by omega, Pre.app _ _, Live.new, Live.newj rfl, Live.newj rfl, ?_, ?_, by omega, rfl, rfl, rfl, rfl, rfl⟩ ?_
  · rw [e0]; exact Live.newj (j := 3) rfl
  · rw [e0]; exact Live.newj (j := 4) rfl
  rintro m fr M' ⟨i, u, hi, hpre, b2, b3, b4, b5, bu, hu, f2, f3, f4, f5, f6⟩
  simp (disch := omega) only [f2, f3, f4, f5, f6, b2.cell, ↓SXd, SXu, slBounds, ↓sop, ↓aop, ↓reduceIte, LV.cells, AOp.dst, LV.I, LV.B, LV.U, LV.S, LV.nil, Nat.reduceEqDiff, Nat.reduceAdd, Nat.reduceMul, Nat.reduceSub, Nat.reduceLeDiff, Nat.reduceBEq, Nat.reduceDiv, Nat.reduceMod, Int.reduceToNat, Int.reduceLT, Int.reduceLE, Int.reduceAdd, Int.reduceSub, Int.reduceMul, Int.reduceEq, Int.reduceNeg, reduceCtorEq, resV, resAll, ARes.ev, LV.flat, ite_true, ite_false, exists_eq_left', exists_eq_left, keyOf, implies_true, fillC, capOf]
  refine condC_dec (fun hlt => ?_) (fun hlt => ?_)
  · have hil : i < cs.length := by omega
    have hcg := (h.pre hpre).tri0 hil
    have hLi := hLg i hil
    have hmi := hin _ (getD_mem' (d := default) hil)
    generalize cs.getD i default = c at hcg hLi hmi
    have r1 : [LV.I c.a, LV.I c.b, LV.I c.c][o.a.toNat]? = some (.I (c.at o.a)) := Cell.row_dir s1
    have r2 : [LV.I c.a, LV.I c.b, LV.I c.c][o.b.toNat]? = some (.I (c.at o.b)) := Cell.row_dir s2
    have r3 : [LV.I c.a, LV.I c.b, LV.I c.c][o.c.toNat]? = some (.I (c.at o.c)) := Cell.row_dir s3
    have e1 : splice [LV.I 0, LV.I 0, LV.I 0] 0 [LV.I c.a, LV.I c.b, LV.I c.c] = [LV.I c.a, LV.I c.b, LV.I c.c] := rfl
    have hlb := b5.lt
    have hp0 := hpre.1
    simp (disch := omega) only [f2, f3, f4, f5, f6, b2.cell, hcg, Cell.row, e1, b5.app.cells, b3.app.cell, r1, r2, r3, Nat.mul_one, Nat.zero_add, splice, ↓SXd, SXu, slBounds, ↓sop, ↓aop, ↓reduceIte, LV.cells, AOp.dst, LV.I, LV.B, LV.U, LV.S, LV.nil, Nat.reduceEqDiff, Nat.reduceAdd, Nat.reduceMul, Nat.reduceSub, Nat.reduceLeDiff, Nat.reduceBEq, Nat.reduceDiv, Nat.reduceMod, Int.reduceToNat, Int.reduceLT, Int.reduceLE, Int.reduceAdd, Int.reduceSub, Int.reduceMul, Int.reduceEq, Int.reduceNeg, reduceCtorEq, resV, resAll, ARes.ev, LV.flat, ite_true, ite_false, exists_eq_left', exists_eq_left, keyOf, implies_true, fillC, capOf]
    refine callH_of (h_l2With (c := permC o c) bu.app (pick_ok hSS _) hmi) ?_
    intro sn Q4 hsn hp4 hsr
    rw [← hLi, pick_take_step hSS (by omega)] at hsr ⊢
    have hQ4 := hp4.1
    have hp5 : Pre M Q4 := (hpre.trans (Pre.app _ _)).trans hp4
    simp only [List.length_append, List.length_cons, List.length_nil] at hsn hQ4
    simp (disch := omega) only [f2, f3, f4, f5, f6, ↓SXd, SXu, slBounds, ↓sop, ↓aop, ↓reduceIte, LV.cells, AOp.dst, LV.I, LV.B, LV.U, LV.S, LV.nil, Nat.reduceEqDiff, Nat.reduceAdd, Nat.reduceMul, Nat.reduceSub, Nat.reduceLeDiff, Nat.reduceBEq, Nat.reduceDiv, Nat.reduceMod, Int.reduceToNat, Int.reduceLT, Int.reduceLE, Int.reduceAdd, Int.reduceSub, Int.reduceMul, Int.reduceEq, Int.reduceNeg, reduceCtorEq, resV, resAll, ARes.ev, LV.flat, ite_true, ite_false, exists_eq_left', exists_eq_left, keyOf, implies_true, fillC, capOf]
    refine memK_box (b5.pre ((Pre.app _ _).trans hp4)) (by simp) fun N6 j1 j2 j3 => ?_
    simp (disch := omega) only [f2, f3, f4, f5, f6, ↓SXd, SXu, slBounds, ↓sop, ↓aop, ↓reduceIte, LV.cells, AOp.dst, LV.I, LV.B, LV.U, LV.S, LV.nil, Nat.reduceEqDiff, Nat.reduceAdd, Nat.reduceMul, Nat.reduceSub, Nat.reduceLeDiff, Nat.reduceBEq, Nat.reduceDiv, Nat.reduceMod, Int.reduceToNat, Int.reduceLT, Int.reduceLE, Int.reduceAdd, Int.reduceSub, Int.reduceMul, Int.reduceEq, Int.reduceNeg, reduceCtorEq, resV, resAll, ARes.ev, LV.flat, ite_true, ite_false, exists_eq_left', exists_eq_left, keyOf, implies_true, fillC, capOf]
    exact ⟨m - 1, by omega, i + 1, sn, by omega, pre_step hp5 (by omega) (j := 0) j1 j3, live_step (b2.pre ((Pre.app _ _).trans hp4)) (by omega) j3, live_step (b3.pre ((Pre.app _ _).trans hp4)) (by omega) j3, live_step (b4.pre ((Pre.app _ _).trans hp4)) (by omega) j3, j2, live_step hsr (by omega) j3, by omega, f2, f3, f4, f5, eqI (natI _)⟩
  · have : i = cs.length := by omega
    subst this
    have hlb := b5.lt
    rw [List.take_of_length_le (by omega)] at b5 bu
    simp (disch := omega) only [f2, f3, f4, f5, f6, b5.cells, ↓SXd, SXu, slBounds, ↓sop, ↓aop, ↓reduceIte, LV.cells, AOp.dst, LV.I, LV.B, LV.U, LV.S, LV.nil, Nat.reduceEqDiff, Nat.reduceAdd, Nat.reduceMul, Nat.reduceSub, Nat.reduceLeDiff, Nat.reduceBEq, Nat.reduceDiv, Nat.reduceMod, Int.reduceToNat, Int.reduceLT, Int.reduceLE, Int.reduceAdd, Int.reduceSub, Int.reduceMul, Int.reduceEq, Int.reduceNeg, reduceCtorEq, resV, resAll, ARes.ev, LV.flat, ite_true, ite_false, exists_eq_left', exists_eq_left, keyOf, implies_true, fillC, capOf]
    have hne : u ≠ M.length + 2 := bu.ne_esz b4 (by decide)
    refine memK_box b4 (by simp) fun N3 k1 k2 k3 => ?_
    simp (disch := omega) only [f2, f3, f4, f5, f6, k2.cells, ↓SXd, SXu, slBounds, ↓sop, ↓aop, ↓reduceIte, LV.cells, AOp.dst, LV.I, LV.B, LV.U, LV.S, LV.nil, Nat.reduceEqDiff, Nat.reduceAdd, Nat.reduceMul, Nat.reduceSub, Nat.reduceLeDiff, Nat.reduceBEq, Nat.reduceDiv, Nat.reduceMod, Int.reduceToNat, Int.reduceLT, Int.reduceLE, Int.reduceAdd, Int.reduceSub, Int.reduceMul, Int.reduceEq, Int.reduceNeg, reduceCtorEq, resV, resAll, ARes.ev, LV.flat, ite_true, ite_false, exists_eq_left', exists_eq_left, keyOf, implies_true, fillC, capOf]
    exact ⟨⟨u, rfl, live_step bu hne k3, hu⟩, pre_step hpre (by omega) (j := 0) k1 k3⟩

theorem eqs_nq {a b : Cell} : eqV true 3 (.agg [.val (.int .i64 a.a), .val (.int .i64 a.b), .val (.int .i64 a.c)]) (.agg [.val (.int .i64 b.a), .val (.int .i64 b.b), .val (.int .i64 b.c)]) = some (.val (.bool (!decide (a = b)))) := by
  simp only [eqV, eqC, List.length_cons, List.length_nil, if_true, Option.map_some, Bool.and_true]
  congr 2
  rw [show decide (a = b) = (a.a == b.a && (a.b == b.b && a.c == b.c)) by
    rw [Bool.eq_iff_iff, decide_eq_true_iff]
    simp only [Bool.and_eq_true, beq_iff_eq]
    exact cell_eq]
theorem h_l5Same {g h : Hp} {t o t' o' : Nat} {M : Mem} (hg : Tri M t o g.cs) (hh : Tri M t' o' h.cs) (hn : g.cs.length ≤ 1000000) (hn' : h.cs.length ≤ 1000000) :
    CallsTo PG F.spec_l5Same [.agg [.I g.x, .I g.y, .I g.z, .ref t o g.cs.length], .agg [.I h.x, .I h.y, .I h.z, .ref t' o' h.cs.length]] M (.B (decide (g.dims = h.dims ∧ g.cs = h.cs))) M := by
  refine calls_run K.spec_l5Same rfl ?_
  have hd : (g.dims = h.dims) ↔ g.x = h.x ∧ g.y = h.y ∧ g.z = h.z := cell_eq
  by_cases h1 : g.x = h.x
  rotate_left
  · rw [decide_eq_false fun e => h1 (hd.1 e.1).1]
    simp (disch := omega) only [C.spec_l5Same, h1, ↓SXd, SXu, slBounds, ↓sop, ↓aop, ↓reduceIte, LV.cells, AOp.dst, LV.I, LV.B, LV.U, LV.S, LV.nil, Nat.reduceEqDiff, Nat.reduceAdd, Nat.reduceMul, Nat.reduceSub, Nat.reduceLeDiff, Nat.reduceBEq, Nat.reduceDiv, Nat.reduceMod, Int.reduceToNat, Int.reduceLT, Int.reduceLE, Int.reduceAdd, Int.reduceSub, Int.reduceMul, Int.reduceEq, Int.reduceNeg, reduceCtorEq, resV, resAll, ARes.ev, LV.flat, ite_true, ite_false, exists_eq_left', exists_eq_left, keyOf, implies_true, fillC, capOf]
    exact cmp_drop rfl
  by_cases h2 : g.y = h.y
  rotate_left
  · rw [decide_eq_false fun e => h2 (hd.1 e.1).2.1]
    simp (disch := omega) only [C.spec_l5Same, h1, h2, ↓SXd, SXu, slBounds, ↓sop, ↓aop, ↓reduceIte, LV.cells, AOp.dst, LV.I, LV.B, LV.U, LV.S, LV.nil, Nat.reduceEqDiff, Nat.reduceAdd, Nat.reduceMul, Nat.reduceSub, Nat.reduceLeDiff, Nat.reduceBEq, Nat.reduceDiv, Nat.reduceMod, Int.reduceToNat, Int.reduceLT, Int.reduceLE, Int.reduceAdd, Int.reduceSub, Int.reduceMul, Int.reduceEq, Int.reduceNeg, reduceCtorEq, resV, resAll, ARes.ev, LV.flat, ite_true, ite_false, exists_eq_left', exists_eq_left, keyOf, implies_true, fillC, capOf]
    exact cmp_drop rfl
  by_cases h3 : g.z = h.z
  rotate_left
  · rw [decide_eq_false fun e => h3 (hd.1 e.1).2.2]
    simp (disch := omega) only [C.spec_l5Same, h1, h2, h3, ↓SXd, SXu, slBounds, ↓sop, ↓aop, ↓reduceIte, LV.cells, AOp.dst, LV.I, LV.B, LV.U, LV.S, LV.nil, Nat.reduceEqDiff, Nat.reduceAdd, Nat.reduceMul, Nat.reduceSub, Nat.reduceLeDiff, Nat.reduceBEq, Nat.reduceDiv, Nat.reduceMod, Int.reduceToNat, Int.reduceLT, Int.reduceLE, Int.reduceAdd, Int.reduceSub, Int.reduceMul, Int.reduceEq, Int.reduceNeg, reduceCtorEq, resV, resAll, ARes.ev, LV.flat, ite_true, ite_false, exists_eq_left', exists_eq_left, keyOf, implies_true, fillC, capOf]
    exact cmp_drop rfl
  by_cases h4 : g.cs.length = h.cs.length
  rotate_left
  · have h4' : ¬ ((g.cs.length : Nat) : Int) = (h.cs.length : Nat) := by omega
    rw [decide_eq_false fun e => h4 (by rw [e.2])]
    simp (disch := omega) only [C.spec_l5Same, h1, h2, h3, h4', ↓SXd, SXu, slBounds, ↓sop, ↓aop, ↓reduceIte, LV.cells, AOp.dst, LV.I, LV.B, LV.U, LV.S, LV.nil, Nat.reduceEqDiff, Nat.reduceAdd, Nat.reduceMul, Nat.reduceSub, Nat.reduceLeDiff, Nat.reduceBEq, Nat.reduceDiv, Nat.reduceMod, Int.reduceToNat, Int.reduceLT, Int.reduceLE, Int.reduceAdd, Int.reduceSub, Int.reduceMul, Int.reduceEq, Int.reduceNeg, reduceCtorEq, resV, resAll, ARes.ev, LV.flat, ite_true, ite_false, exists_eq_left', exists_eq_left, keyOf, implies_true, fillC, capOf]
    exact cmp_drop rfl
  have h4' : ((g.cs.length : Nat) : Int) = (h.cs.length : Nat) := by omega
  simp (disch := omega) only [C.spec_l5Same, h1, h2, h3, h4', ↓SXd, SXu, slBounds, ↓sop, ↓aop, ↓reduceIte, LV.cells, AOp.dst, LV.I, LV.B, LV.U, LV.S, LV.nil, Nat.reduceEqDiff, Nat.reduceAdd, Nat.reduceMul, Nat.reduceSub, Nat.reduceLeDiff, Nat.reduceBEq, Nat.reduceDiv, Nat.reduceMod, Int.reduceToNat, Int.reduceLT, Int.reduceLE, Int.reduceAdd, Int.reduceSub, Int.reduceMul, Int.reduceEq, Int.reduceNeg, reduceCtorEq, resV, resAll, ARes.ev, LV.flat, ite_true, ite_false, exists_eq_left', exists_eq_left, keyOf, implies_true, fillC, capOf]
  refine ev_loop (fun m fr M' => ∃ i : Nat, i + m = g.cs.length ∧ g.cs.take i = h.cs.take i ∧ Pre M M' ∧ Live M' M.length (.row [.I h.x, .I h.y, .I h.z, .ref t o g.cs.length] true 0) ∧ Live M' (M.length + 1) (.row [.I h.x, .I h.y, .I h.z, .ref t' o' h.cs.length] true 0) ∧
    fr 2 = .ptr M.length 0 ∧ fr 3 = .ptr (M.length + 1) 0 ∧ fr 5 = .I i) g.cs.length
    ⟨0, by omega, by simp, Pre.app _ _, ?_, ?_, rfl, rfl, rfl⟩ ?_
  · exact Live.new
  · exact Live.newj rfl
  rintro m fr M' ⟨i, hi, hti, hpre, b2, b3, f2, f3, f5⟩
  simp (disch := omega) only [f2, f3, f5, b2.cell, ↓SXd, SXu, slBounds, ↓sop, ↓aop, ↓reduceIte, LV.cells, AOp.dst, LV.I, LV.B, LV.U, LV.S, LV.nil, Nat.reduceEqDiff, Nat.reduceAdd, Nat.reduceMul, Nat.reduceSub, Nat.reduceLeDiff, Nat.reduceBEq, Nat.reduceDiv, Nat.reduceMod, Int.reduceToNat, Int.reduceLT, Int.reduceLE, Int.reduceAdd, Int.reduceSub, Int.reduceMul, Int.reduceEq, Int.reduceNeg, reduceCtorEq, resV, resAll, ARes.ev, LV.flat, ite_true, ite_false, exists_eq_left', exists_eq_left, keyOf, implies_true, fillC, capOf]
  refine condC_dec (fun hlt => ?_) (fun hlt => ?_)
  · have hil : i < g.cs.length := by omega
    have ga := Tri.get (hg.pre hpre) hil
    have gb := Tri.get (hh.pre hpre) (k := i) (by omega)
    have hta : g.cs.take (i + 1) = g.cs.take i ++ [g.cs.getD i default] := take_snoc' hil
    have htb : h.cs.take (i + 1) = h.cs.take i ++ [h.cs.getD i default] := take_snoc' (by omega)
    generalize g.cs.getD i default = c at ga hta
    generalize h.cs.getD i default = d at gb htb
    simp (disch := omega) only [f2, f3, f5, b2.cell, b3.cell, ga, gb, Cell.row, eqs_nq, ↓SXd, SXu, slBounds, ↓sop, ↓aop, ↓reduceIte, LV.cells, AOp.dst, LV.I, LV.B, LV.U, LV.S, LV.nil, Nat.reduceEqDiff, Nat.reduceAdd, Nat.reduceMul, Nat.reduceSub, Nat.reduceLeDiff, Nat.reduceBEq, Nat.reduceDiv, Nat.reduceMod, Int.reduceToNat, Int.reduceLT, Int.reduceLE, Int.reduceAdd, Int.reduceSub, Int.reduceMul, Int.reduceEq, Int.reduceNeg, reduceCtorEq, resV, resAll, ARes.ev, LV.flat, ite_true, ite_false, exists_eq_left', exists_eq_left, keyOf, implies_true, fillC, capOf]
    by_cases hcd : c = d
    · simp (disch := omega) only [f2, f3, f5, hcd, ↓SXd, SXu, slBounds, ↓sop, ↓aop, ↓reduceIte, LV.cells, AOp.dst, LV.I, LV.B, LV.U, LV.S, LV.nil, Nat.reduceEqDiff, Nat.reduceAdd, Nat.reduceMul, Nat.reduceSub, Nat.reduceLeDiff, Nat.reduceBEq, Nat.reduceDiv, Nat.reduceMod, Int.reduceToNat, Int.reduceLT, Int.reduceLE, Int.reduceAdd, Int.reduceSub, Int.reduceMul, Int.reduceEq, Int.reduceNeg, reduceCtorEq, resV, resAll, ARes.ev, LV.flat, ite_true, ite_false, exists_eq_left', exists_eq_left, keyOf, implies_true, fillC, capOf]
      refine ⟨m - 1, by omega, i + 1, by omega, by rw [hta, htb, hti, hcd], hpre, b2, b3, f2, f3, eqI (natI _)⟩
    · have hno : decide (g.dims = h.dims ∧ g.cs = h.cs) = false := decide_eq_false fun e => hcd (by
        have h5 := e.2
        rw [h5] at hta
        rw [hta] at htb
        have h6 := List.append_inj_right htb (by rw [← hti, h5])
        exact (List.cons.inj h6).1)
      rw [hno]
      simp (disch := omega) only [f2, f3, f5, hcd, ↓SXd, SXu, slBounds, ↓sop, ↓aop, ↓reduceIte, LV.cells, AOp.dst, LV.I, LV.B, LV.U, LV.S, LV.nil, Nat.reduceEqDiff, Nat.reduceAdd, Nat.reduceMul, Nat.reduceSub, Nat.reduceLeDiff, Nat.reduceBEq, Nat.reduceDiv, Nat.reduceMod, Int.reduceToNat, Int.reduceLT, Int.reduceLE, Int.reduceAdd, Int.reduceSub, Int.reduceMul, Int.reduceEq, Int.reduceNeg, reduceCtorEq, resV, resAll, ARes.ev, LV.flat, ite_true, ite_false, exists_eq_left', exists_eq_left, keyOf, implies_true, fillC, capOf]
      exact cmp_pre hpre rfl
  · have : i = g.cs.length := by omega
    subst this
    rw [List.take_of_length_le (Nat.le_refl _), List.take_of_length_le (by omega)] at hti
    have hyes : decide (g.dims = h.dims ∧ g.cs = h.cs) = true := decide_eq_true ⟨hd.2 ⟨h1, h2, h3⟩, hti⟩
    rw [hyes]
    simp (disch := omega) only [f2, f3, f5, ↓SXd, SXu, slBounds, ↓sop, ↓aop, ↓reduceIte, LV.cells, AOp.dst, LV.I, LV.B, LV.U, LV.S, LV.nil, Nat.reduceEqDiff, Nat.reduceAdd, Nat.reduceMul, Nat.reduceSub, Nat.reduceLeDiff, Nat.reduceBEq, Nat.reduceDiv, Nat.reduceMod, Int.reduceToNat, Int.reduceLT, Int.reduceLE, Int.reduceAdd, Int.reduceSub, Int.reduceMul, Int.reduceEq, Int.reduceNeg, reduceCtorEq, resV, resAll, ARes.ev, LV.flat, ite_true, ite_false, exists_eq_left', exists_eq_left, keyOf, implies_true, fillC, capOf]
    exact cmp_pre hpre rfl
theorem h_sStairLines {x y z : Int} {t : Nat} {w : Bool} {cs : List Cell} {M : Mem} (h : Live M t (.row (triL cs) w 3)) (hn : cs.length ≤ 1000000000) :
    CallsTo PG F.spec_StairLines [.agg [.I x, .I y, .I z, .ref t 0 cs.length]] M (.tup [.I (linV x y z cs : Nat), .B (strB x y z cs)]) M := by
  refine calls_run K.spec_StairLines rfl ?_
  simp (disch := omega) only [C.spec_StairLines, ↓SXd, SXu, slBounds, ↓sop, ↓aop, ↓reduceIte, LV.cells, AOp.dst, LV.I, LV.B, LV.U, LV.S, LV.nil, Nat.reduceEqDiff, Nat.reduceAdd, Nat.reduceMul, Nat.reduceSub, Nat.reduceLeDiff, Nat.reduceBEq, Nat.reduceDiv, Nat.reduceMod, Int.reduceToNat, Int.reduceLT, Int.reduceLE, Int.reduceAdd, Int.reduceSub, Int.reduceMul, Int.reduceEq, Int.reduceNeg, reduceCtorEq, resV, resAll, ARes.ev, LV.flat, ite_true, ite_false, exists_eq_left', exists_eq_left, keyOf, implies_true, fillC, capOf]
  refine callK_of (h_l5Good h.app hn) ?_
  simp (disch := omega) only [↓SXd, SXu, slBounds, ↓sop, ↓aop, ↓reduceIte, LV.cells, AOp.dst, LV.I, LV.B, LV.U, LV.S, LV.nil, Nat.reduceEqDiff, Nat.reduceAdd, Nat.reduceMul, Nat.reduceSub, Nat.reduceLeDiff, Nat.reduceBEq, Nat.reduceDiv, Nat.reduceMod, Int.reduceToNat, Int.reduceLT, Int.reduceLE, Int.reduceAdd, Int.reduceSub, Int.reduceMul, Int.reduceEq, Int.reduceNeg, reduceCtorEq, resV, resAll, ARes.ev, LV.flat, ite_true, ite_false, exists_eq_left', exists_eq_left, keyOf, implies_true, fillC, capOf]
  unfold linV
  by_cases hV : HeapOK x y z cs ∧ StairP x y z (fun c => decide (c ∈ cs))
  rotate_left
  · rw [str_no hV, if_neg (by simp)]
    simp (disch := omega) only [↓SXd, SXu, slBounds, ↓sop, ↓aop, ↓reduceIte, LV.cells, AOp.dst, LV.I, LV.B, LV.U, LV.S, LV.nil, Nat.reduceEqDiff, Nat.reduceAdd, Nat.reduceMul, Nat.reduceSub, Nat.reduceLeDiff, Nat.reduceBEq, Nat.reduceDiv, Nat.reduceMod, Int.reduceToNat, Int.reduceLT, Int.reduceLE, Int.reduceAdd, Int.reduceSub, Int.reduceMul, Int.reduceEq, Int.reduceNeg, reduceCtorEq, resV, resAll, ARes.ev, LV.flat, ite_true, ite_false, exists_eq_left', exists_eq_left, keyOf, implies_true, fillC, capOf]
    exact cmp_drop rfl
  rw [str_yes hV, if_pos rfl]
  have hlen := hV.1.len
  simp (disch := omega) only [splice, ↓SXd, SXu, slBounds, ↓sop, ↓aop, ↓reduceIte, LV.cells, AOp.dst, LV.I, LV.B, LV.U, LV.S, LV.nil, Nat.reduceEqDiff, Nat.reduceAdd, Nat.reduceMul, Nat.reduceSub, Nat.reduceLeDiff, Nat.reduceBEq, Nat.reduceDiv, Nat.reduceMod, Int.reduceToNat, Int.reduceLT, Int.reduceLE, Int.reduceAdd, Int.reduceSub, Int.reduceMul, Int.reduceEq, Int.reduceNeg, reduceCtorEq, resV, resAll, ARes.ev, LV.flat, ite_true, ite_false, exists_eq_left', exists_eq_left, keyOf, implies_true, fillC, capOf]
  refine ev_loop (fun m fr M' => ∃ i : Nat, i + m = 6 ∧ Pre M M' ∧ Live M' M.length (.row [.I x, .I y, .I z, .ref t 0 cs.length] true 0) ∧ Live M' (M.length + 1) (.row (triL ordersL) true 3) ∧
    fr 1 = .ptr M.length 0 ∧ fr 4 = .ref (M.length + 1) 0 6 ∧ fr 5 = .I ((List.range i).countP fun j => fixB ⟨x, y, z, cs⟩ j : Nat) ∧ fr 6 = .I i) 6
    ⟨0, rfl, Pre.app _ _, Live.new, Live.newj rfl, rfl, rfl, rfl, rfl⟩ ?_
  rintro m fr M' ⟨i, hi, hpre, b1, bo, f1, f4, f5, f6⟩
  simp (disch := omega) only [f1, f4, f5, f6, ↓SXd, SXu, slBounds, ↓sop, ↓aop, ↓reduceIte, LV.cells, AOp.dst, LV.I, LV.B, LV.U, LV.S, LV.nil, Nat.reduceEqDiff, Nat.reduceAdd, Nat.reduceMul, Nat.reduceSub, Nat.reduceLeDiff, Nat.reduceBEq, Nat.reduceDiv, Nat.reduceMod, Int.reduceToNat, Int.reduceLT, Int.reduceLE, Int.reduceAdd, Int.reduceSub, Int.reduceMul, Int.reduceEq, Int.reduceNeg, reduceCtorEq, resV, resAll, ARes.ev, LV.flat, ite_true, ite_false, exists_eq_left', exists_eq_left, keyOf, implies_true, fillC, capOf]
  refine condC_dec (fun hlt => ?_) (fun hlt => ?_)
  · have hi6 : i < 6 := by omega
    have hg := bo.tri0 (k := i) hi6
    rw [show ordersL.getD i default = ordAt i from rfl] at hg
    have hle := countP_le6 (f := fun j => fixB ⟨x, y, z, cs⟩ j) (k := i)
    have hcp := countP_rg (f := fun j => fixB ⟨x, y, z, cs⟩ j) (k := i)
    simp (disch := omega) only [f1, f4, f5, f6, hg, Cell.row, b1.cells, ↓SXd, SXu, slBounds, ↓sop, ↓aop, ↓reduceIte, LV.cells, AOp.dst, LV.I, LV.B, LV.U, LV.S, LV.nil, Nat.reduceEqDiff, Nat.reduceAdd, Nat.reduceMul, Nat.reduceSub, Nat.reduceLeDiff, Nat.reduceBEq, Nat.reduceDiv, Nat.reduceMod, Int.reduceToNat, Int.reduceLT, Int.reduceLE, Int.reduceAdd, Int.reduceSub, Int.reduceMul, Int.reduceEq, Int.reduceNeg, reduceCtorEq, resV, resAll, ARes.ev, LV.flat, ite_true, ite_false, exists_eq_left', exists_eq_left, keyOf, implies_true, fillC, capOf]
    refine callR_of (h_l5Exchanged (i := i) (h.pre hpre) hV.1 hi6) ?_
    rintro _ N2 ⟨⟨u, rfl, hu, hul⟩, hp2⟩
    have hp3 : Pre M N2 := hpre.trans hp2
    have hfx : decide ((exHp (ordAt i) ⟨x, y, z, cs⟩).dims = (⟨x, y, z, cs⟩ : Hp).dims ∧ (exHp (ordAt i) ⟨x, y, z, cs⟩).cs = (⟨x, y, z, cs⟩ : Hp).cs) = fixB ⟨x, y, z, cs⟩ i := by
      unfold fixB
      rw [Bool.eq_iff_iff, decide_eq_true_iff, decide_eq_true_iff]
      exact ⟨fun e => ⟨e.1.symm, e.2.symm⟩, fun e => ⟨e.1.symm, e.2.symm⟩⟩
    simp (disch := omega) only [f1, f4, f5, f6, (keepL_pr hp2), (b1.pre hp2).cells, ↓SXd, SXu, slBounds, ↓sop, ↓aop, ↓reduceIte, LV.cells, AOp.dst, LV.I, LV.B, LV.U, LV.S, LV.nil, Nat.reduceEqDiff, Nat.reduceAdd, Nat.reduceMul, Nat.reduceSub, Nat.reduceLeDiff, Nat.reduceBEq, Nat.reduceDiv, Nat.reduceMod, Int.reduceToNat, Int.reduceLT, Int.reduceLE, Int.reduceAdd, Int.reduceSub, Int.reduceMul, Int.reduceEq, Int.reduceNeg, reduceCtorEq, resV, resAll, ARes.ev, LV.flat, ite_true, ite_false, exists_eq_left', exists_eq_left, keyOf, implies_true, fillC, capOf]
    refine callK_of (h_l5Same (h := ⟨x, y, z, cs⟩) (g := exHp (ordAt i) ⟨x, y, z, cs⟩) hu.has (h.pre hp3).has (by rw [exHp_len hi6 hV.1]; show cs.length ≤ 1000000; omega) (by show cs.length ≤ 1000000; omega)) ?_
    rw [hfx]
    cases hf : fixB ⟨x, y, z, cs⟩ i with
    | true =>
      rw [hf, if_pos rfl] at hcp
      simp (disch := omega) only [f1, f4, f5, f6, ↓SXd, SXu, slBounds, ↓sop, ↓aop, ↓reduceIte, LV.cells, AOp.dst, LV.I, LV.B, LV.U, LV.S, LV.nil, Nat.reduceEqDiff, Nat.reduceAdd, Nat.reduceMul, Nat.reduceSub, Nat.reduceLeDiff, Nat.reduceBEq, Nat.reduceDiv, Nat.reduceMod, Int.reduceToNat, Int.reduceLT, Int.reduceLE, Int.reduceAdd, Int.reduceSub, Int.reduceMul, Int.reduceEq, Int.reduceNeg, reduceCtorEq, resV, resAll, ARes.ev, LV.flat, ite_true, ite_false, exists_eq_left', exists_eq_left, keyOf, implies_true, fillC, capOf]
      refine ⟨m - 1, by omega, i + 1, by omega, hp3, b1.pre hp2, bo.pre hp2, f1, f4, ?_, eqI (natI _)⟩
      rw [hcp]; exact eqI (natI _)
    | false =>
      rw [hf, if_neg (by simp), Nat.add_zero] at hcp
      simp (disch := omega) only [f1, f4, f5, f6, ↓SXd, SXu, slBounds, ↓sop, ↓aop, ↓reduceIte, LV.cells, AOp.dst, LV.I, LV.B, LV.U, LV.S, LV.nil, Nat.reduceEqDiff, Nat.reduceAdd, Nat.reduceMul, Nat.reduceSub, Nat.reduceLeDiff, Nat.reduceBEq, Nat.reduceDiv, Nat.reduceMod, Int.reduceToNat, Int.reduceLT, Int.reduceLE, Int.reduceAdd, Int.reduceSub, Int.reduceMul, Int.reduceEq, Int.reduceNeg, reduceCtorEq, resV, resAll, ARes.ev, LV.flat, ite_true, ite_false, exists_eq_left', exists_eq_left, keyOf, implies_true, fillC, capOf]
      refine ⟨m - 1, by omega, i + 1, by omega, hp3, b1.pre hp2, bo.pre hp2, f1, f4, ?_, eqI (natI _)⟩
      rw [hcp]; exact f5
  · have : i = 6 := by omega
    subst this
    rw [show linesN ⟨x, y, z, cs⟩ = (List.range 6).countP fun j => fixB ⟨x, y, z, cs⟩ j from rfl]
    simp (disch := omega) only [f1, f4, f5, f6, ↓SXd, SXu, slBounds, ↓sop, ↓aop, ↓reduceIte, LV.cells, AOp.dst, LV.I, LV.B, LV.U, LV.S, LV.nil, Nat.reduceEqDiff, Nat.reduceAdd, Nat.reduceMul, Nat.reduceSub, Nat.reduceLeDiff, Nat.reduceBEq, Nat.reduceDiv, Nat.reduceMod, Int.reduceToNat, Int.reduceLT, Int.reduceLE, Int.reduceAdd, Int.reduceSub, Int.reduceMul, Int.reduceEq, Int.reduceNeg, reduceCtorEq, resV, resAll, ARes.ev, LV.flat, ite_true, ite_false, exists_eq_left', exists_eq_left, keyOf, implies_true, fillC, capOf]
    exact cmp_pre hpre rfl
end Go.Ab

/- Contracts: hollows and least staircases of the reference. -/
namespace Go.Ab
open Go
set_option linter.unusedSimpArgs false
set_option linter.unusedVariables false
set_option maxRecDepth 20000

/-- The hollows of a staircase. -/
noncomputable def hollL (x y z : Int) (cs : List Cell) : List Cell := pick x y z (hollC x y z fun d => decide (d ∈ cs))
theorem hollC_in {x y z : Int} {cs : List Cell} {c : Cell} (h : c ∈ hollL x y z cs) (hS : Sides x y z) : c.inBox x y z ∧ c ∉ cs ∧ StairP x y z fun d => decide (d ∈ cs) || decide (d = c) := by
  obtain ⟨h1, h2⟩ := (mem_pick hS).1 h
  unfold hollC at h2
  rw [Bool.and_eq_true, Bool.not_eq_true', decide_eq_false_iff_not, decide_eq_true_iff] at h2
  exact ⟨h1, h2.1, h2.2⟩
theorem with_stair {x y z : Int} (hS : Sides x y z) {cs : List Cell} {c : Cell} : (StairP x y z fun d => decide (d ∈ pick x y z fun d => decide (d ∈ cs) || decide (d = c))) ↔ StairP x y z fun d => decide (d ∈ cs) || decide (d = c) := stairP_congr fun d hd => by
  rw [Bool.eq_iff_iff, decide_eq_true_iff, mem_pick hS]
  exact ⟨fun h => h.2, fun h => ⟨hd, h⟩⟩
theorem h_sStairHollows {x y z : Int} {t : Nat} {w : Bool} {cs : List Cell} {M : Mem} (h : Live M t (.row (triL cs) w 3)) (hV : HeapOK x y z cs ∧ StairP x y z fun c => decide (c ∈ cs)) :
    CallsTo PG F.spec_StairHollows [.agg [.I x, .I y, .I z, .ref t 0 cs.length]] M (.tup [.ref M.length 0 (hollL x y z cs).length, .B true]) (M ++ [some (.row (triL (hollL x y z cs)) true 3)]) := by
  have hlen := hV.1.len
  have hS := hV.1.1
  have hal : (cellsOf x y z).length ≤ 64 := by
    have := pick_len hS fun _ => true
    unfold pick at this
    rw [List.filter_eq_self.2 fun _ _ => rfl] at this
    exact this
  unfold hollL
  refine calls_run K.spec_StairHollows rfl ?_
  simp (disch := omega) only [C.spec_StairHollows, ↓SXd, SXu, slBounds, ↓sop, ↓aop, ↓reduceIte, LV.cells, AOp.dst, LV.I, LV.B, LV.U, LV.S, LV.nil, Nat.reduceEqDiff, Nat.reduceAdd, Nat.reduceMul, Nat.reduceSub, Nat.reduceLeDiff, Nat.reduceBEq, Nat.reduceDiv, Nat.reduceMod, Int.reduceToNat, Int.reduceLT, Int.reduceLE, Int.reduceAdd, Int.reduceSub, Int.reduceMul, Int.reduceEq, Int.reduceNeg, reduceCtorEq, resV, resAll, ARes.ev, LV.flat, ite_true, ite_false, exists_eq_left', exists_eq_left, keyOf, implies_true, fillC, capOf]
  refine callK_of (h_l5Good h.app (by omega)) ?_
  simp (disch := omega) only [↓SXd, SXu, slBounds, ↓sop, ↓aop, ↓reduceIte, LV.cells, AOp.dst, LV.I, LV.B, LV.U, LV.S, LV.nil, Nat.reduceEqDiff, Nat.reduceAdd, Nat.reduceMul, Nat.reduceSub, Nat.reduceLeDiff, Nat.reduceBEq, Nat.reduceDiv, Nat.reduceMod, Int.reduceToNat, Int.reduceLT, Int.reduceLE, Int.reduceAdd, Int.reduceSub, Int.reduceMul, Int.reduceEq, Int.reduceNeg, reduceCtorEq, resV, resAll, ARes.ev, LV.flat, ite_true, ite_false, exists_eq_left', exists_eq_left, keyOf, implies_true, fillC, capOf]
  rw [str_yes hV]
  simp (disch := omega) only [↓SXd, SXu, slBounds, ↓sop, ↓aop, ↓reduceIte, LV.cells, AOp.dst, LV.I, LV.B, LV.U, LV.S, LV.nil, Nat.reduceEqDiff, Nat.reduceAdd, Nat.reduceMul, Nat.reduceSub, Nat.reduceLeDiff, Nat.reduceBEq, Nat.reduceDiv, Nat.reduceMod, Int.reduceToNat, Int.reduceLT, Int.reduceLE, Int.reduceAdd, Int.reduceSub, Int.reduceMul, Int.reduceEq, Int.reduceNeg, reduceCtorEq, resV, resAll, ARes.ev, LV.flat, ite_true, ite_false, exists_eq_left', exists_eq_left, keyOf, implies_true, fillC, capOf]
  refine callK_of (h_l2All hS) ?_
  simp (disch := omega) only [↓SXd, SXu, slBounds, ↓sop, ↓aop, ↓reduceIte, LV.cells, AOp.dst, LV.I, LV.B, LV.U, LV.S, LV.nil, Nat.reduceEqDiff, Nat.reduceAdd, Nat.reduceMul, Nat.reduceSub, Nat.reduceLeDiff, Nat.reduceBEq, Nat.reduceDiv, Nat.reduceMod, Int.reduceToNat, Int.reduceLT, Int.reduceLE, Int.reduceAdd, Int.reduceSub, Int.reduceMul, Int.reduceEq, Int.reduceNeg, reduceCtorEq, resV, resAll, ARes.ev, LV.flat, ite_true, ite_false, exists_eq_left', exists_eq_left, keyOf, implies_true, fillC, capOf]
  rw [show (pick x y z (hollC x y z fun d => decide (d ∈ cs))) = (cellsOf x y z).filter (hollC x y z fun d => decide (d ∈ cs)) from rfl]
  have hbox : ∀ c ∈ cellsOf x y z, c.inBox x y z := fun c hc => (mem_cellsOf hS).1 hc
  generalize cellsOf x y z = A at hal hbox ⊢
  refine ev_loop (fun m fr M' => ∃ (i u : Nat), i + m = A.length ∧ Pre M M' ∧ Live M' M.length (.row [.I x, .I y, .I z, .ref t 0 cs.length] true 0) ∧ Live M' (M.length + 2) (.row (triL A) true 3) ∧ M.length < u ∧ u ≠ M.length + 2 ∧ Live M' u (.row (triL ((A.take i).filter (hollC x y z fun d => decide (d ∈ cs)))) true 3) ∧
    fr 1 = .ptr M.length 0 ∧ fr 4 = .ref u 0 ((A.take i).filter (hollC x y z fun d => decide (d ∈ cs))).length ∧ fr 5 = .ref (M.length + 2) 0 A.length ∧ fr 6 = .I i) A.length
    ⟨0, M.length + 1, by omega, Pre.app _ _, Live.new, Live.newj rfl, by omega, by omega, Live.newj rfl, rfl, rfl, rfl, rfl⟩ ?_
  rintro m fr M' ⟨i, u, hi, hpre, b1, b5, hu, hu2, b4, f1, f4, f5, f6⟩
  simp (disch := omega) only [f1, f4, f5, f6, ↓SXd, SXu, slBounds, ↓sop, ↓aop, ↓reduceIte, LV.cells, AOp.dst, LV.I, LV.B, LV.U, LV.S, LV.nil, Nat.reduceEqDiff, Nat.reduceAdd, Nat.reduceMul, Nat.reduceSub, Nat.reduceLeDiff, Nat.reduceBEq, Nat.reduceDiv, Nat.reduceMod, Int.reduceToNat, Int.reduceLT, Int.reduceLE, Int.reduceAdd, Int.reduceSub, Int.reduceMul, Int.reduceEq, Int.reduceNeg, reduceCtorEq, resV, resAll, ARes.ev, LV.flat, ite_true, ite_false, exists_eq_left', exists_eq_left, keyOf, implies_true, fillC, capOf]
  refine condC_dec (fun hlt => ?_) (fun hlt => ?_)
  · have hil : i < A.length := by omega
    have hts : A.take (i + 1) = A.take i ++ [A.getD i default] := take_snoc' hil
    have hcb := hbox _ (getD_mem' (d := default) hil)
    have hcg := fun {N : Mem} (hp : Pre M' N) => (b5.pre hp).tri0 hil
    have hfl := List.length_filter_le (hollC x y z fun d => decide (d ∈ cs)) (A.take i)
    have htl : (A.take i).length = i := by simp; omega
    generalize A.getD i default = c at hts hcb hcg
    have hpM := hpre.1
    have hub := b4.lt
    have hub5 := b5.lt
    simp (disch := omega) only [f1, f4, f5, f6, b1.cells, (hcg (Pre.refl _)), Cell.row, ↓SXd, SXu, slBounds, ↓sop, ↓aop, ↓reduceIte, LV.cells, AOp.dst, LV.I, LV.B, LV.U, LV.S, LV.nil, Nat.reduceEqDiff, Nat.reduceAdd, Nat.reduceMul, Nat.reduceSub, Nat.reduceLeDiff, Nat.reduceBEq, Nat.reduceDiv, Nat.reduceMod, Int.reduceToNat, Int.reduceLT, Int.reduceLE, Int.reduceAdd, Int.reduceSub, Int.reduceMul, Int.reduceEq, Int.reduceNeg, reduceCtorEq, resV, resAll, ARes.ev, LV.flat, ite_true, ite_false, exists_eq_left', exists_eq_left, keyOf, implies_true, fillC, capOf]
    refine callK_of (h_l2Has (h.pre hpre).has (by omega)) ?_
    simp (disch := omega) only [f1, f4, f5, f6, ↓SXd, SXu, slBounds, ↓sop, ↓aop, ↓reduceIte, LV.cells, AOp.dst, LV.I, LV.B, LV.U, LV.S, LV.nil, Nat.reduceEqDiff, Nat.reduceAdd, Nat.reduceMul, Nat.reduceSub, Nat.reduceLeDiff, Nat.reduceBEq, Nat.reduceDiv, Nat.reduceMod, Int.reduceToNat, Int.reduceLT, Int.reduceLE, Int.reduceAdd, Int.reduceSub, Int.reduceMul, Int.reduceEq, Int.reduceNeg, reduceCtorEq, resV, resAll, ARes.ev, LV.flat, ite_true, ite_false, exists_eq_left', exists_eq_left, keyOf, implies_true, fillC, capOf]
    rw [cell_eta]
    have neg : hollC x y z (fun d => decide (d ∈ cs)) c ≠ true → (A.take (i + 1)).filter (hollC x y z fun d => decide (d ∈ cs)) = (A.take i).filter (hollC x y z fun d => decide (d ∈ cs)) := fun hk => by
      rw [hts, List.filter_append, List.filter_cons_of_neg hk, List.filter_nil, List.append_nil]
    by_cases hm : c ∈ cs
    · have hk : hollC x y z (fun d => decide (d ∈ cs)) c ≠ true := by unfold hollC; simp [hm]
      have hn := neg hk
      simp (disch := omega) only [f1, f4, f5, f6, hm, ↓SXd, SXu, slBounds, ↓sop, ↓aop, ↓reduceIte, LV.cells, AOp.dst, LV.I, LV.B, LV.U, LV.S, LV.nil, Nat.reduceEqDiff, Nat.reduceAdd, Nat.reduceMul, Nat.reduceSub, Nat.reduceLeDiff, Nat.reduceBEq, Nat.reduceDiv, Nat.reduceMod, Int.reduceToNat, Int.reduceLT, Int.reduceLE, Int.reduceAdd, Int.reduceSub, Int.reduceMul, Int.reduceEq, Int.reduceNeg, reduceCtorEq, resV, resAll, ARes.ev, LV.flat, ite_true, ite_false, exists_eq_left', exists_eq_left, keyOf, implies_true, fillC, capOf]
      refine ⟨m - 1, by omega, i + 1, u, by omega, hpre, b1, b5, hu, hu2, by rw [hn]; exact b4, f1, by rw [hn]; exact f4, f5, eqI (natI _)⟩
    · simp (disch := omega) only [f1, f4, f5, f6, hm, b1.cells, (hcg (Pre.refl _)), Cell.row, ↓SXd, SXu, slBounds, ↓sop, ↓aop, ↓reduceIte, LV.cells, AOp.dst, LV.I, LV.B, LV.U, LV.S, LV.nil, Nat.reduceEqDiff, Nat.reduceAdd, Nat.reduceMul, Nat.reduceSub, Nat.reduceLeDiff, Nat.reduceBEq, Nat.reduceDiv, Nat.reduceMod, Int.reduceToNat, Int.reduceLT, Int.reduceLE, Int.reduceAdd, Int.reduceSub, Int.reduceMul, Int.reduceEq, Int.reduceNeg, reduceCtorEq, resV, resAll, ARes.ev, LV.flat, ite_true, ite_false, exists_eq_left', exists_eq_left, keyOf, implies_true, fillC, capOf]
      refine callH_of (h_l2With (c := c) (h.pre hpre) hV.1 hcb) ?_
      intro u2 N2 hu2' hp2 hb2
      have hst := h_l5Stair (M := N2) hb2 (pick_ok hS _)
      have hN2 := hp2.1
      simp (disch := omega) only [f1, f4, f5, f6, (keepL_pr hp2), ↓SXd, SXu, slBounds, ↓sop, ↓aop, ↓reduceIte, LV.cells, AOp.dst, LV.I, LV.B, LV.U, LV.S, LV.nil, Nat.reduceEqDiff, Nat.reduceAdd, Nat.reduceMul, Nat.reduceSub, Nat.reduceLeDiff, Nat.reduceBEq, Nat.reduceDiv, Nat.reduceMod, Int.reduceToNat, Int.reduceLT, Int.reduceLE, Int.reduceAdd, Int.reduceSub, Int.reduceMul, Int.reduceEq, Int.reduceNeg, reduceCtorEq, resV, resAll, ARes.ev, LV.flat, ite_true, ite_false, exists_eq_left', exists_eq_left, keyOf, implies_true, fillC, capOf]
      refine callK_of hst ?_
      by_cases hk : StairP x y z fun d => decide (d ∈ cs) || decide (d = c)
      · have hk1 := (with_stair hS).2 hk
        have hk2 : hollC x y z (fun d => decide (d ∈ cs)) c = true := by unfold hollC; simp [hm, hk]
        have hfs : (A.take (i + 1)).filter (hollC x y z fun d => decide (d ∈ cs)) = (A.take i).filter (hollC x y z fun d => decide (d ∈ cs)) ++ [c] := by
          rw [hts, List.filter_append, List.filter_cons_of_pos hk2, List.filter_nil]
        simp (disch := omega) only [f1, f4, f5, f6, hk1, (keepL_pr hp2), (hcg hp2), Cell.row, splice, ↓SXd, SXu, slBounds, ↓sop, ↓aop, ↓reduceIte, LV.cells, AOp.dst, LV.I, LV.B, LV.U, LV.S, LV.nil, Nat.reduceEqDiff, Nat.reduceAdd, Nat.reduceMul, Nat.reduceSub, Nat.reduceLeDiff, Nat.reduceBEq, Nat.reduceDiv, Nat.reduceMod, Int.reduceToNat, Int.reduceLT, Int.reduceLE, Int.reduceAdd, Int.reduceSub, Int.reduceMul, Int.reduceEq, Int.reduceNeg, reduceCtorEq, resV, resAll, ARes.ev, LV.flat, ite_true, ite_false, exists_eq_left', exists_eq_left, keyOf, implies_true, fillC, capOf]
        refine appendK_cell (b4.pre hp2) (by omega) fun N5 l1 l2 l3 => ?_
        rw [cell_eta, ← hfs] at l2
        simp (disch := omega) only [f1, f4, f5, f6, ↓SXd, SXu, slBounds, ↓sop, ↓aop, ↓reduceIte, LV.cells, AOp.dst, LV.I, LV.B, LV.U, LV.S, LV.nil, Nat.reduceEqDiff, Nat.reduceAdd, Nat.reduceMul, Nat.reduceSub, Nat.reduceLeDiff, Nat.reduceBEq, Nat.reduceDiv, Nat.reduceMod, Int.reduceToNat, Int.reduceLT, Int.reduceLE, Int.reduceAdd, Int.reduceSub, Int.reduceMul, Int.reduceEq, Int.reduceNeg, reduceCtorEq, resV, resAll, ARes.ev, LV.flat, ite_true, ite_false, exists_eq_left', exists_eq_left, keyOf, implies_true, fillC, capOf]
        refine ⟨m - 1, by omega, i + 1, N2.length + 1, by omega, pre_step (hpre.trans hp2) (by omega) l1 l3, live_step (b1.pre hp2) (by omega) l3, live_step (b5.pre hp2) (by omega) l3, by omega, by omega, l2, f1, ?_, f5, eqI (natI _)⟩
        rw [hfs]; rfl
      · have hk1 : ¬ _ := fun e => hk ((with_stair hS).1 e)
        have hk2 : hollC x y z (fun d => decide (d ∈ cs)) c ≠ true := by unfold hollC; simp [hk]
        have hn := neg hk2
        simp (disch := omega) only [f1, f4, f5, f6, hk1, (keepL_pr hp2), ↓SXd, SXu, slBounds, ↓sop, ↓aop, ↓reduceIte, LV.cells, AOp.dst, LV.I, LV.B, LV.U, LV.S, LV.nil, Nat.reduceEqDiff, Nat.reduceAdd, Nat.reduceMul, Nat.reduceSub, Nat.reduceLeDiff, Nat.reduceBEq, Nat.reduceDiv, Nat.reduceMod, Int.reduceToNat, Int.reduceLT, Int.reduceLE, Int.reduceAdd, Int.reduceSub, Int.reduceMul, Int.reduceEq, Int.reduceNeg, reduceCtorEq, resV, resAll, ARes.ev, LV.flat, ite_true, ite_false, exists_eq_left', exists_eq_left, keyOf, implies_true, fillC, capOf]
        refine ⟨m - 1, by omega, i + 1, u, by omega, hpre.trans hp2, b1.pre hp2, b5.pre hp2, hu, hu2, by rw [hn]; exact b4.pre hp2, f1, by rw [hn]; exact f4, f5, eqI (natI _)⟩
  · have : i = A.length := by omega
    subst this
    rw [List.take_length] at b4 f4
    simp (disch := omega) only [f1, f4, f5, f6, ↓SXd, SXu, slBounds, ↓sop, ↓aop, ↓reduceIte, LV.cells, AOp.dst, LV.I, LV.B, LV.U, LV.S, LV.nil, Nat.reduceEqDiff, Nat.reduceAdd, Nat.reduceMul, Nat.reduceSub, Nat.reduceLeDiff, Nat.reduceBEq, Nat.reduceDiv, Nat.reduceMod, Int.reduceToNat, Int.reduceLT, Int.reduceLE, Int.reduceAdd, Int.reduceSub, Int.reduceMul, Int.reduceEq, Int.reduceNeg, reduceCtorEq, resV, resAll, ARes.ev, LV.flat, ite_true, ite_false, exists_eq_left', exists_eq_left, keyOf, implies_true, fillC, capOf]
    exact cmp_keepL hpre (by omega) b4 (triL_lo _) (by simp [rn, rn0, rn1])

noncomputable def leastOf (x y z : Int) (cs : List Cell) : Hp := ⟨x, y, z, pick x y z (dnB x y z fun d => decide (d ∈ cs))⟩
theorem h_sLeastStair {x y z : Int} {t : Nat} {w : Bool} {cs : List Cell} {M : Mem} (h : Live M t (.row (triL cs) w 3)) (hn : cs.length ≤ 1000000000) :
    CallsR PG F.spec_LeastStair [.agg [.I x, .I y, .I z, .ref t 0 cs.length]] M fun v N => ((HeapOK x y z cs ∧ HeapT M (leastOf x y z cs) v N) ∨ (¬ HeapOK x y z cs ∧ v = .tup [.agg [.I 0, .I 0, .I 0, .nil], .B false])) ∧ Pre M N := by
  refine callsR_run K.spec_LeastStair rfl ?_
  simp (disch := omega) only [C.spec_LeastStair, ↓SXd, SXu, slBounds, ↓sop, ↓aop, ↓reduceIte, LV.cells, AOp.dst, LV.I, LV.B, LV.U, LV.S, LV.nil, Nat.reduceEqDiff, Nat.reduceAdd, Nat.reduceMul, Nat.reduceSub, Nat.reduceLeDiff, Nat.reduceBEq, Nat.reduceDiv, Nat.reduceMod, Int.reduceToNat, Int.reduceLT, Int.reduceLE, Int.reduceAdd, Int.reduceSub, Int.reduceMul, Int.reduceEq, Int.reduceNeg, reduceCtorEq, resV, resAll, ARes.ev, LV.flat, ite_true, ite_false, exists_eq_left', exists_eq_left, keyOf, implies_true, fillC, capOf]
  refine callK_of (h_l2Heap h.app.has hn) ?_
  simp (disch := omega) only [↓SXd, SXu, slBounds, ↓sop, ↓aop, ↓reduceIte, LV.cells, AOp.dst, LV.I, LV.B, LV.U, LV.S, LV.nil, Nat.reduceEqDiff, Nat.reduceAdd, Nat.reduceMul, Nat.reduceSub, Nat.reduceLeDiff, Nat.reduceBEq, Nat.reduceDiv, Nat.reduceMod, Int.reduceToNat, Int.reduceLT, Int.reduceLE, Int.reduceAdd, Int.reduceSub, Int.reduceMul, Int.reduceEq, Int.reduceNeg, reduceCtorEq, resV, resAll, ARes.ev, LV.flat, ite_true, ite_false, exists_eq_left', exists_eq_left, keyOf, implies_true, fillC, capOf]
  by_cases hH : HeapOK x y z cs
  rotate_left
  · simp (disch := omega) only [hH, fillC, splice, ↓SXd, SXu, slBounds, ↓sop, ↓aop, ↓reduceIte, LV.cells, AOp.dst, LV.I, LV.B, LV.U, LV.S, LV.nil, Nat.reduceEqDiff, Nat.reduceAdd, Nat.reduceMul, Nat.reduceSub, Nat.reduceLeDiff, Nat.reduceBEq, Nat.reduceDiv, Nat.reduceMod, Int.reduceToNat, Int.reduceLT, Int.reduceLE, Int.reduceAdd, Int.reduceSub, Int.reduceMul, Int.reduceEq, Int.reduceNeg, reduceCtorEq, resV, resAll, ARes.ev, LV.flat, ite_true, ite_false, exists_eq_left', exists_eq_left, keyOf, implies_true, fillC, capOf]
    exact ⟨.inr ⟨not_false, rfl⟩, Pre.app _ _⟩
  have hS := hH.1
  have hlen := hH.len
  simp (disch := omega) only [hH, ↓SXd, SXu, slBounds, ↓sop, ↓aop, ↓reduceIte, LV.cells, AOp.dst, LV.I, LV.B, LV.U, LV.S, LV.nil, Nat.reduceEqDiff, Nat.reduceAdd, Nat.reduceMul, Nat.reduceSub, Nat.reduceLeDiff, Nat.reduceBEq, Nat.reduceDiv, Nat.reduceMod, Int.reduceToNat, Int.reduceLT, Int.reduceLE, Int.reduceAdd, Int.reduceSub, Int.reduceMul, Int.reduceEq, Int.reduceNeg, reduceCtorEq, resV, resAll, ARes.ev, LV.flat, ite_true, ite_false, exists_eq_left', exists_eq_left, keyOf, implies_true, fillC, capOf]
  refine callK_of (h_l2Own (Has.app h.has) hn) ?_
  simp (disch := omega) only [splice, ↓SXd, SXu, slBounds, ↓sop, ↓aop, ↓reduceIte, LV.cells, AOp.dst, LV.I, LV.B, LV.U, LV.S, LV.nil, Nat.reduceEqDiff, Nat.reduceAdd, Nat.reduceMul, Nat.reduceSub, Nat.reduceLeDiff, Nat.reduceBEq, Nat.reduceDiv, Nat.reduceMod, Int.reduceToNat, Int.reduceLT, Int.reduceLE, Int.reduceAdd, Int.reduceSub, Int.reduceMul, Int.reduceEq, Int.reduceNeg, reduceCtorEq, resV, resAll, ARes.ev, LV.flat, ite_true, ite_false, exists_eq_left', exists_eq_left, keyOf, implies_true, fillC, capOf]
  refine ev_loop (fun m fr M' => ∃ (q : Cell → Bool) (u : Nat), (pick x y z q).length + m = 65 ∧ (∀ d, d.inBox x y z → d ∈ cs → q d = true) ∧ (∀ d, d.inBox x y z → q d = true → dnB x y z (fun d => decide (d ∈ cs)) d = true) ∧ Pre M M' ∧ Live M' (M.length + 1) (.row [.I 0, .I 0, .I 0, .nil] true 0) ∧
    Live M' (M.length + 3) (.row [.I x, .I y, .I z, .ref u 0 (pick x y z q).length] true 0) ∧ Live M' u (.row (triL (pick x y z q)) true 3) ∧ M.length ≤ u ∧
    fr 2 = .ptr (M.length + 1) 0 ∧ fr 4 = .ptr (M.length + 3) 0) (65 - cs.length)
    ⟨fun d => decide (d ∈ cs), M.length + 2, by rw [← hH.pick]; omega, fun d _ hd => decide_eq_true hd, fun d hd hp => dn_self hS hd hp, Pre.app _ _, Live.newj rfl, by rw [← hH.pick]; exact Live.newj (j := 3) rfl, by rw [← hH.pick]; exact Live.newj (j := 2) rfl, by omega, rfl, rfl⟩ ?_
  rintro m fr M' ⟨q, u, hm, hcq, hqd, hpre, b2, b4, bu, hu, f2, f4⟩
  have hql := pick_len hS q
  have hpM := hpre.1
  have hb4l := b4.lt
  simp (disch := omega) only [f2, f4, b4.cells, ↓SXd, SXu, slBounds, ↓sop, ↓aop, ↓reduceIte, LV.cells, AOp.dst, LV.I, LV.B, LV.U, LV.S, LV.nil, Nat.reduceEqDiff, Nat.reduceAdd, Nat.reduceMul, Nat.reduceSub, Nat.reduceLeDiff, Nat.reduceBEq, Nat.reduceDiv, Nat.reduceMod, Int.reduceToNat, Int.reduceLT, Int.reduceLE, Int.reduceAdd, Int.reduceSub, Int.reduceMul, Int.reduceEq, Int.reduceNeg, reduceCtorEq, resV, resAll, ARes.ev, LV.flat, ite_true, ite_false, exists_eq_left', exists_eq_left, keyOf, implies_true, fillC, capOf]
  refine callK_of (h_l2Own bu.has (by omega)) ?_
  simp (disch := omega) only [f2, f4, splice, ↓SXd, SXu, slBounds, ↓sop, ↓aop, ↓reduceIte, LV.cells, AOp.dst, LV.I, LV.B, LV.U, LV.S, LV.nil, Nat.reduceEqDiff, Nat.reduceAdd, Nat.reduceMul, Nat.reduceSub, Nat.reduceLeDiff, Nat.reduceBEq, Nat.reduceDiv, Nat.reduceMod, Int.reduceToNat, Int.reduceLT, Int.reduceLE, Int.reduceAdd, Int.reduceSub, Int.reduceMul, Int.reduceEq, Int.reduceNeg, reduceCtorEq, resV, resAll, ARes.ev, LV.flat, ite_true, ite_false, exists_eq_left', exists_eq_left, keyOf, implies_true, fillC, capOf]
  have b4a := b4.app (L := [some (.row (triL (pick x y z q)) true 3), some (.row [.I x, .I y, .I z, .ref M'.length 0 (pick x y z q).length] true 0)])
  refine ev_loop (fun m2 fr N => ∃ (r : Cell → Bool) (i v : Nat), i + m2 = (pick x y z q).length ∧ (∀ d, d.inBox x y z → q d = true → r d = true) ∧ (∀ d, d.inBox x y z → r d = true → dnB x y z (fun d => decide (d ∈ cs)) d = true) ∧ (∀ c ∈ (pick x y z q).take i, ∀ k : Nat, k < 3 → 0 ≤ c.at (k : Int) - 1 → r (decC c k) = true) ∧
    Pre M' N ∧ Live N (M'.length + 1) (.row [.I x, .I y, .I z, .ref v 0 (pick x y z r).length] true 0) ∧ Live N v (.row (triL (pick x y z r)) true 3) ∧ M'.length ≤ v ∧
    fr 2 = .ptr (M.length + 1) 0 ∧ fr 4 = .ptr (M.length + 3) 0 ∧ fr 5 = .ptr (M'.length + 1) 0 ∧ fr 6 = .I i) (pick x y z q).length
    ⟨q, 0, M'.length, by omega, fun _ _ h => h, hqd, by simp, Pre.app _ _, Live.newj (j := 1) rfl, Live.new, Nat.le_refl _, f2, f4, rfl, rfl⟩ ?_
  clear f2 f4 b4a
  rintro m2 fr N ⟨r, i, v, hi, hqr, hrd, hall, hpN, b5, bv, hv, f2, f4, f5, f6⟩
  have c4 := b4.pre hpN
  have cu := bu.pre hpN
  simp (disch := omega) only [f2, f4, f5, f6, c4.cell, ↓SXd, SXu, slBounds, ↓sop, ↓aop, ↓reduceIte, LV.cells, AOp.dst, LV.I, LV.B, LV.U, LV.S, LV.nil, Nat.reduceEqDiff, Nat.reduceAdd, Nat.reduceMul, Nat.reduceSub, Nat.reduceLeDiff, Nat.reduceBEq, Nat.reduceDiv, Nat.reduceMod, Int.reduceToNat, Int.reduceLT, Int.reduceLE, Int.reduceAdd, Int.reduceSub, Int.reduceMul, Int.reduceEq, Int.reduceNeg, reduceCtorEq, resV, resAll, ARes.ev, LV.flat, ite_true, ite_false, exists_eq_left', exists_eq_left, keyOf, implies_true, fillC, capOf]
  refine condC_dec (fun hlt => ?_) (fun hlt => ?_)
  · have hil : i < (pick x y z q).length := by omega
    have hts : (pick x y z q).take (i + 1) = (pick x y z q).take i ++ [(pick x y z q).getD i default] := take_snoc' hil
    obtain ⟨hcb, hcq'⟩ := (mem_pick hS).1 (getD_mem' (d := default) hil)
    have hcg := fun {Q : Mem} (hp : Pre M' Q) => (bu.pre hp).tri0 hil
    generalize (pick x y z q).getD i default = c at hts hcb hcq' hcg
    simp (disch := omega) only [f2, f4, f5, f6, ↓SXd, SXu, slBounds, ↓sop, ↓aop, ↓reduceIte, LV.cells, AOp.dst, LV.I, LV.B, LV.U, LV.S, LV.nil, Nat.reduceEqDiff, Nat.reduceAdd, Nat.reduceMul, Nat.reduceSub, Nat.reduceLeDiff, Nat.reduceBEq, Nat.reduceDiv, Nat.reduceMod, Int.reduceToNat, Int.reduceLT, Int.reduceLE, Int.reduceAdd, Int.reduceSub, Int.reduceMul, Int.reduceEq, Int.reduceNeg, reduceCtorEq, resV, resAll, ARes.ev, LV.flat, ite_true, ite_false, exists_eq_left', exists_eq_left, keyOf, implies_true, fillC, capOf]
    refine ev_loop (fun m3 fr N => ∃ (r : Cell → Bool) (k v : Nat), k + m3 = 3 ∧ (∀ d, d.inBox x y z → q d = true → r d = true) ∧ (∀ d, d.inBox x y z → r d = true → dnB x y z (fun d => decide (d ∈ cs)) d = true) ∧ (∀ c ∈ (pick x y z q).take i, ∀ k : Nat, k < 3 → 0 ≤ c.at (k : Int) - 1 → r (decC c k) = true) ∧ (∀ j : Nat, j < k → 0 ≤ c.at (j : Int) - 1 → r (decC c j) = true) ∧
      Pre M' N ∧ Live N (M'.length + 1) (.row [.I x, .I y, .I z, .ref v 0 (pick x y z r).length] true 0) ∧ Live N v (.row (triL (pick x y z r)) true 3) ∧ M'.length ≤ v ∧
      fr 2 = .ptr (M.length + 1) 0 ∧ fr 4 = .ptr (M.length + 3) 0 ∧ fr 5 = .ptr (M'.length + 1) 0 ∧ fr 6 = .I i ∧ fr 7 = .I k) 3
      ⟨r, 0, v, rfl, hqr, hrd, hall, fun j hj => by omega, hpN, b5, bv, hv, f2, f4, f5, f6, rfl⟩ ?_
    clear f2 f4 f5 f6 b5 bv hv hall hrd hqr hpN c4 cu
    rintro m3 fr N ⟨r, k, v, hk, hqr, hrd, hall, hall2, hpN, b5, bv, hv, f2, f4, f5, f6, f7⟩
    have c4 := b4.pre hpN
    simp (disch := omega) only [f2, f4, f5, f6, f7, ↓SXd, SXu, slBounds, ↓sop, ↓aop, ↓reduceIte, LV.cells, AOp.dst, LV.I, LV.B, LV.U, LV.S, LV.nil, Nat.reduceEqDiff, Nat.reduceAdd, Nat.reduceMul, Nat.reduceSub, Nat.reduceLeDiff, Nat.reduceBEq, Nat.reduceDiv, Nat.reduceMod, Int.reduceToNat, Int.reduceLT, Int.reduceLE, Int.reduceAdd, Int.reduceSub, Int.reduceMul, Int.reduceEq, Int.reduceNeg, reduceCtorEq, resV, resAll, ARes.ev, LV.flat, ite_true, ite_false, exists_eq_left', exists_eq_left, keyOf, implies_true, fillC, capOf]
    refine condC_dec (fun hlt => ?_) (fun hlt => ?_)
    · have hk3 : k < 3 := by omega
      have hcb3 := at_box hS hcb hk3
      have hck := row_k c hk3
      have hdk := row_k (decC c k) hk3
      rw [dec_at hk3] at hdk
      have hlt1 : k + 1 ≤ 3 := by omega
      have e0 : splice [LV.I 0, LV.I 0, LV.I 0] 0 [LV.I c.a, LV.I c.b, LV.I c.c] = [LV.I c.a, LV.I c.b, LV.I c.c] := rfl
      have e1 := dec_splice (c := c) hk3
      have hb5l := b5.lt
      have hNl := hpN.1
      have hpN1 : Pre M' (N ++ [some (.row [.I (decC c k).a, .I (decC c k).b, .I (decC c k).c] true 0)]) := hpN.trans (Pre.app _ _)
      simp (disch := omega) only [f2, f4, f5, f6, f7, c4.cell, (hcg hpN), Cell.row, e0, e1, hck, hdk, hlt1, Nat.mul_one, Nat.zero_add, List.length_cons, List.length_nil, ↓SXd, SXu, slBounds, ↓sop, ↓aop, ↓reduceIte, LV.cells, AOp.dst, LV.I, LV.B, LV.U, LV.S, LV.nil, Nat.reduceEqDiff, Nat.reduceAdd, Nat.reduceMul, Nat.reduceSub, Nat.reduceLeDiff, Nat.reduceBEq, Nat.reduceDiv, Nat.reduceMod, Int.reduceToNat, Int.reduceLT, Int.reduceLE, Int.reduceAdd, Int.reduceSub, Int.reduceMul, Int.reduceEq, Int.reduceNeg, reduceCtorEq, resV, resAll, ARes.ev, LV.flat, ite_true, ite_false, exists_eq_left', exists_eq_left, keyOf, implies_true, fillC, capOf]
      by_cases h0 : 0 ≤ c.at (k : Int) - 1
      · have hdb := decC_box (c := c) (k := k) hcb hk3 (by rw [dec_at hk3]; exact h0)
        simp (disch := omega) only [f2, f4, f5, f6, f7, h0, b5.app.cells, ↓SXd, SXu, slBounds, ↓sop, ↓aop, ↓reduceIte, LV.cells, AOp.dst, LV.I, LV.B, LV.U, LV.S, LV.nil, Nat.reduceEqDiff, Nat.reduceAdd, Nat.reduceMul, Nat.reduceSub, Nat.reduceLeDiff, Nat.reduceBEq, Nat.reduceDiv, Nat.reduceMod, Int.reduceToNat, Int.reduceLT, Int.reduceLE, Int.reduceAdd, Int.reduceSub, Int.reduceMul, Int.reduceEq, Int.reduceNeg, reduceCtorEq, resV, resAll, ARes.ev, LV.flat, ite_true, ite_false, exists_eq_left', exists_eq_left, keyOf, implies_true, fillC, capOf]
        refine callH_of (h_l2With (c := decC c k) bv.app (pick_ok hS _) hdb) ?_
        intro sn Q4 hsn hp4 hsr
        have hQ4 := hp4.1
        simp only [List.length_append, List.length_cons, List.length_nil] at hsn hQ4
        have hpQ := (hpN.trans (Pre.app _ _)).trans hp4
        rw [show (pick x y z fun d => decide (d ∈ pick x y z r) || decide (d = decC c k)) = pick x y z fun d => r d || decide (d = decC c k) from pick_congr hS fun d hd => by
          congr 1
          rw [Bool.eq_iff_iff, decide_eq_true_iff, mem_pick hS]; exact ⟨fun h => h.2, fun h => ⟨hd, h⟩⟩] at hsr ⊢
        simp (disch := omega) only [f2, f4, f5, f6, f7, ↓SXd, SXu, slBounds, ↓sop, ↓aop, ↓reduceIte, LV.cells, AOp.dst, LV.I, LV.B, LV.U, LV.S, LV.nil, Nat.reduceEqDiff, Nat.reduceAdd, Nat.reduceMul, Nat.reduceSub, Nat.reduceLeDiff, Nat.reduceBEq, Nat.reduceDiv, Nat.reduceMod, Int.reduceToNat, Int.reduceLT, Int.reduceLE, Int.reduceAdd, Int.reduceSub, Int.reduceMul, Int.reduceEq, Int.reduceNeg, reduceCtorEq, resV, resAll, ARes.ev, LV.flat, ite_true, ite_false, exists_eq_left', exists_eq_left, keyOf, implies_true, fillC, capOf]
        refine memK_box (b5.pre ((Pre.app _ _).trans hp4)) (by simp) fun N6 j1 j2 j3 => ?_
        simp (disch := omega) only [f2, f4, f5, f6, f7, ↓SXd, SXu, slBounds, ↓sop, ↓aop, ↓reduceIte, LV.cells, AOp.dst, LV.I, LV.B, LV.U, LV.S, LV.nil, Nat.reduceEqDiff, Nat.reduceAdd, Nat.reduceMul, Nat.reduceSub, Nat.reduceLeDiff, Nat.reduceBEq, Nat.reduceDiv, Nat.reduceMod, Int.reduceToNat, Int.reduceLT, Int.reduceLE, Int.reduceAdd, Int.reduceSub, Int.reduceMul, Int.reduceEq, Int.reduceNeg, reduceCtorEq, resV, resAll, ARes.ev, LV.flat, ite_true, ite_false, exists_eq_left', exists_eq_left, keyOf, implies_true, fillC, capOf]
        refine ⟨m3 - 1, by omega, fun d => r d || decide (d = decC c k), k + 1, sn, by omega, fun d hd h => by show (r d || _) = true; rw [hqr d hd h]; rfl, fun d hd h => ?_, fun e he k' hk' h' => by show (r _ || _) = true; rw [hall e he k' hk' h']; rfl, fun j hj => ?_, pre_step hpQ (by omega) (j := 0) j1 j3, j2, live_step hsr (by omega) j3, by omega, f2, f4, f5, f6, eqI (natI _)⟩
        · rw [Bool.or_eq_true, decide_eq_true_iff] at h
          rcases h with h | rfl
          · exact hrd d hd h
          · exact dn_dec hS (hqd c hcb hcq')
        · rcases Nat.lt_or_ge j k with hjk | hjk
          · exact fun h => by show (r _ || _) = true; rw [hall2 j hjk h]; rfl
          · rw [show j = k by omega]; exact fun _ => by simp
      · simp (disch := omega) only [f2, f4, f5, f6, f7, h0, ↓SXd, SXu, slBounds, ↓sop, ↓aop, ↓reduceIte, LV.cells, AOp.dst, LV.I, LV.B, LV.U, LV.S, LV.nil, Nat.reduceEqDiff, Nat.reduceAdd, Nat.reduceMul, Nat.reduceSub, Nat.reduceLeDiff, Nat.reduceBEq, Nat.reduceDiv, Nat.reduceMod, Int.reduceToNat, Int.reduceLT, Int.reduceLE, Int.reduceAdd, Int.reduceSub, Int.reduceMul, Int.reduceEq, Int.reduceNeg, reduceCtorEq, resV, resAll, ARes.ev, LV.flat, ite_true, ite_false, exists_eq_left', exists_eq_left, keyOf, implies_true, fillC, capOf]
        refine ⟨m3 - 1, by omega, r, k + 1, v, by omega, hqr, hrd, hall, fun j hj => ?_, hpN.app', b5.app, bv.app, hv, f2, f4, f5, f6, eqI (natI _)⟩
        rcases Nat.lt_or_ge j k with hjk | hjk
        · exact hall2 j hjk
        · rw [show j = k by omega]; exact fun hh => absurd hh h0
    · have : k = 3 := by omega
      subst this
      simp (disch := omega) only [f2, f4, f5, f6, f7, ↓SXd, SXu, slBounds, ↓sop, ↓aop, ↓reduceIte, LV.cells, AOp.dst, LV.I, LV.B, LV.U, LV.S, LV.nil, Nat.reduceEqDiff, Nat.reduceAdd, Nat.reduceMul, Nat.reduceSub, Nat.reduceLeDiff, Nat.reduceBEq, Nat.reduceDiv, Nat.reduceMod, Int.reduceToNat, Int.reduceLT, Int.reduceLE, Int.reduceAdd, Int.reduceSub, Int.reduceMul, Int.reduceEq, Int.reduceNeg, reduceCtorEq, resV, resAll, ARes.ev, LV.flat, ite_true, ite_false, exists_eq_left', exists_eq_left, keyOf, implies_true, fillC, capOf]
      refine ⟨m2 - 1, by omega, r, i + 1, v, by omega, hqr, hrd, fun d hd => ?_, hpN, b5, bv, hv, f2, f4, f5, eqI (natI _)⟩
      rw [hts] at hd
      rcases List.mem_append.1 hd with hd | hd
      · exact hall d hd
      · rw [List.mem_singleton.1 hd]; exact hall2
  · have : i = (pick x y z q).length := by omega
    subst this
    rw [List.take_length] at hall
    have hsub : ∀ d ∈ pick x y z q, d ∈ pick x y z r := fun d hd => by
      obtain ⟨h1, h2⟩ := (mem_pick hS).1 hd
      exact (mem_pick hS).2 ⟨h1, hqr d h1 h2⟩
    have hle := nodup_sub (pick_ok hS q).nodup hsub
    have hrl := pick_len hS r
    have hb5l := b5.lt
    simp (disch := omega) only [f2, f4, f5, f6, b5.cell, c4.cell, ↓SXd, SXu, slBounds, ↓sop, ↓aop, ↓reduceIte, LV.cells, AOp.dst, LV.I, LV.B, LV.U, LV.S, LV.nil, Nat.reduceEqDiff, Nat.reduceAdd, Nat.reduceMul, Nat.reduceSub, Nat.reduceLeDiff, Nat.reduceBEq, Nat.reduceDiv, Nat.reduceMod, Int.reduceToNat, Int.reduceLT, Int.reduceLE, Int.reduceAdd, Int.reduceSub, Int.reduceMul, Int.reduceEq, Int.reduceNeg, reduceCtorEq, resV, resAll, ARes.ev, LV.flat, ite_true, ite_false, exists_eq_left', exists_eq_left, keyOf, implies_true, fillC, capOf]
    by_cases heq : ((pick x y z r).length : Int) = (pick x y z q).length
    · have hrq : ∀ d, d.inBox x y z → r d = true → q d = true := fun d hd hr => by
        have := cover hS (pick_ok hS q).nodup hsub (by omega) ((mem_pick hS).2 ⟨hd, hr⟩)
        exact ((mem_pick hS).1 this).2
      have hst : StairP x y z q := stair_step.2 fun c hc hq k hk h0 => hrq _ (decC_box hc hk h0) (hall c ((mem_pick hS).2 ⟨hc, hq⟩) k hk (by rw [dec_at hk] at h0; exact h0))
      have hfin : pick x y z q = pick x y z (dnB x y z fun d => decide (d ∈ cs)) := pick_congr hS fun d hd => by
        rw [Bool.eq_iff_iff]
        exact ⟨hqd d hd, fun h => dn_least hS hst (fun c hc hp => hcq c hc (of_decide_eq_true hp)) hd h⟩
      simp (disch := omega) only [f2, f4, f5, f6, heq, c4.cells, ↓SXd, SXu, slBounds, ↓sop, ↓aop, ↓reduceIte, LV.cells, AOp.dst, LV.I, LV.B, LV.U, LV.S, LV.nil, Nat.reduceEqDiff, Nat.reduceAdd, Nat.reduceMul, Nat.reduceSub, Nat.reduceLeDiff, Nat.reduceBEq, Nat.reduceDiv, Nat.reduceMod, Int.reduceToNat, Int.reduceLT, Int.reduceLE, Int.reduceAdd, Int.reduceSub, Int.reduceMul, Int.reduceEq, Int.reduceNeg, reduceCtorEq, resV, resAll, ARes.ev, LV.flat, ite_true, ite_false, exists_eq_left', exists_eq_left, keyOf, implies_true, fillC, capOf]
      refine memK_box (b2.pre hpN) (by simp) fun N3 k1 k2 k3 => ?_
      simp (disch := omega) only [f2, f4, f5, f6, k2.cells, ↓SXd, SXu, slBounds, ↓sop, ↓aop, ↓reduceIte, LV.cells, AOp.dst, LV.I, LV.B, LV.U, LV.S, LV.nil, Nat.reduceEqDiff, Nat.reduceAdd, Nat.reduceMul, Nat.reduceSub, Nat.reduceLeDiff, Nat.reduceBEq, Nat.reduceDiv, Nat.reduceMod, Int.reduceToNat, Int.reduceLT, Int.reduceLE, Int.reduceAdd, Int.reduceSub, Int.reduceMul, Int.reduceEq, Int.reduceNeg, reduceCtorEq, resV, resAll, ARes.ev, LV.flat, ite_true, ite_false, exists_eq_left', exists_eq_left, keyOf, implies_true, fillC, capOf]
      refine ⟨.inl ⟨u, ?_, ?_, hu⟩, pre_step (hpre.trans hpN) (by omega) (j := 0) k1 k3⟩
      · unfold leastOf; rw [← hfin]
      · unfold leastOf; rw [← hfin]; exact live_step cu (bu.ne_esz b2 (by decide)) k3
    · simp (disch := omega) only [f2, f4, f5, f6, heq, b5.cells, ↓SXd, SXu, slBounds, ↓sop, ↓aop, ↓reduceIte, LV.cells, AOp.dst, LV.I, LV.B, LV.U, LV.S, LV.nil, Nat.reduceEqDiff, Nat.reduceAdd, Nat.reduceMul, Nat.reduceSub, Nat.reduceLeDiff, Nat.reduceBEq, Nat.reduceDiv, Nat.reduceMod, Int.reduceToNat, Int.reduceLT, Int.reduceLE, Int.reduceAdd, Int.reduceSub, Int.reduceMul, Int.reduceEq, Int.reduceNeg, reduceCtorEq, resV, resAll, ARes.ev, LV.flat, ite_true, ite_false, exists_eq_left', exists_eq_left, keyOf, implies_true, fillC, capOf]
      refine memK_box c4 (by simp) fun N3 k1 k2 k3 => ?_
      simp (disch := omega) only [f2, f4, f5, f6, ↓SXd, SXu, slBounds, ↓sop, ↓aop, ↓reduceIte, LV.cells, AOp.dst, LV.I, LV.B, LV.U, LV.S, LV.nil, Nat.reduceEqDiff, Nat.reduceAdd, Nat.reduceMul, Nat.reduceSub, Nat.reduceLeDiff, Nat.reduceBEq, Nat.reduceDiv, Nat.reduceMod, Int.reduceToNat, Int.reduceLT, Int.reduceLE, Int.reduceAdd, Int.reduceSub, Int.reduceMul, Int.reduceEq, Int.reduceNeg, reduceCtorEq, resV, resAll, ARes.ev, LV.flat, ite_true, ite_false, exists_eq_left', exists_eq_left, keyOf, implies_true, fillC, capOf]
      exact ⟨65 - (pick x y z r).length, by omega, r, v, by omega, fun d hd h => hqr d hd (hcq d hd h), hrd, pre_step (hpre.trans hpN) (by omega) (j := 0) k1 k3, live_step (b2.pre hpN) (by omega) k3, k2, live_step bv (by omega) k3, by omega, f2, f4⟩
end Go.Ab

/- The abstract code of some functions (written by a program of mine from the translation, by way of prepF). -/
namespace Go.Ab.C
open Go.Ab
end Go.Ab.C

/- That the program has this code. -/
namespace Go.Ab.K
open Go Go.Ab
end Go.Ab.K

/- The abstract code of some functions (written by a program of mine from the translation, by way of prepF). -/
namespace Go.Ab.C
open Go.Ab
def impl_TakeCube : AFn :=
 ⟨2, 28, [.cellN 4 4, .tmp 5],
 .seq (.ops [(none, .box 2 (.t 0)),
 (none, .box 3 (.t 1)),
 (none, .alloc 4 [(.I 0), (.I 0), (.I 0), .nil]),
 (none, .mv 5 (.c (.B false)))])
 (.seq (.seq (.ops [(none, .loadN 6 4 (.t 2)),
 (none, .loadN 7 3 (.t 3)),
 (none, .call (some 8) F.impl_isCell [(.t 6), (.t 7)]),
 (none, .un 9 .not (.t 8)),
 (none, .mv 10 (.t 9)),
 (some (10, false), .loadN 11 4 (.t 2)),
 (some (10, false), .loadN 12 3 (.t 3)),
 (some (10, false), .call (some 13) F.impl_Heap_hasCube [(.t 11), (.t 12)]),
 (some (10, false), .un 14 .not (.t 13)),
 (none, .pick 15 (.t 10) (.c (.B true)) (.t 14))])
 (.cond (.t 15) (.seq (.ops [(none, .build 16 [(.I 0), (.I 0), (.I 0), .nil] []),
 (none, .store 4 (.t 4) (.t 16)),
 (none, .mv 5 (.c (.B false)))])
 (.ret))
 (.skip)))
 (.seq (.draw [⟨(none, .loadN 17 4 (.t 2)), [], []⟩,
 ⟨(none, .loadN 19 4 (.t 2)), [], []⟩,
 ⟨(none, .loadN 21 4 (.t 2)), [], []⟩,
 ⟨(none, .loadN 23 3 (.t 3)), [], []⟩,
 ⟨(none, .call (some 18) F.impl_Heap_box [(.t 17)]), [], [1, 2, 3]⟩,
 ⟨(none, .call (some 20) F.impl_Heap_cubes [(.t 19)]), [], [2, 3]⟩,
 ⟨(none, .call (some 22) F.impl_Heap_box [(.t 21)]), [], [3]⟩,
 ⟨(none, .call (some 24) F.impl_box_index [(.t 22), (.t 23)]), [], []⟩,
 ⟨(none, .bin 25 .shl (.c (.U 1)) (.t 24)), [], []⟩,
 ⟨(none, .bin 26 .andNot (.t 20) (.t 25)), [], []⟩,
 ⟨(none, .call (some 27) F.impl_box_heap [(.t 18), (.t 26)]), [], []⟩,
 ⟨(none, .store 4 (.t 4) (.t 27)), [], []⟩,
 ⟨(none, .mv 5 (.c (.B true))), [], []⟩])
 (.ret)))⟩
end Go.Ab.C

/- That the program has this code. -/
namespace Go.Ab.K
open Go Go.Ab
theorem impl_TakeCube : prepF Go.Proofs.Try.prog F.impl_TakeCube = some C.impl_TakeCube := by kernel_rfl
end Go.Ab.K

/- The abstract code of some functions (written by a program of mine from the translation, by way of prepF). -/
namespace Go.Ab.C
open Go.Ab
end Go.Ab.C

/- That the program has this code. -/
namespace Go.Ab.K
open Go Go.Ab
end Go.Ab.K

/- The abstract code of some functions (written by a program of mine from the translation, by way of prepF). -/
namespace Go.Ab.C
open Go.Ab
end Go.Ab.C

/- That the program has this code. -/
namespace Go.Ab.K
open Go Go.Ab
end Go.Ab.K

/- The abstract code of some functions (written by a program of mine from the translation, by way of prepF). -/
namespace Go.Ab.C
open Go.Ab
end Go.Ab.C

/- That the program has this code. -/
namespace Go.Ab.K
open Go Go.Ab
end Go.Ab.K

/- Contracts: whether a heap has a shadow, the program's side; IsShadowOf, both sides. -/
namespace Go.Ab
open Go
set_option linter.unusedSimpArgs false
set_option linter.unusedVariables false
set_option maxRecDepth 20000

section
variable {x y z : Int} {t o t' o' t2 o2 : Nat} {tp fr sd : List Int} {M : Mem} (h1 : Ints M t o tp) (h2 : Ints M t' o' fr) (h3 : Ints M t2 o2 sd) (l1 : tp.length ≤ 1000000000) (l2 : fr.length ≤ 1000000000) (l3 : sd.length ≤ 1000000000)
include h1 h2 h3 l1 l2 l3
/-- What IsShadowOf returns. -/
noncomputable def isShdOf (x y z : Int) (tp fr sd : List Int) (x' y' z' : Int) (cs : List Cell) : LV := .tup [.B (decide ((ShdOK x y z tp fr sd ∧ HeapOK x' y' z' cs) ∧ (x = x' ∧ y = y' ∧ z = z') ∧ HasShd x y z tp fr sd cs)), .B (decide (ShdOK x y z tp fr sd ∧ HeapOK x' y' z' cs))]
variable {x' y' z' : Int} {q r : Nat} {cs : List Cell} (h : Tri M q r cs) (hn : cs.length ≤ 1000000000)
include h hn
end
end Go.Ab

/- Plain words: the library's count of a 64-bit set is the number of its bits. -/
namespace Go.Ab

def rep : Nat → Nat → Nat
  | 0, _ => 0
  | k + 1, c => c + 256 * rep k c
def ofB : List Nat → Nat
  | [] => 0
  | l :: ls => l + 256 * ofB ls
def a8 (l : Nat) : Nat := (l / 2 &&& 85) + (l &&& 85)
def b8 (l : Nat) : Nat := (l / 4 &&& 51) + (l &&& 51)
def c8 (l : Nat) : Nat := (l / 16 + l) % 16
def pc8 (l : Nat) : Nat := (List.range 8).countP fun j => l.testBit j
end Go.Ab

/- Contracts: lines that need a cube, and cells that must be, the program's side. -/
namespace Go.Ab
open Go
set_option linter.unusedSimpArgs false
set_option linter.unusedVariables false
set_option maxRecDepth 20000

section
variable {x y z : Int} {t o t' o' t2 o2 : Nat} {tp fr sd : List Int} {M : Mem} (h1 : Ints M t o tp) (h2 : Ints M t' o' fr) (h3 : Ints M t2 o2 sd) (hok : ShdOK x y z tp fr sd)
include h1 h2 h3 hok
end
end Go.Ab

/- Contracts: cells that must be, the reference's side; MustCells and SpareCells, both sides. -/
namespace Go.Ab
open Go
set_option linter.unusedSimpArgs false
set_option linter.unusedVariables false
set_option maxRecDepth 20000

/-- Of the allowed cells those that must be (sp false), or the others. -/
def shdPart (x y z : Int) (tp fr sd : List Int) (sp : Bool) : List Cell := (pick x y z (allowedB y z tp fr sd)).filter fun c => aloneK y z (pick x y z (allowedB y z tp fr sd)) 3 c != sp
section
variable {x y z : Int} {t o t' o' t2 o2 : Nat} {tp fr sd : List Int} {M : Mem} (h1 : Ints M t o tp) (h2 : Ints M t' o' fr) (h3 : Ints M t2 o2 sd)
include h1 h2 h3
end
end Go.Ab

/- Contracts: MustCells and SpareCells, both sides. -/
namespace Go.Ab
open Go
set_option linter.unusedSimpArgs false
set_option linter.unusedVariables false
set_option maxRecDepth 20000

/-- A valid shadow whose lists fit together. -/
def Fits (x y z : Int) (tp fr sd : List Int) : Prop := ShdOK x y z tp fr sd ∧ HasShd x y z tp fr sd (pick x y z (allowedB y z tp fr sd))
instance (x y z : Int) (tp fr sd : List Int) : Decidable (Fits x y z tp fr sd) := by unfold Fits; exact inferInstance
def partOf (x y z : Int) (tp fr sd : List Int) (sp : Bool) : Option (List Cell) := if Fits x y z tp fr sd then some (shdPart x y z tp fr sd sp) else none
section
variable {x y z : Int} {t o t' o' t2 o2 : Nat} {tp fr sd : List Int} {M : Mem} (h1 : Ints M t o tp) (h2 : Ints M t' o' fr) (h3 : Ints M t2 o2 sd) (l1 : tp.length ≤ 1000000000) (l2 : fr.length ≤ 1000000000) (l3 : sd.length ≤ 1000000000)
include h1 h2 h3 l1 l2 l3
end
end Go.Ab

/- Plain: what the law of shadows says. -/
namespace Go.Ab
open Go
set_option linter.unusedSimpArgs false
set_option linter.unusedVariables false
set_option maxRecDepth 20000

theorem less_pick {x y z : Int} {cs : List Cell} {c : Cell} (hH : HeapOK x y z cs) : (pick x y z fun e => decide (e ∈ cs) && !decide (e = c)) = cs.filter fun e => !decide (e = c) := by
  rw [← filter_pick (fun e => decide (e ∈ cs)) (fun e => !decide (e = c)), ← hH.pick]
section
variable {x y z : Int} {tp fr sd : List Int} (hok : ShdOK x y z tp fr sd)
include hok
end
/-- The number of lit lines. -/
def litSum : List Int → Int
  | [] => 0
  | a :: l => a + litSum l
end Go.Ab

/- The abstract code of some functions (written by a program of mine from the translation, by way of prepF). -/
namespace Go.Ab.C
open Go.Ab
end Go.Ab.C

/- That the program has this code. -/
namespace Go.Ab.K
open Go Go.Ab
end Go.Ab.K

/- Contracts: the reference's mirrored, other, cropped, widened and shifted heaps. -/
namespace Go.Ab
open Go
set_option linter.unusedSimpArgs false
set_option linter.unusedVariables false
set_option maxRecDepth 20000

section
variable {x y z : Int} {t : Nat} {w : Bool} {cs : List Cell} {M : Mem} (h : Live M t (.row (triL cs) w 3)) (hn : cs.length ≤ 1000000000)
include h hn
end
end Go.Ab
