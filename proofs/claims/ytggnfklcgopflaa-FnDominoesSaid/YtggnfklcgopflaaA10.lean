/- Parts of the proof of FnDominoesSaid: Ym Yo C_Yp K_Yp C_Jd K_Jd Jd Yp. -/
import Derived.Test.YtggnfklcgopflaaA9
import Derived.Test.YtggnfklcgopflaaA4
import Derived.Test.YtggnfklcgopflaaA8
import Derived.Test.YtggnfklcgopflaaA3
import Derived.Test.YtggnfklcgopflaaProg
import Derived.KernelRfl
import Derived.Test.YtggnfklcgopflaaA7
import Derived.Test.YtggnfklcgopflaaA6
set_option linter.all false
/- Contracts: in how many ways cells can be put into pairs, both sides. -/
namespace Go.Ab
open Go
set_option linter.unusedSimpArgs false
set_option linter.unusedVariables false
set_option maxRecDepth 20000

theorem sumD_le {k : Cell → Nat} {b : Nat} : ∀ {l : List Cell}, (∀ c ∈ l, k c ≤ b) → sumD l k ≤ l.length * b
  | [], _ => by simp [sumD_nil]
  | c :: l, h => by
    have h1 := h c (by simp)
    have h2 := sumD_le (l := l) fun d hd => h d (List.mem_cons_of_mem _ hd)
    rw [sumD_cons, List.length_cons, Nat.add_mul, Nat.one_mul]; omega
theorem sumD_snoc {k : Cell → Nat} {c : Cell} : ∀ {l : List Cell}, sumD (l ++ [c]) k = sumD l k + k c
  | [] => by rw [List.nil_append, sumD_cons]; simp [sumD_nil]
  | d :: l => by rw [List.cons_append, sumD_cons, sumD_cons, sumD_snoc]; omega
theorem dom_le : ∀ {f : Nat} {l : List Cell}, l.length ≤ 18 → domL f l ≤ 18 ^ f
  | f, [], _ => by rw [dom_nil]; exact Nat.one_le_pow _ _ (by omega)
  | 0, c :: l, _ => by rw [dom_zero]; omega
  | f + 1, c :: l, h => by
    rw [dom_cons]
    have hl : l.length + 1 ≤ 18 := by simpa using h
    refine Nat.le_trans (sumD_le (b := 18 ^ f) fun d _ => ?_) ?_
    · split
      · exact dom_le (by have := List.length_filter_le (fun e => !decide (e = d)) l; unfold delC; omega)
      · exact Nat.zero_le _
    · rw [Nat.pow_succ, Nat.mul_comm]; exact Nat.mul_le_mul_left _ (by omega)
theorem dom_bound {f : Nat} {l : List Cell} (h : l.length ≤ 18) (hf : f ≤ 9) : domL f l ≤ 198359290368 := Nat.le_trans (dom_le h) (Nat.le_trans (Nat.pow_le_pow_right (by omega) hf) (by decide))
theorem dom_near {f : Nat} {c : Cell} {l : List Cell} : domL (f + 1) (c :: l) = sumD (l.filter fun d => decide (apart d c = 1)) fun d => domL f (delC l d) := by
  rw [dom_cons, sumD_filter]
  exact sumD_congr fun d _ => by by_cases h : apart d c = 1 <;> simp [h]
theorem near_cons {c : Cell} {l : List Cell} : (c :: l).filter (fun d => decide (apart d c = 1)) = l.filter fun d => decide (apart d c = 1) := List.filter_cons_of_neg (by simp [apart_self])
noncomputable def cdOf (x y z : Int) (cs : List Cell) : Option Int := by
  classical
  exact if HeapOK x y z cs ∧ (freeL x y z cs).length ≤ 18 then some (domL 9 (freeL x y z cs) : Nat) else none

theorem h_l9Dominoes {x y z : Int} : ∀ (f : Nat) {l : List Cell} {t : Nat} {M : Mem}, f ≤ 9 → l.length ≤ 2 * f → l.Nodup → (∀ c ∈ l, c.inBox 4 4 4) → Tri M t 0 l → CallsTo PG F.spec_l9Dominoes [.agg [.I x, .I y, .I z, .ref t 0 l.length]] M (.I (domL f l : Nat)) M := by
  intro f
  induction f with
  | zero =>
    intro l t M _ hl _ _ _
    obtain rfl : l = [] := List.eq_nil_of_length_eq_zero (by omega)
    refine calls_run K.spec_l9Dominoes rfl ?_
    rw [dom_nil]
    simp (disch := omega) only [C.spec_l9Dominoes, ↓SXd, SXu, slBounds, ↓sop, ↓aop, ↓reduceIte, LV.cells, AOp.dst, LV.I, LV.B, LV.U, LV.S, LV.nil, Nat.reduceEqDiff, Nat.reduceAdd, Nat.reduceMul, Nat.reduceSub, Nat.reduceLeDiff, Nat.reduceBEq, Nat.reduceDiv, Nat.reduceMod, Int.reduceToNat, Int.reduceLT, Int.reduceLE, Int.reduceAdd, Int.reduceSub, Int.reduceMul, Int.reduceEq, Int.reduceNeg, reduceCtorEq, resV, resAll, ARes.ev, LV.flat, ite_true, ite_false, exists_eq_left', exists_eq_left, keyOf, implies_true, fillC, capOf]
    exact cmp_drop rfl
  | succ f ih =>
    intro l t M hf hl hn hin h
    refine calls_run K.spec_l9Dominoes rfl ?_
    cases l with
    | nil =>
      rw [dom_nil]
      simp (disch := omega) only [C.spec_l9Dominoes, ↓SXd, SXu, slBounds, ↓sop, ↓aop, ↓reduceIte, LV.cells, AOp.dst, LV.I, LV.B, LV.U, LV.S, LV.nil, Nat.reduceEqDiff, Nat.reduceAdd, Nat.reduceMul, Nat.reduceSub, Nat.reduceLeDiff, Nat.reduceBEq, Nat.reduceDiv, Nat.reduceMod, Int.reduceToNat, Int.reduceLT, Int.reduceLE, Int.reduceAdd, Int.reduceSub, Int.reduceMul, Int.reduceEq, Int.reduceNeg, reduceCtorEq, resV, resAll, ARes.ev, LV.flat, ite_true, ite_false, exists_eq_left', exists_eq_left, keyOf, implies_true, fillC, capOf]
      exact cmp_drop rfl
    | cons c l =>
      have hl18 : l.length + 1 ≤ 18 := by simp at hl; omega
      have hne : ¬ (((c :: l).length : Nat) : Int) = 0 := by rw [List.length_cons]; omega
      have h0 : (0 : Int) < ((c :: l).length : Nat) := by rw [List.length_cons]; omega
      have hc := hin c (by simp)
      rw [List.nodup_cons] at hn
      have hg := Tri.get (M := M ++ [some (.row [.I x, .I y, .I z, .ref t 0 (c :: l).length] true 0)]) h.app (k := 0) (by simp)
      rw [Nat.zero_mul, Nat.zero_add, List.getD_cons_zero] at hg
      rw [dom_near]
      generalize hL : (c :: l).length = n at *
      have hLn : l.length + 1 = n := by rw [← hL, List.length_cons]
      simp (disch := omega) only [C.spec_l9Dominoes, hne, h0, hg, Cell.row, Nat.zero_mul, ↓SXd, SXu, slBounds, ↓sop, ↓aop, ↓reduceIte, LV.cells, AOp.dst, LV.I, LV.B, LV.U, LV.S, LV.nil, Nat.reduceEqDiff, Nat.reduceAdd, Nat.reduceMul, Nat.reduceSub, Nat.reduceLeDiff, Nat.reduceBEq, Nat.reduceDiv, Nat.reduceMod, Int.reduceToNat, Int.reduceLT, Int.reduceLE, Int.reduceAdd, Int.reduceSub, Int.reduceMul, Int.reduceEq, Int.reduceNeg, reduceCtorEq, resV, resAll, ARes.ev, LV.flat, ite_true, ite_false, exists_eq_left', exists_eq_left, keyOf, implies_true, fillC, capOf]
      have hnear := h_l2Near (x := x) (y := y) (z := z) (cs := c :: l) (M := M ++ [some (.row [.I x, .I y, .I z, .ref t 0 n] true 0), some (.row [.I c.a, .I c.b, .I c.c] true 0)]) h.app (by omega) hin hc
      rw [near_cons, hL] at hnear
      refine callK_of hnear ?_
      have hnl := List.length_filter_le (fun d => decide (apart d c = 1)) l
      have hsub : ∀ d ∈ l.filter (fun d => decide (apart d c = 1)), d ∈ l := fun d hd => (List.mem_filter.1 hd).1
      generalize (l.filter fun d => decide (apart d c = 1)) = nr at hnl hsub ⊢
      simp (disch := omega) only [↓SXd, SXu, slBounds, ↓sop, ↓aop, ↓reduceIte, LV.cells, AOp.dst, LV.I, LV.B, LV.U, LV.S, LV.nil, Nat.reduceEqDiff, Nat.reduceAdd, Nat.reduceMul, Nat.reduceSub, Nat.reduceLeDiff, Nat.reduceBEq, Nat.reduceDiv, Nat.reduceMod, Int.reduceToNat, Int.reduceLT, Int.reduceLE, Int.reduceAdd, Int.reduceSub, Int.reduceMul, Int.reduceEq, Int.reduceNeg, reduceCtorEq, resV, resAll, ARes.ev, LV.flat, ite_true, ite_false, exists_eq_left', exists_eq_left, keyOf, implies_true, fillC, capOf]
      refine ev_loop (fun m fr M' => ∃ i : Nat, i + m = nr.length ∧ Pre M M' ∧ Live M' M.length (.row [.I x, .I y, .I z, .ref t 0 n] true 0) ∧ Live M' (M.length + 1) (.row [.I c.a, .I c.b, .I c.c] true 0) ∧ Live M' (M.length + 2) (.row (triL nr) true 3) ∧
        fr 1 = .ptr M.length 0 ∧ fr 3 = .I (sumD (nr.take i) (fun d => domL f (delC l d)) : Nat) ∧ fr 4 = .ptr (M.length + 1) 0 ∧ fr 5 = .ref (M.length + 2) 0 nr.length ∧ fr 6 = .I i) nr.length
        ⟨0, by omega, Pre.app _ _, Live.new, Live.newj rfl, Live.newj rfl, rfl, rfl, rfl, rfl, rfl⟩ ?_
      rintro m fr M' ⟨i, hi, hpre, b1, b4, b5, f1, f3, f4, f5, f6⟩
      simp (disch := omega) only [f1, f3, f4, f5, f6, ↓SXd, SXu, slBounds, ↓sop, ↓aop, ↓reduceIte, LV.cells, AOp.dst, LV.I, LV.B, LV.U, LV.S, LV.nil, Nat.reduceEqDiff, Nat.reduceAdd, Nat.reduceMul, Nat.reduceSub, Nat.reduceLeDiff, Nat.reduceBEq, Nat.reduceDiv, Nat.reduceMod, Int.reduceToNat, Int.reduceLT, Int.reduceLE, Int.reduceAdd, Int.reduceSub, Int.reduceMul, Int.reduceEq, Int.reduceNeg, reduceCtorEq, resV, resAll, ARes.ev, LV.flat, ite_true, ite_false, exists_eq_left', exists_eq_left, keyOf, implies_true, fillC, capOf]
      refine condC_dec (fun hlt => ?_) (fun hlt => ?_)
      · have hil : i < nr.length := by omega
        have hci := b5.tri0 hil
        have hcm := hsub _ (getD_mem' (d := default) hil)
        have hts : nr.take (i + 1) = nr.take i ++ [nr.getD i default] := take_snoc' hil
        generalize nr.getD i default = d at hci hcm hts
        have hsb : sumD (nr.take i) (fun d => domL f (delC l d)) ≤ 17 * 198359290368 := by
          refine Nat.le_trans (sumD_le (b := 198359290368) fun e he => dom_bound ?_ (by omega)) (Nat.mul_le_mul_right _ ?_)
          · have := List.length_filter_le (fun g => !decide (g = e)) l; unfold delC; omega
          · have h2 : (nr.take i).length = i := by simp; omega
            omega
        have hdb : domL f (delC l d) ≤ 198359290368 := dom_bound (by have := List.length_filter_le (fun g => !decide (g = d)) l; unfold delC; omega) (by omega)
        have hw1 := h_l2Without (x := x) (y := y) (z := z) (a := c.a) (b := c.b) (c := c.c) (h.pre hpre) (by omega)
        have e1 : (c :: l).filter (fun e => !decide (e = ⟨c.a, c.b, c.c⟩)) = l := del_self hn.1
        rw [e1, hL] at hw1
        have hdl := del_len hn.2 hcm
        have hin2 : ∀ e ∈ delC l d, e.inBox 4 4 4 := fun e he => hin e (List.mem_cons_of_mem _ (mem_del.1 he).1)
        have hnd2 := del_nodup (d := d) hn.2
        have hw2 := fun {Z : Mem} {u : Nat} (k : Tri Z u 0 l) => h_l2Without (x := x) (y := y) (z := z) (a := d.a) (b := d.b) (c := d.c) k (by omega)
        have e2 : l.filter (fun e => !decide (e = ⟨d.a, d.b, d.c⟩)) = delC l d := rfl
        simp only [e2] at hw2
        have hrec := fun {Z : Mem} {u : Nat} (k : Tri Z u 0 (delC l d)) => ih (by omega) (by omega) hnd2 hin2 k
        generalize hst : sumD (nr.take i) (fun d => domL f (delC l d)) = s0 at f3 hsb
        generalize hrv : domL f (delC l d) = r0 at hdb hrec
        simp (disch := omega) only [f1, f3, f4, f5, f6, b1.cells, b4.cells, hci, Cell.row, ↓SXd, SXu, slBounds, ↓sop, ↓aop, ↓reduceIte, LV.cells, AOp.dst, LV.I, LV.B, LV.U, LV.S, LV.nil, Nat.reduceEqDiff, Nat.reduceAdd, Nat.reduceMul, Nat.reduceSub, Nat.reduceLeDiff, Nat.reduceBEq, Nat.reduceDiv, Nat.reduceMod, Int.reduceToNat, Int.reduceLT, Int.reduceLE, Int.reduceAdd, Int.reduceSub, Int.reduceMul, Int.reduceEq, Int.reduceNeg, reduceCtorEq, resV, resAll, ARes.ev, LV.flat, ite_true, ite_false, exists_eq_left', exists_eq_left, keyOf, implies_true, fillC, capOf]
        refine callK_of hw1 ?_
        simp (disch := omega) only [f1, f3, f4, f5, f6, ↓SXd, SXu, slBounds, ↓sop, ↓aop, ↓reduceIte, LV.cells, AOp.dst, LV.I, LV.B, LV.U, LV.S, LV.nil, Nat.reduceEqDiff, Nat.reduceAdd, Nat.reduceMul, Nat.reduceSub, Nat.reduceLeDiff, Nat.reduceBEq, Nat.reduceDiv, Nat.reduceMod, Int.reduceToNat, Int.reduceLT, Int.reduceLE, Int.reduceAdd, Int.reduceSub, Int.reduceMul, Int.reduceEq, Int.reduceNeg, reduceCtorEq, resV, resAll, ARes.ev, LV.flat, ite_true, ite_false, exists_eq_left', exists_eq_left, keyOf, implies_true, fillC, capOf]
        refine callK_of (hw2 Has.new) ?_
        simp (disch := omega) only [f1, f3, f4, f5, f6, ↓SXd, SXu, slBounds, ↓sop, ↓aop, ↓reduceIte, LV.cells, AOp.dst, LV.I, LV.B, LV.U, LV.S, LV.nil, Nat.reduceEqDiff, Nat.reduceAdd, Nat.reduceMul, Nat.reduceSub, Nat.reduceLeDiff, Nat.reduceBEq, Nat.reduceDiv, Nat.reduceMod, Int.reduceToNat, Int.reduceLT, Int.reduceLE, Int.reduceAdd, Int.reduceSub, Int.reduceMul, Int.reduceEq, Int.reduceNeg, reduceCtorEq, resV, resAll, ARes.ev, LV.flat, ite_true, ite_false, exists_eq_left', exists_eq_left, keyOf, implies_true, fillC, capOf]
        refine callK_of (hrec (Live.newj (j := 1) (b := .row (triL (delC l d)) true 3) rfl).has) ?_
        simp (disch := omega) only [f1, f3, f4, f5, f6, ↓SXd, SXu, slBounds, ↓sop, ↓aop, ↓reduceIte, LV.cells, AOp.dst, LV.I, LV.B, LV.U, LV.S, LV.nil, Nat.reduceEqDiff, Nat.reduceAdd, Nat.reduceMul, Nat.reduceSub, Nat.reduceLeDiff, Nat.reduceBEq, Nat.reduceDiv, Nat.reduceMod, Int.reduceToNat, Int.reduceLT, Int.reduceLE, Int.reduceAdd, Int.reduceSub, Int.reduceMul, Int.reduceEq, Int.reduceNeg, reduceCtorEq, resV, resAll, ARes.ev, LV.flat, ite_true, ite_false, exists_eq_left', exists_eq_left, keyOf, implies_true, fillC, capOf]
        refine ⟨m - 1, by omega, i + 1, by omega, hpre.app', b1.app, b4.app, b5.app, f1, ?_, f4, f5, eqI (natI _)⟩
        rw [hts, sumD_snoc, hst, hrv]
        exact eqI (by simp)
      · have : i = nr.length := by omega
        subst this
        rw [List.take_length] at f3
        simp (disch := omega) only [f1, f3, f4, f5, f6, ↓SXd, SXu, slBounds, ↓sop, ↓aop, ↓reduceIte, LV.cells, AOp.dst, LV.I, LV.B, LV.U, LV.S, LV.nil, Nat.reduceEqDiff, Nat.reduceAdd, Nat.reduceMul, Nat.reduceSub, Nat.reduceLeDiff, Nat.reduceBEq, Nat.reduceDiv, Nat.reduceMod, Int.reduceToNat, Int.reduceLT, Int.reduceLE, Int.reduceAdd, Int.reduceSub, Int.reduceMul, Int.reduceEq, Int.reduceNeg, reduceCtorEq, resV, resAll, ARes.ev, LV.flat, ite_true, ite_false, exists_eq_left', exists_eq_left, keyOf, implies_true, fillC, capOf]
        exact cmp_pre hpre rfl
theorem h_sCountDominoes {x y z : Int} {t o : Nat} {cs : List Cell} {M : Mem} (h : Tri M t o cs) (hn : cs.length ≤ 1000000000) :
    CallsTo PG F.spec_CountDominoes [.agg [.I x, .I y, .I z, .ref t o cs.length]] M (.tup [.I ((cdOf x y z cs).getD 0), .B (cdOf x y z cs).isSome]) M := by
  refine calls_run K.spec_CountDominoes rfl ?_
  simp (disch := omega) only [C.spec_CountDominoes, ↓SXd, SXu, slBounds, ↓sop, ↓aop, ↓reduceIte, LV.cells, AOp.dst, LV.I, LV.B, LV.U, LV.S, LV.nil, Nat.reduceEqDiff, Nat.reduceAdd, Nat.reduceMul, Nat.reduceSub, Nat.reduceLeDiff, Nat.reduceBEq, Nat.reduceDiv, Nat.reduceMod, Int.reduceToNat, Int.reduceLT, Int.reduceLE, Int.reduceAdd, Int.reduceSub, Int.reduceMul, Int.reduceEq, Int.reduceNeg, reduceCtorEq, resV, resAll, ARes.ev, LV.flat, ite_true, ite_false, exists_eq_left', exists_eq_left, keyOf, implies_true, fillC, capOf]
  refine callK_of (h_l2Heap h.app hn) ?_
  simp (disch := omega) only [↓SXd, SXu, slBounds, ↓sop, ↓aop, ↓reduceIte, LV.cells, AOp.dst, LV.I, LV.B, LV.U, LV.S, LV.nil, Nat.reduceEqDiff, Nat.reduceAdd, Nat.reduceMul, Nat.reduceSub, Nat.reduceLeDiff, Nat.reduceBEq, Nat.reduceDiv, Nat.reduceMod, Int.reduceToNat, Int.reduceLT, Int.reduceLE, Int.reduceAdd, Int.reduceSub, Int.reduceMul, Int.reduceEq, Int.reduceNeg, reduceCtorEq, resV, resAll, ARes.ev, LV.flat, ite_true, ite_false, exists_eq_left', exists_eq_left, keyOf, implies_true, fillC, capOf]
  by_cases hH : HeapOK x y z cs
  rotate_left
  · rw [show cdOf x y z cs = none from if_neg fun e => hH e.1]
    simp (disch := omega) only [hH, ↓SXd, SXu, slBounds, ↓sop, ↓aop, ↓reduceIte, LV.cells, AOp.dst, LV.I, LV.B, LV.U, LV.S, LV.nil, Nat.reduceEqDiff, Nat.reduceAdd, Nat.reduceMul, Nat.reduceSub, Nat.reduceLeDiff, Nat.reduceBEq, Nat.reduceDiv, Nat.reduceMod, Int.reduceToNat, Int.reduceLT, Int.reduceLE, Int.reduceAdd, Int.reduceSub, Int.reduceMul, Int.reduceEq, Int.reduceNeg, reduceCtorEq, resV, resAll, ARes.ev, LV.flat, ite_true, ite_false, exists_eq_left', exists_eq_left, keyOf, implies_true, fillC, capOf]
    exact cmp_drop rfl
  have hfr := fun {Z : Mem} (k : Pre M Z) => h_l9Free (h.pre k) hH
  change ∀ {Z : Mem}, Pre M Z → CallsTo PG F.spec_l9Free [.agg [.I x, .I y, .I z, .ref t o cs.length]] Z (.agg [.I x, .I y, .I z, .ref Z.length 0 (freeL x y z cs).length]) (Z ++ [some (.row (triL (freeL x y z cs)) true 3)]) at hfr
  have hfl : (freeL x y z cs).length ≤ 64 := pick_len hH.1 _
  simp (disch := omega) only [hH, ↓SXd, SXu, slBounds, ↓sop, ↓aop, ↓reduceIte, LV.cells, AOp.dst, LV.I, LV.B, LV.U, LV.S, LV.nil, Nat.reduceEqDiff, Nat.reduceAdd, Nat.reduceMul, Nat.reduceSub, Nat.reduceLeDiff, Nat.reduceBEq, Nat.reduceDiv, Nat.reduceMod, Int.reduceToNat, Int.reduceLT, Int.reduceLE, Int.reduceAdd, Int.reduceSub, Int.reduceMul, Int.reduceEq, Int.reduceNeg, reduceCtorEq, resV, resAll, ARes.ev, LV.flat, ite_true, ite_false, exists_eq_left', exists_eq_left, keyOf, implies_true, fillC, capOf]
  refine callK_of (hfr (Pre.app _ _)) ?_
  by_cases h18 : (freeL x y z cs).length ≤ 18
  rotate_left
  · rw [show cdOf x y z cs = none from if_neg fun e => h18 e.2]
    have h18' : (18 : Int) < ((freeL x y z cs).length : Nat) := by omega
    simp (disch := omega) only [hH, h18', splice, ↓SXd, SXu, slBounds, ↓sop, ↓aop, ↓reduceIte, LV.cells, AOp.dst, LV.I, LV.B, LV.U, LV.S, LV.nil, Nat.reduceEqDiff, Nat.reduceAdd, Nat.reduceMul, Nat.reduceSub, Nat.reduceLeDiff, Nat.reduceBEq, Nat.reduceDiv, Nat.reduceMod, Int.reduceToNat, Int.reduceLT, Int.reduceLE, Int.reduceAdd, Int.reduceSub, Int.reduceMul, Int.reduceEq, Int.reduceNeg, reduceCtorEq, resV, resAll, ARes.ev, LV.flat, ite_true, ite_false, exists_eq_left', exists_eq_left, keyOf, implies_true, fillC, capOf]
    exact cmp_drop rfl
  have h18' : ¬ (18 : Int) < ((freeL x y z cs).length : Nat) := by omega
  rw [show cdOf x y z cs = some (domL 9 (freeL x y z cs) : Nat) from if_pos ⟨hH, h18⟩]
  simp (disch := omega) only [hH, h18', splice, ↓SXd, SXu, slBounds, ↓sop, ↓aop, ↓reduceIte, LV.cells, AOp.dst, LV.I, LV.B, LV.U, LV.S, LV.nil, Nat.reduceEqDiff, Nat.reduceAdd, Nat.reduceMul, Nat.reduceSub, Nat.reduceLeDiff, Nat.reduceBEq, Nat.reduceDiv, Nat.reduceMod, Int.reduceToNat, Int.reduceLT, Int.reduceLE, Int.reduceAdd, Int.reduceSub, Int.reduceMul, Int.reduceEq, Int.reduceNeg, reduceCtorEq, resV, resAll, ARes.ev, LV.flat, ite_true, ite_false, exists_eq_left', exists_eq_left, keyOf, implies_true, fillC, capOf]
  refine callK_of (hfr (Pre.app _ _)) ?_
  simp (disch := omega) only [↓SXd, SXu, slBounds, ↓sop, ↓aop, ↓reduceIte, LV.cells, AOp.dst, LV.I, LV.B, LV.U, LV.S, LV.nil, Nat.reduceEqDiff, Nat.reduceAdd, Nat.reduceMul, Nat.reduceSub, Nat.reduceLeDiff, Nat.reduceBEq, Nat.reduceDiv, Nat.reduceMod, Int.reduceToNat, Int.reduceLT, Int.reduceLE, Int.reduceAdd, Int.reduceSub, Int.reduceMul, Int.reduceEq, Int.reduceNeg, reduceCtorEq, resV, resAll, ARes.ev, LV.flat, ite_true, ite_false, exists_eq_left', exists_eq_left, keyOf, implies_true, fillC, capOf]
  refine callK_of (h_l9Dominoes 9 (by omega) (by omega) (free_nodup hH.1) (fun c hc => box4 hH.1 (free_in hH.1 hc)) (Live.newj (j := 2) (b := .row (triL (freeL x y z cs)) true 3) rfl).has) ?_
  simp (disch := omega) only [↓SXd, SXu, slBounds, ↓sop, ↓aop, ↓reduceIte, LV.cells, AOp.dst, LV.I, LV.B, LV.U, LV.S, LV.nil, Nat.reduceEqDiff, Nat.reduceAdd, Nat.reduceMul, Nat.reduceSub, Nat.reduceLeDiff, Nat.reduceBEq, Nat.reduceDiv, Nat.reduceMod, Int.reduceToNat, Int.reduceLT, Int.reduceLE, Int.reduceAdd, Int.reduceSub, Int.reduceMul, Int.reduceEq, Int.reduceNeg, reduceCtorEq, resV, resAll, ARes.ev, LV.flat, ite_true, ite_false, exists_eq_left', exists_eq_left, keyOf, implies_true, fillC, capOf]
  exact cmp_drop rfl

section
variable {x y z : Int} (hS : Sides x y z) {pb pc : Nat}
include hS
theorem pick_lone {c : Cell} (hc : c.inBox x y z) : pick x y z (fun d => decide (d = c)) = [c] := by
  refine sorted_ext (pick_sorted hS _) (by simp) fun d => ?_
  rw [mem_pick hS, decide_eq_true_eq, List.mem_singleton]
  exact ⟨fun h => h.2, fun h => ⟨h ▸ hc, h⟩⟩
theorem pick_near {p : Cell → Bool} {c : Cell} : pick x y z (fun d => decide (apart c d = 1) && p d) = (pick x y z p).filter fun d => decide (apart d c = 1) := by
  unfold pick
  rw [List.filter_filter]
  exact List.filter_congr fun d _ => by rw [apart_comm]
theorem pick_del {p : Cell → Bool} {c : Cell} : pick x y z (fun d => p d && !decide (d = c)) = delC (pick x y z p) c := by
  unfold pick delC
  rw [List.filter_filter]
  exact List.filter_congr fun d _ => Bool.and_comm _ _
theorem g_CountDominoes_1 : ∀ (f : Nat) {p : Cell → Bool} {M : Mem}, f ≤ 9 → (pick x y z p).length ≤ 2 * f → Live M pb (.row [.I x, .I y, .I z] true 0) → Live M pc (.row [.clo F.impl_CountDominoes_1 [(pb, 0), (pc, 0)]] true 0) →
    CallsTo PG F.impl_CountDominoes_1 [.W (bs x y z p), .ptr pb 0, .ptr pc 0] M (.I (domL f (pick x y z p) : Nat)) M := by
  intro f
  induction f with
  | zero =>
    intro p M _ hl b1 b2
    have hnil : pick x y z p = [] := List.eq_nil_of_length_eq_zero (by omega)
    have hz : bs x y z p = 0#64 := (bs_zero hS).2 fun c hc => by
      cases hpc : p c with
      | false => rfl
      | true => have := (mem_pick hS).2 ⟨hc, hpc⟩; rw [hnil] at this; cases this
    refine calls_run K.impl_CountDominoes_1 rfl ?_
    rw [hnil, dom_nil]
    simp (disch := omega) only [C.impl_CountDominoes_1, hz, ↓SXd, SXu, slBounds, ↓sop, ↓aop, ↓reduceIte, LV.cells, AOp.dst, LV.I, LV.B, LV.U, LV.S, LV.nil, Nat.reduceEqDiff, Nat.reduceAdd, Nat.reduceMul, Nat.reduceSub, Nat.reduceLeDiff, Nat.reduceBEq, Nat.reduceDiv, Nat.reduceMod, Int.reduceToNat, Int.reduceLT, Int.reduceLE, Int.reduceAdd, Int.reduceSub, Int.reduceMul, Int.reduceEq, Int.reduceNeg, reduceCtorEq, resV, resAll, ARes.ev, LV.flat, ite_true, ite_false, exists_eq_left', exists_eq_left, keyOf, implies_true, fillC, capOf]
    exact cmp_drop0 rfl
  | succ f ih =>
    intro p M hf hl b1 b2
    refine calls_run K.impl_CountDominoes_1 rfl ?_
    cases hpk : pick x y z p with
    | nil =>
      have hz : bs x y z p = 0#64 := (bs_zero hS).2 fun c hc => by
        cases hpc : p c with
        | false => rfl
        | true => have := (mem_pick hS).2 ⟨hc, hpc⟩; rw [hpk] at this; cases this
      rw [dom_nil]
      simp (disch := omega) only [C.impl_CountDominoes_1, hz, ↓SXd, SXu, slBounds, ↓sop, ↓aop, ↓reduceIte, LV.cells, AOp.dst, LV.I, LV.B, LV.U, LV.S, LV.nil, Nat.reduceEqDiff, Nat.reduceAdd, Nat.reduceMul, Nat.reduceSub, Nat.reduceLeDiff, Nat.reduceBEq, Nat.reduceDiv, Nat.reduceMod, Int.reduceToNat, Int.reduceLT, Int.reduceLE, Int.reduceAdd, Int.reduceSub, Int.reduceMul, Int.reduceEq, Int.reduceNeg, reduceCtorEq, resV, resAll, ARes.ev, LV.flat, ite_true, ite_false, exists_eq_left', exists_eq_left, keyOf, implies_true, fillC, capOf]
      exact cmp_drop0 rfl
    | cons c l =>
      obtain ⟨hc, hpc⟩ := (mem_pick hS).1 (show c ∈ pick x y z p by rw [hpk]; simp)
      have hnd := (pick_ok hS p).nodup
      have hso := pick_sorted hS p
      rw [hpk] at hnd hso hl
      rw [List.nodup_cons] at hnd
      obtain ⟨hltc, hsol⟩ := List.pairwise_cons.1 hso
      have hl18 : l.length + 1 ≤ 18 := by simp at hl; omega
      have hne : ¬ bs x y z p = 0#64 := fun e => by
        have := (bs_zero hS).1 e c hc
        rw [hpc] at this; cases this
      have hlow : ∀ d, d.inBox x y z → p d = true → ¬ d.lt c := fun d hd hpd hl => by
        have hm := (mem_pick hS).2 ⟨hd, hpd⟩
        rw [hpk] at hm
        rcases List.mem_cons.1 hm with rfl | hm
        · exact Cell.lt_irrefl _ hl
        · exact Cell.lt_irrefl _ (Cell.lt_trans hl (hltc d hm))
      have hone := bs_low hS hc hpc hlow
      have hlist := fun {Z : Mem} => g_list (p := fun d => decide (d = c)) (M := Z) hS
      rw [pick_lone hS hc] at hlist
      change ∀ {Z : Mem}, CallsTo PG F.impl_box_list _ Z (.ref Z.length 0 1) (Z ++ [some (.row [.I c.a, .I c.b, .I c.c] true 3)]) at hlist
      have hnear := fun {Z : Mem} => g_nearSet (M := Z) hS hc
      have hand := bs_and hS (fun d => decide (apart c d = 1)) p
      have hpn := pick_near hS (p := p) (c := c)
      rw [hpk, near_cons] at hpn
      rw [dom_near]
      have hnl := List.length_filter_le (fun d => decide (apart d c = 1)) l
      have hsub : ∀ d ∈ l.filter (fun d => decide (apart d c = 1)), d ∈ l := fun d hd => (List.mem_filter.1 hd).1
      have hson : (l.filter fun d => decide (apart d c = 1)).Pairwise Cell.lt := hsol.filter _
      have hbn : bs x y z (fun d => decide (apart c d = 1) && p d) = bs x y z fun d => decide (d ∈ l.filter fun d => decide (apart d c = 1)) := (bs_eq hS).2 fun d hd => by
        rw [Bool.eq_iff_iff, decide_eq_true_iff, ← hpn, mem_pick hS]
        exact ⟨fun h => ⟨hd, h⟩, fun h => h.2⟩
      have hinl : ∀ d ∈ l, d.inBox x y z := fun d hd => ((mem_pick hS).1 (show d ∈ pick x y z p by rw [hpk]; simp [hd])).1
      generalize (l.filter fun d => decide (apart d c = 1)) = nr at hnl hsub hson hbn ⊢
      simp (disch := omega) only [C.impl_CountDominoes_1, hne, hone, b1.cells, ↓SXd, SXu, slBounds, ↓sop, ↓aop, ↓reduceIte, LV.cells, AOp.dst, LV.I, LV.B, LV.U, LV.S, LV.nil, Nat.reduceEqDiff, Nat.reduceAdd, Nat.reduceMul, Nat.reduceSub, Nat.reduceLeDiff, Nat.reduceBEq, Nat.reduceDiv, Nat.reduceMod, Int.reduceToNat, Int.reduceLT, Int.reduceLE, Int.reduceAdd, Int.reduceSub, Int.reduceMul, Int.reduceEq, Int.reduceNeg, reduceCtorEq, resV, resAll, ARes.ev, LV.flat, ite_true, ite_false, exists_eq_left', exists_eq_left, keyOf, implies_true, fillC, capOf]
      refine callK_of hlist ?_
      simp (disch := omega) only [b1.cells, ↓SXd, SXu, slBounds, ↓sop, ↓aop, ↓reduceIte, LV.cells, AOp.dst, LV.I, LV.B, LV.U, LV.S, LV.nil, Nat.reduceEqDiff, Nat.reduceAdd, Nat.reduceMul, Nat.reduceSub, Nat.reduceLeDiff, Nat.reduceBEq, Nat.reduceDiv, Nat.reduceMod, Int.reduceToNat, Int.reduceLT, Int.reduceLE, Int.reduceAdd, Int.reduceSub, Int.reduceMul, Int.reduceEq, Int.reduceNeg, reduceCtorEq, resV, resAll, ARes.ev, LV.flat, ite_true, ite_false, exists_eq_left', exists_eq_left, keyOf, implies_true, fillC, capOf]
      refine callK_of hnear ?_
      simp (disch := omega) only [hand, hbn, ↓SXd, SXu, slBounds, ↓sop, ↓aop, ↓reduceIte, LV.cells, AOp.dst, LV.I, LV.B, LV.U, LV.S, LV.nil, Nat.reduceEqDiff, Nat.reduceAdd, Nat.reduceMul, Nat.reduceSub, Nat.reduceLeDiff, Nat.reduceBEq, Nat.reduceDiv, Nat.reduceMod, Int.reduceToNat, Int.reduceLT, Int.reduceLE, Int.reduceAdd, Int.reduceSub, Int.reduceMul, Int.reduceEq, Int.reduceNeg, reduceCtorEq, resV, resAll, ARes.ev, LV.flat, ite_true, ite_false, exists_eq_left', exists_eq_left, keyOf, implies_true, fillC, capOf]
      refine ev_loop (fun m fr M' => ∃ (done todo : List Cell), nr = done ++ todo ∧ todo.length = m ∧ Pre M M' ∧
        fr 0 = .W (bs x y z p) ∧ fr 1 = .ptr pb 0 ∧ fr 2 = .ptr pc 0 ∧ fr 5 = .W (bs x y z fun d => decide (d = c)) ∧ fr 6 = .I (sumD done (fun d => domL f (delC l d)) : Nat) ∧ fr 7 = .W (bs x y z fun d => decide (d ∈ todo))) nr.length
        ⟨[], nr, rfl, rfl, Pre.app _ _, rfl, rfl, rfl, rfl, rfl, rfl⟩ ?_
      rintro m fr M' ⟨done, todo, hdt, htm, hpre, f0, f1, f2, f5, f6, f7⟩
      cases todo with
      | nil =>
        have hz : bs x y z (fun d => decide (d ∈ ([] : List Cell))) = 0#64 := (bs_zero hS).2 fun c hc => by simp
        rw [List.append_nil] at hdt
        rw [hdt]
        simp (disch := omega) only [f0, f1, f2, f5, f6, f7, hz, ↓SXd, SXu, slBounds, ↓sop, ↓aop, ↓reduceIte, LV.cells, AOp.dst, LV.I, LV.B, LV.U, LV.S, LV.nil, Nat.reduceEqDiff, Nat.reduceAdd, Nat.reduceMul, Nat.reduceSub, Nat.reduceLeDiff, Nat.reduceBEq, Nat.reduceDiv, Nat.reduceMod, Int.reduceToNat, Int.reduceLT, Int.reduceLE, Int.reduceAdd, Int.reduceSub, Int.reduceMul, Int.reduceEq, Int.reduceNeg, reduceCtorEq, resV, resAll, ARes.ev, LV.flat, ite_true, ite_false, exists_eq_left', exists_eq_left, keyOf, implies_true, fillC, capOf]
        exact cmp_pre hpre rfl
      | cons d rest =>
        have hdm : d ∈ l := hsub d (by rw [hdt]; simp)
        have hdi := hinl d hdm
        have hso2 : (d :: rest).Pairwise Cell.lt := by
          rw [hdt] at hson; exact (List.pairwise_append.1 hson).2.1
        obtain ⟨hlt, hso3⟩ := List.pairwise_cons.1 hso2
        have hlow2 : ∀ e, e.inBox x y z → decide (e ∈ d :: rest) = true → ¬ e.lt d := fun e _ hd hl => by
          rw [decide_eq_true_iff] at hd
          rcases List.mem_cons.1 hd with rfl | hd
          · exact Cell.lt_irrefl _ hl
          · exact Cell.lt_irrefl _ (Cell.lt_trans hl (hlt e hd))
        have hl1 := bs_low hS (p := fun e => decide (e ∈ d :: rest)) hdi (by simp) hlow2
        have hl2 := bs_clear hS (p := fun e => decide (e ∈ d :: rest)) hdi (by simp) hlow2
        have hl3 : (bs x y z fun e => decide (e ∈ d :: rest) && !decide (e = d)) = bs x y z fun e => decide (e ∈ rest) := (bs_eq hS).2 fun e _ => by
          rw [Bool.eq_iff_iff]
          simp only [Bool.and_eq_true, decide_eq_true_eq, Bool.not_eq_true', decide_eq_false_iff_not, List.mem_cons]
          exact ⟨fun h => h.1.resolve_left h.2, fun h => ⟨.inr h, fun e2 => Cell.lt_irrefl _ (by have := hlt e h; rwa [e2] at this)⟩⟩
        rw [hl3] at hl2
        have hne2 : ¬ bs x y z (fun e => decide (e ∈ d :: rest)) = 0#64 := fun e => by
          have := (bs_zero hS).1 e d hdi
          simp at this
        have hdf := bs_diff hS p fun e => decide (e = c)
        have hdf2 := bs_diff hS (fun e => p e && !decide (e = c)) fun e => decide (e = d)
        have hpd : pick x y z (fun e => (p e && !decide (e = c)) && !decide (e = d)) = delC l d := by
          rw [pick_del hS, pick_del hS, hpk, del_self hnd.1]
        have hdl := del_len hnd.2 hdm
        have hrec := ih (p := fun e => (p e && !decide (e = c)) && !decide (e = d)) (M := M') (by omega) (by rw [hpd]; simp at hl; omega) (b1.pre hpre) (b2.pre hpre)
        rw [hpd] at hrec
        have hlen2 : done.length + rest.length + 1 = nr.length := by rw [hdt, List.length_append, List.length_cons]; omega
        have hsb : sumD done (fun d => domL f (delC l d)) ≤ 17 * 198359290368 := by
          refine Nat.le_trans (sumD_le (b := 198359290368) fun e he => dom_bound ?_ (by omega)) (Nat.mul_le_mul_right _ (by omega))
          have := List.length_filter_le (fun g => !decide (g = e)) l; unfold delC; omega
        have hdb : domL f (delC l d) ≤ 198359290368 := dom_bound (by have := List.length_filter_le (fun g => !decide (g = d)) l; unfold delC; omega) (by omega)
        generalize hst : sumD done (fun d => domL f (delC l d)) = s0 at f6 hsb
        generalize hrv : domL f (delC l d) = r0 at hdb hrec
        generalize bs x y z (fun e => decide (e ∈ d :: rest)) = B at *
        simp (disch := omega) only [f0, f1, f2, f5, f6, f7, hne2, (b2.pre hpre).cell, hl1, hdf, hdf2, ↓SXd, SXu, slBounds, ↓sop, ↓aop, ↓reduceIte, LV.cells, AOp.dst, LV.I, LV.B, LV.U, LV.S, LV.nil, Nat.reduceEqDiff, Nat.reduceAdd, Nat.reduceMul, Nat.reduceSub, Nat.reduceLeDiff, Nat.reduceBEq, Nat.reduceDiv, Nat.reduceMod, Int.reduceToNat, Int.reduceLT, Int.reduceLE, Int.reduceAdd, Int.reduceSub, Int.reduceMul, Int.reduceEq, Int.reduceNeg, reduceCtorEq, resV, resAll, ARes.ev, LV.flat, ite_true, ite_false, exists_eq_left', exists_eq_left, keyOf, implies_true, fillC, capOf]
        refine callK_of hrec ?_
        simp (disch := omega) only [f0, f1, f2, f5, f6, f7, hl2, ↓SXd, SXu, slBounds, ↓sop, ↓aop, ↓reduceIte, LV.cells, AOp.dst, LV.I, LV.B, LV.U, LV.S, LV.nil, Nat.reduceEqDiff, Nat.reduceAdd, Nat.reduceMul, Nat.reduceSub, Nat.reduceLeDiff, Nat.reduceBEq, Nat.reduceDiv, Nat.reduceMod, Int.reduceToNat, Int.reduceLT, Int.reduceLE, Int.reduceAdd, Int.reduceSub, Int.reduceMul, Int.reduceEq, Int.reduceNeg, reduceCtorEq, resV, resAll, ARes.ev, LV.flat, ite_true, ite_false, exists_eq_left', exists_eq_left, keyOf, implies_true, fillC, capOf]
        refine ⟨rest.length, by rw [← htm]; simp, done ++ [d], rest, by rw [hdt]; simp, rfl, hpre, f0, f1, f2, f5, ?_, rfl⟩
        rw [sumD_snoc, hst, hrv]
        exact eqI (by simp)
end
theorem g_CountDominoes {x y z : Int} {t o : Nat} {cs : List Cell} {M : Mem} (h : Tri M t o cs) (hn : cs.length ≤ 1000000000) :
    CallsTo PG F.impl_CountDominoes [.agg [.I x, .I y, .I z, .ref t o cs.length]] M (.tup [.I ((cdOf x y z cs).getD 0), .B (cdOf x y z cs).isSome]) M := by
  refine calls_run K.impl_CountDominoes rfl ?_
  simp (disch := omega) only [C.impl_CountDominoes, ↓SXd, SXu, slBounds, ↓sop, ↓aop, ↓reduceIte, LV.cells, AOp.dst, LV.I, LV.B, LV.U, LV.S, LV.nil, Nat.reduceEqDiff, Nat.reduceAdd, Nat.reduceMul, Nat.reduceSub, Nat.reduceLeDiff, Nat.reduceBEq, Nat.reduceDiv, Nat.reduceMod, Int.reduceToNat, Int.reduceLT, Int.reduceLE, Int.reduceAdd, Int.reduceSub, Int.reduceMul, Int.reduceEq, Int.reduceNeg, reduceCtorEq, resV, resAll, ARes.ev, LV.flat, ite_true, ite_false, exists_eq_left', exists_eq_left, keyOf, implies_true, fillC, capOf]
  refine callK_of (g_IsHeap h.app hn) ?_
  simp (disch := omega) only [↓SXd, SXu, slBounds, ↓sop, ↓aop, ↓reduceIte, LV.cells, AOp.dst, LV.I, LV.B, LV.U, LV.S, LV.nil, Nat.reduceEqDiff, Nat.reduceAdd, Nat.reduceMul, Nat.reduceSub, Nat.reduceLeDiff, Nat.reduceBEq, Nat.reduceDiv, Nat.reduceMod, Int.reduceToNat, Int.reduceLT, Int.reduceLE, Int.reduceAdd, Int.reduceSub, Int.reduceMul, Int.reduceEq, Int.reduceNeg, reduceCtorEq, resV, resAll, ARes.ev, LV.flat, ite_true, ite_false, exists_eq_left', exists_eq_left, keyOf, implies_true, fillC, capOf]
  by_cases hH : HeapOK x y z cs
  rotate_left
  · rw [show cdOf x y z cs = none from if_neg fun e => hH e.1]
    simp (disch := omega) only [hH, ↓SXd, SXu, slBounds, ↓sop, ↓aop, ↓reduceIte, LV.cells, AOp.dst, LV.I, LV.B, LV.U, LV.S, LV.nil, Nat.reduceEqDiff, Nat.reduceAdd, Nat.reduceMul, Nat.reduceSub, Nat.reduceLeDiff, Nat.reduceBEq, Nat.reduceDiv, Nat.reduceMod, Int.reduceToNat, Int.reduceLT, Int.reduceLE, Int.reduceAdd, Int.reduceSub, Int.reduceMul, Int.reduceEq, Int.reduceNeg, reduceCtorEq, resV, resAll, ARes.ev, LV.flat, ite_true, ite_false, exists_eq_left', exists_eq_left, keyOf, implies_true, fillC, capOf]
    exact cmp_drop rfl
  have hS := hH.1
  have hfr := fun {Z : Mem} (k : Pre M Z) => g_free (h.pre k) hH
  have hfl : (freeL x y z cs).length ≤ 64 := pick_len hH.1 _
  have hcnt := fun {Z : Mem} => g_countB (p := freeP cs) (M := Z) hS
  change ∀ {Z : Mem}, CallsTo PG F.impl_set_count [.W (bs x y z (freeP cs))] Z (.I (((freeL x y z cs).length : Nat) : Int)) Z at hcnt
  simp (disch := omega) only [hH, ↓SXd, SXu, slBounds, ↓sop, ↓aop, ↓reduceIte, LV.cells, AOp.dst, LV.I, LV.B, LV.U, LV.S, LV.nil, Nat.reduceEqDiff, Nat.reduceAdd, Nat.reduceMul, Nat.reduceSub, Nat.reduceLeDiff, Nat.reduceBEq, Nat.reduceDiv, Nat.reduceMod, Int.reduceToNat, Int.reduceLT, Int.reduceLE, Int.reduceAdd, Int.reduceSub, Int.reduceMul, Int.reduceEq, Int.reduceNeg, reduceCtorEq, resV, resAll, ARes.ev, LV.flat, ite_true, ite_false, exists_eq_left', exists_eq_left, keyOf, implies_true, fillC, capOf]
  refine callK_of (hfr (Pre.app _ _)) ?_
  simp (disch := omega) only [↓SXd, SXu, slBounds, ↓sop, ↓aop, ↓reduceIte, LV.cells, AOp.dst, LV.I, LV.B, LV.U, LV.S, LV.nil, Nat.reduceEqDiff, Nat.reduceAdd, Nat.reduceMul, Nat.reduceSub, Nat.reduceLeDiff, Nat.reduceBEq, Nat.reduceDiv, Nat.reduceMod, Int.reduceToNat, Int.reduceLT, Int.reduceLE, Int.reduceAdd, Int.reduceSub, Int.reduceMul, Int.reduceEq, Int.reduceNeg, reduceCtorEq, resV, resAll, ARes.ev, LV.flat, ite_true, ite_false, exists_eq_left', exists_eq_left, keyOf, implies_true, fillC, capOf]
  refine callK_of hcnt ?_
  by_cases h18 : (freeL x y z cs).length ≤ 18
  rotate_left
  · rw [show cdOf x y z cs = none from if_neg fun e => h18 e.2]
    have h18' : (18 : Int) < ((freeL x y z cs).length : Nat) := by omega
    simp (disch := omega) only [hH, h18', splice, ↓SXd, SXu, slBounds, ↓sop, ↓aop, ↓reduceIte, LV.cells, AOp.dst, LV.I, LV.B, LV.U, LV.S, LV.nil, Nat.reduceEqDiff, Nat.reduceAdd, Nat.reduceMul, Nat.reduceSub, Nat.reduceLeDiff, Nat.reduceBEq, Nat.reduceDiv, Nat.reduceMod, Int.reduceToNat, Int.reduceLT, Int.reduceLE, Int.reduceAdd, Int.reduceSub, Int.reduceMul, Int.reduceEq, Int.reduceNeg, reduceCtorEq, resV, resAll, ARes.ev, LV.flat, ite_true, ite_false, exists_eq_left', exists_eq_left, keyOf, implies_true, fillC, capOf]
    exact cmp_drop rfl
  have h18' : ¬ (18 : Int) < ((freeL x y z cs).length : Nat) := by omega
  rw [show cdOf x y z cs = some (domL 9 (freeL x y z cs) : Nat) from if_pos ⟨hH, h18⟩]
  simp (disch := omega) only [hH, h18', splice, ↓SXd, SXu, slBounds, ↓sop, ↓aop, ↓reduceIte, LV.cells, AOp.dst, LV.I, LV.B, LV.U, LV.S, LV.nil, Nat.reduceEqDiff, Nat.reduceAdd, Nat.reduceMul, Nat.reduceSub, Nat.reduceLeDiff, Nat.reduceBEq, Nat.reduceDiv, Nat.reduceMod, Int.reduceToNat, Int.reduceLT, Int.reduceLE, Int.reduceAdd, Int.reduceSub, Int.reduceMul, Int.reduceEq, Int.reduceNeg, reduceCtorEq, resV, resAll, ARes.ev, LV.flat, ite_true, ite_false, exists_eq_left', exists_eq_left, keyOf, implies_true, fillC, capOf]
  refine callK_of g_box ?_
  simp (disch := omega) only [↓SXd, SXu, slBounds, ↓sop, ↓aop, ↓reduceIte, LV.cells, AOp.dst, LV.I, LV.B, LV.U, LV.S, LV.nil, Nat.reduceEqDiff, Nat.reduceAdd, Nat.reduceMul, Nat.reduceSub, Nat.reduceLeDiff, Nat.reduceBEq, Nat.reduceDiv, Nat.reduceMod, Int.reduceToNat, Int.reduceLT, Int.reduceLE, Int.reduceAdd, Int.reduceSub, Int.reduceMul, Int.reduceEq, Int.reduceNeg, reduceCtorEq, resV, resAll, ARes.ev, LV.flat, ite_true, ite_false, exists_eq_left', exists_eq_left, keyOf, implies_true, fillC, capOf]
  refine callK_of (hfr (Pre.app _ _)) ?_
  simp (disch := omega) only [↓SXd, SXu, slBounds, ↓sop, ↓aop, ↓reduceIte, LV.cells, AOp.dst, LV.I, LV.B, LV.U, LV.S, LV.nil, Nat.reduceEqDiff, Nat.reduceAdd, Nat.reduceMul, Nat.reduceSub, Nat.reduceLeDiff, Nat.reduceBEq, Nat.reduceDiv, Nat.reduceMod, Int.reduceToNat, Int.reduceLT, Int.reduceLE, Int.reduceAdd, Int.reduceSub, Int.reduceMul, Int.reduceEq, Int.reduceNeg, reduceCtorEq, resV, resAll, ARes.ev, LV.flat, ite_true, ite_false, exists_eq_left', exists_eq_left, keyOf, implies_true, fillC, capOf]
  refine callK_of (g_CountDominoes_1 (p := freeP cs) hS 9 (by omega) (show (freeL x y z cs).length ≤ 2 * 9 by omega) (Live.newj (j := 1) rfl) (Live.newj (j := 2) rfl)) ?_
  simp (disch := omega) only [↓SXd, SXu, slBounds, ↓sop, ↓aop, ↓reduceIte, LV.cells, AOp.dst, LV.I, LV.B, LV.U, LV.S, LV.nil, Nat.reduceEqDiff, Nat.reduceAdd, Nat.reduceMul, Nat.reduceSub, Nat.reduceLeDiff, Nat.reduceBEq, Nat.reduceDiv, Nat.reduceMod, Int.reduceToNat, Int.reduceLT, Int.reduceLE, Int.reduceAdd, Int.reduceSub, Int.reduceMul, Int.reduceEq, Int.reduceNeg, reduceCtorEq, resV, resAll, ARes.ev, LV.flat, ite_true, ite_false, exists_eq_left', exists_eq_left, keyOf, implies_true, fillC, capOf]
  exact cmp_drop rfl
end Go.Ab

/- Contracts: the most pairs of neighbors (program: a closure that calls itself, two maps). -/
namespace Go.Ab
open Go
set_option linter.unusedSimpArgs false
set_option linter.unusedVariables false
set_option maxRecDepth 20000

/-- A map from numbers, in the order of its entries. -/
def entN (L : List (Nat × LV)) : List (LV × LV) := L.map fun q => (.I (q.1 : Nat), q.2)
def lkN : List (Nat × LV) → Nat → Option LV
  | [], _ => none
  | q :: L, o => if o = q.1 then some q.2 else lkN L o
def putN : List (Nat × LV) → Nat → LV → List (Nat × LV)
  | [], o, v => [(o, v)]
  | q :: L, o, v => if o = q.1 then (o, v) :: L else q :: putN L o v
theorem keyI {a b : Nat} : keyEq (.I (a : Nat)) (.I (b : Nat)) = some (decide (a = b)) := by
  show (if IntKind.i64 = IntKind.i64 then some (((a : Nat) : Int) == ((b : Nat) : Int)) else none) = _
  rw [if_pos rfl, Option.some_inj, Bool.eq_iff_iff, beq_iff_eq, decide_eq_true_iff]
  omega
theorem find_ent {o : Nat} : ∀ {L : List (Nat × LV)}, findE (.I (o : Nat)) (entN L) = some (lkN L o)
  | [] => rfl
  | q :: L => by
    show findE _ ((LV.I (q.1 : Nat), q.2) :: entN L) = _
    unfold findE lkN
    rw [keyI]
    by_cases h : o = q.1
    · rw [decide_eq_true h, if_pos h]
    · rw [decide_eq_false h, if_neg h]; exact find_ent
theorem put_ent {o : Nat} {v : LV} : ∀ {L : List (Nat × LV)}, putE (.I (o : Nat)) v (entN L) = some (entN (putN L o v))
  | [] => rfl
  | q :: L => by
    show putE _ _ ((LV.I (q.1 : Nat), q.2) :: entN L) = _
    unfold putE putN
    rw [keyI]
    by_cases h : o = q.1
    · rw [decide_eq_true h, if_pos h]; rfl
    · rw [decide_eq_false h, if_neg h]; simp only [put_ent (L := L)]; rfl
theorem lk_put {o i : Nat} {v : LV} : ∀ {L : List (Nat × LV)}, lkN (putN L o v) i = if i = o then some v else lkN L i
  | [] => by unfold putN lkN lkN; rfl
  | q :: L => by
    unfold putN
    by_cases h : o = q.1
    · rw [if_pos h]
      unfold lkN
      by_cases e : i = o
      · rw [if_pos e, if_pos e]
      · rw [if_neg e, if_neg e, if_neg (show ¬ i = q.1 by omega)]
    · rw [if_neg h]
      unfold lkN
      by_cases e : i = q.1
      · rw [if_pos e, if_pos e, if_neg (show ¬ i = o by omega)]
      · rw [if_neg e, if_neg e]; exact lk_put
theorem look_ent {M : Mem} {t o : Nat} {L : List (Nat × LV)} (h : Live M t (.map (entN L))) : lookM 0 (.mp t) (.val (.int .i64 (o : Nat))) M = some (lkN L o) := by
  unfold lookM
  simp only [show M[t]? = some (some (.map (entN L))) from h]
  rw [if_pos (by rfl)]
  exact find_ent
theorem memN_put {M : Mem} {t o : Nat} {v : LV} {L : List (Nat × LV)} {A : Mem → Prop} (h : Live M t (.map (entN L))) (hv : v.one = true)
    (hA : ∀ N, N.length = M.length → Live N t (.map (entN (putN L o v))) → (∀ u, u ≠ t → u < M.length → N[u]? = M[u]?) → A N) : memK (putM 0 (.mp t) (.val (.int .i64 (o : Nat))) v M) A := by
  have e : putM 0 (.mp t) (.val (.int .i64 (o : Nat))) v M = some (M.set t (some (.map (entN (putN L o v))))) := by
    unfold putM
    simp only [show M[t]? = some (some (.map (entN L))) from h]
    rw [if_pos (by rw [hv]; rfl)]
    have := put_ent (o := o) (v := v) (L := L)
    unfold LV.I at this
    rw [this]; rfl
  rw [e]
  exact hA _ (by simp) h.set_eq fun u hu _ => List.getElem?_set_ne (fun e => hu e.symm)
def RepP (L : List (Nat × LV)) (p : Nat → Option Nat) : Prop := ∀ o, lkN L o = (p o).map fun e => .I (e : Nat)
def RepS (L : List (Nat × LV)) (s : Nat → Bool) : Prop := ∀ o, lkN L o = if s o then some (.B true) else none
theorem RepP.put {L : List (Nat × LV)} {p : Nat → Option Nat} {o e : Nat} (h : RepP L p) : RepP (putN L o (.I (e : Nat))) (updP p o (some e)) := fun i => by
  rw [lk_put]
  by_cases q : i = o
  · subst q; rw [if_pos rfl, updP_at]; rfl
  · rw [if_neg q, updP_ne q]; exact h i
theorem RepS.put {L : List (Nat × LV)} {s : Nat → Bool} {o : Nat} (h : RepS L s) : RepS (putN L o (.B true)) (updP s o true) := fun i => by
  rw [lk_put]
  by_cases q : i = o
  · subst q; rw [if_pos rfl, updP_at]; rfl
  · rw [if_neg q, updP_ne q]; exact h i
section
variable {x y z : Int} {cs : List Cell} (hS : Sides x y z)
include hS
theorem pick_nb {c : Cell} : pick x y z (fun d => decide (apart c d = 1) && freeP cs d) = nbF x y z cs c := pick_near hS
/-- What the closure has captured. -/
def JEnv (x y z : Int) (cs : List Cell) (pb pf pp pj tm : Nat) (M : Mem) : Prop :=
  Live M pb (.row [.I x, .I y, .I z] true 0) ∧ Live M pf (.row [.W (bs x y z (freeP cs))] true 0) ∧ Live M pp (.row [.mp tm] true 0) ∧ Live M pj (.row [.clo F.impl_MostDominoes_1 [(pb, 0), (pf, 0), (pp, 0), (pj, 0)]] true 0)
omit hS in
theorem JEnv.frm {pb pf pp pj tm tt : Nat} {M N : Mem} (h : JEnv x y z cs pb pf pp pj tm M) (k : FrmL [tm, tt] M N) (h1 : pb ≠ tm ∧ pf ≠ tm ∧ pp ≠ tm ∧ pj ≠ tm) (h2 : pb ≠ tt ∧ pf ≠ tt ∧ pp ≠ tt ∧ pj ≠ tt) : JEnv x y z cs pb pf pp pj tm N :=
  ⟨h.1.frmL k (by simp; omega), h.2.1.frmL k (by simp; omega), h.2.2.1.frmL k (by simp; omega), h.2.2.2.frmL k (by simp; omega)⟩
theorem g_join {pb pf pp pj tm tt : Nat} (h1 : pb ≠ tm ∧ pf ≠ tm ∧ pp ≠ tm ∧ pj ≠ tm) (h2 : pb ≠ tt ∧ pf ≠ tt ∧ pp ≠ tt ∧ pj ≠ tt) (h3 : tm ≠ tt) : ∀ (f : Nat) {c : Cell} {k : KS} {L S : List (Nat × LV)} {M : Mem}, c ∈ freeL x y z cs → evB c = true → ValP (nbN x y z cs) (evN x y z cs) k.p → unS (vol x y z) k.s < f →
    JEnv x y z cs pb pf pp pj tm M → Live M tm (.map (entN L)) → RepP L k.p → Live M tt (.map (entN S)) → RepS S k.s →
    CallsR PG F.impl_MostDominoes_1 [.I (ixN y z c : Nat), .mp tt, .ptr pb 0, .ptr pf 0, .ptr pp 0, .ptr pj 0] M fun v M' => v = .B (joinN (nbN x y z cs) f (ixN y z c) k).1 ∧ FrmL [tm, tt] M M' ∧
      ∃ L' S', Live M' tm (.map (entN L')) ∧ RepP L' (joinN (nbN x y z cs) f (ixN y z c) k).2.p ∧ Live M' tt (.map (entN S')) ∧ RepS S' (joinN (nbN x y z cs) f (ixN y z c) k).2.s := by
  intro f
  induction f with
  | zero => intro c k L S M _ _ _ h; omega
  | succ f ih =>
    intro c k L S M hc hev hV hu hE hL hRL hSn hRS
    have hci := free_in hS hc
    have hv := vol_cast hS
    have hfl : (freeL x y z cs).length ≤ 64 := pick_len hS _
    have hce : ixN y z c ∈ evN x y z cs := (mem_evN hS).2 ⟨c, hc, hev, rfl⟩
    have hjr : joinN (nbN x y z cs) (f + 1) (ixN y z c) k = joinL (joinN (nbN x y z cs) f) (ixN y z c) ((nbF x y z cs c).map (ixN y z)) k := by
      show joinL _ _ (nbN x y z cs (ixN y z c)) k = _
      rw [nbN_ix hS hci]
    have hnbl : (nbF x y z cs c).length ≤ (freeL x y z cs).length := List.length_filter_le _ _
    have hnbm : ∀ d ∈ nbF x y z cs c, d ∈ freeL x y z cs ∧ ixN y z d ∈ nbN x y z cs (ixN y z c) := fun d hd => by
      have h1 := List.mem_filter.1 hd
      exact ⟨h1.1, (mem_nbN hS hci).2 ⟨d, h1.1, of_decide_eq_true h1.2, rfl⟩⟩
    rw [hjr]
    obtain ⟨e1, e2, e3, e4⟩ := id hE
    have e1l := e1.lt
    have e2l := e2.lt
    have e3l := e3.lt
    have e4l := e4.lt
    have hLl := hL.lt
    have hSl := hSn.lt
    obtain ⟨hcn, hcc⟩ := ix_lt hS hci
    have hcell := fun {Z : Mem} => g_cell (x := x) (y := y) (z := z) (i := ((ixN y z c : Nat) : Int)) (M := Z) hS (by omega) (by omega)
    rw [hcc] at hcell
    have hand := bs_and hS (fun d => decide (apart c d = 1)) (freeP cs)
    have hlist := fun {Z : Mem} => g_list (p := fun d => decide (apart c d = 1) && freeP cs d) (M := Z) hS
    rw [pick_nb hS] at hlist
    generalize hnr : nbF x y z cs c = nr at hnbl hnbm hlist ⊢
    refine callsR_run K.impl_MostDominoes_1 rfl ?_
    simp (disch := omega) only [C.impl_MostDominoes_1, e1.cells, e2.cell, ↓SXd, SXu, slBounds, ↓sop, ↓aop, ↓reduceIte, LV.cells, AOp.dst, LV.I, LV.B, LV.U, LV.S, LV.nil, Nat.reduceEqDiff, Nat.reduceAdd, Nat.reduceMul, Nat.reduceSub, Nat.reduceLeDiff, Nat.reduceBEq, Nat.reduceDiv, Nat.reduceMod, Int.reduceToNat, Int.reduceLT, Int.reduceLE, Int.reduceAdd, Int.reduceSub, Int.reduceMul, Int.reduceEq, Int.reduceNeg, reduceCtorEq, resV, resAll, ARes.ev, LV.flat, ite_true, ite_false, exists_eq_left', exists_eq_left, keyOf, implies_true, fillC, capOf]
    refine callK_of hcell ?_
    simp (disch := omega) only [↓SXd, SXu, slBounds, ↓sop, ↓aop, ↓reduceIte, LV.cells, AOp.dst, LV.I, LV.B, LV.U, LV.S, LV.nil, Nat.reduceEqDiff, Nat.reduceAdd, Nat.reduceMul, Nat.reduceSub, Nat.reduceLeDiff, Nat.reduceBEq, Nat.reduceDiv, Nat.reduceMod, Int.reduceToNat, Int.reduceLT, Int.reduceLE, Int.reduceAdd, Int.reduceSub, Int.reduceMul, Int.reduceEq, Int.reduceNeg, reduceCtorEq, resV, resAll, ARes.ev, LV.flat, ite_true, ite_false, exists_eq_left', exists_eq_left, keyOf, implies_true, fillC, capOf]
    refine callK_of (g_nearSet hS hci) ?_
    simp (disch := omega) only [hand, ↓SXd, SXu, slBounds, ↓sop, ↓aop, ↓reduceIte, LV.cells, AOp.dst, LV.I, LV.B, LV.U, LV.S, LV.nil, Nat.reduceEqDiff, Nat.reduceAdd, Nat.reduceMul, Nat.reduceSub, Nat.reduceLeDiff, Nat.reduceBEq, Nat.reduceDiv, Nat.reduceMod, Int.reduceToNat, Int.reduceLT, Int.reduceLE, Int.reduceAdd, Int.reduceSub, Int.reduceMul, Int.reduceEq, Int.reduceNeg, reduceCtorEq, resV, resAll, ARes.ev, LV.flat, ite_true, ite_false, exists_eq_left', exists_eq_left, keyOf, implies_true, fillC, capOf]
    refine callK_of hlist ?_
    simp (disch := omega) only [↓SXd, SXu, slBounds, ↓sop, ↓aop, ↓reduceIte, LV.cells, AOp.dst, LV.I, LV.B, LV.U, LV.S, LV.nil, Nat.reduceEqDiff, Nat.reduceAdd, Nat.reduceMul, Nat.reduceSub, Nat.reduceLeDiff, Nat.reduceBEq, Nat.reduceDiv, Nat.reduceMod, Int.reduceToNat, Int.reduceLT, Int.reduceLE, Int.reduceAdd, Int.reduceSub, Int.reduceMul, Int.reduceEq, Int.reduceNeg, reduceCtorEq, resV, resAll, ARes.ev, LV.flat, ite_true, ite_false, exists_eq_left', exists_eq_left, keyOf, implies_true, fillC, capOf]
    refine ev_loop (fun m fr M' => ∃ (i : Nat) (ki : KS) (L S : List (Nat × LV)), i + m = nr.length ∧ joinL (joinN (nbN x y z cs) f) (ixN y z c) (nr.map (ixN y z)) k = joinL (joinN (nbN x y z cs) f) (ixN y z c) ((nr.drop i).map (ixN y z)) ki ∧ ValP (nbN x y z cs) (evN x y z cs) ki.p ∧ unS (vol x y z) ki.s < f + 1 ∧ FrmL [tm, tt] M M' ∧
      JEnv x y z cs pb pf pp pj tm M' ∧ Live M' M.length (.row (triL nr) true 3) ∧ Live M' tm (.map (entN L)) ∧ RepP L ki.p ∧ Live M' tt (.map (entN S)) ∧ RepS S ki.s ∧
      fr 0 = .I (ixN y z c : Nat) ∧ fr 1 = .mp tt ∧ fr 2 = .ptr pb 0 ∧ fr 3 = .ptr pf 0 ∧ fr 4 = .ptr pp 0 ∧ fr 5 = .ptr pj 0 ∧ fr 22 = .ref M.length 0 nr.length ∧ fr 23 = .I nr.length ∧ fr 24 = .I i) nr.length
      ⟨0, k, L, S, by omega, rfl, hV, hu, FrmL.of (Pre.app _ _), ⟨e1.app, e2.app, e3.app, e4.app⟩, Live.new, hL.app, hRL, hSn.app, hRS, rfl, rfl, rfl, rfl, rfl, rfl, rfl, rfl, rfl⟩ ?_
    clear hand hlist hcell hnr hE e1 e2 e3 e4 hL hRL hSn hRS L S
    rintro m fr M' ⟨i, ki, L, S, hi, hj, hVi, hui, hfr, hE, b9, hL, hRL, hSn, hRS, f0, f1, f2, f3, f4, f5, f22, f23, f24⟩
    obtain ⟨e1, e2, e3, e4⟩ := id hE
    simp (disch := omega) only [f0, f1, f2, f3, f4, f5, f22, f23, f24, ↓SXd, SXu, slBounds, ↓sop, ↓aop, ↓reduceIte, LV.cells, AOp.dst, LV.I, LV.B, LV.U, LV.S, LV.nil, Nat.reduceEqDiff, Nat.reduceAdd, Nat.reduceMul, Nat.reduceSub, Nat.reduceLeDiff, Nat.reduceBEq, Nat.reduceDiv, Nat.reduceMod, Int.reduceToNat, Int.reduceLT, Int.reduceLE, Int.reduceAdd, Int.reduceSub, Int.reduceMul, Int.reduceEq, Int.reduceNeg, reduceCtorEq, resV, resAll, ARes.ev, LV.flat, ite_true, ite_false, exists_eq_left', exists_eq_left, keyOf, implies_true, fillC, capOf]
    refine condC_dec (fun hlt => ?_) (fun hlt => ?_)
    rotate_left
    · have : i = nr.length := by omega
      subst this
      rw [List.drop_length, List.map_nil] at hj
      rw [hj]
      simp (disch := omega) only [f0, f1, f2, f3, f4, f5, f22, f23, f24, ↓SXd, SXu, slBounds, ↓sop, ↓aop, ↓reduceIte, LV.cells, AOp.dst, LV.I, LV.B, LV.U, LV.S, LV.nil, Nat.reduceEqDiff, Nat.reduceAdd, Nat.reduceMul, Nat.reduceSub, Nat.reduceLeDiff, Nat.reduceBEq, Nat.reduceDiv, Nat.reduceMod, Int.reduceToNat, Int.reduceLT, Int.reduceLE, Int.reduceAdd, Int.reduceSub, Int.reduceMul, Int.reduceEq, Int.reduceNeg, reduceCtorEq, resV, resAll, ARes.ev, LV.flat, ite_true, ite_false, exists_eq_left', exists_eq_left, keyOf, implies_true, fillC, capOf]
      exact ⟨rfl, hfr, L, S, hL, hRL, hSn, hRS⟩
    have hil : i < nr.length := by omega
    have hdr : nr.drop i = nr.getD i default :: nr.drop (i + 1) := by
      rw [List.drop_eq_getElem_cons hil]; simp [hil]
    have hgd := b9.tri0 hil
    obtain ⟨hdm, hdn⟩ := hnbm _ (getD_mem' (d := default) hil)
    rw [hdr, List.map_cons] at hj
    generalize nr.getD i default = d at hgd hdm hdn hj
    have hdi := free_in hS hdm
    obtain ⟨hon, hcd⟩ := ix_lt hS hdi
    have hpl : ∀ {Z : Mem}, CallsTo PG F.impl_box_index [.agg [.I x, .I y, .I z], .agg [.I d.a, .I d.b, .I d.c]] Z (.I (ixN y z d : Nat)) Z := fun {Z} => by
      have := g_index (M := Z) hS hdi
      rwa [ix_cast hS hdi] at this
    rw [joinL_cons] at hj
    generalize ixN y z d = o at hon hdn hpl hj
    have hl9 := b9.lt
    have l1 := e1.lt
    have l2 := e2.lt
    have l3 := e3.lt
    have l4 := e4.lt
    have hLl' := hL.lt
    have hSl' := hSn.lt
    have hlk := look_ent (o := o) (hSn.app (L := [some (.row [.I d.a, .I d.b, .I d.c] true 0)]))
    rw [hRS o] at hlk
    have e1a : Live (M' ++ [some (.row [.I d.a, .I d.b, .I d.c] true 0)]) pb (.row [.I x, .I y, .I z] true 0) := e1.app
    simp (disch := omega) only [f0, f1, f2, f3, f4, f5, f22, f23, f24, hgd, Cell.row, e1a.cells, splice, ↓SXd, SXu, slBounds, ↓sop, ↓aop, ↓reduceIte, LV.cells, AOp.dst, LV.I, LV.B, LV.U, LV.S, LV.nil, Nat.reduceEqDiff, Nat.reduceAdd, Nat.reduceMul, Nat.reduceSub, Nat.reduceLeDiff, Nat.reduceBEq, Nat.reduceDiv, Nat.reduceMod, Int.reduceToNat, Int.reduceLT, Int.reduceLE, Int.reduceAdd, Int.reduceSub, Int.reduceMul, Int.reduceEq, Int.reduceNeg, reduceCtorEq, resV, resAll, ARes.ev, LV.flat, ite_true, ite_false, exists_eq_left', exists_eq_left, keyOf, implies_true, fillC, capOf]
    refine callK_of hpl ?_
    simp (disch := omega) only [f0, f1, f2, f3, f4, f5, f22, f23, f24, hlk, ↓SXd, SXu, slBounds, ↓sop, ↓aop, ↓reduceIte, LV.cells, AOp.dst, LV.I, LV.B, LV.U, LV.S, LV.nil, Nat.reduceEqDiff, Nat.reduceAdd, Nat.reduceMul, Nat.reduceSub, Nat.reduceLeDiff, Nat.reduceBEq, Nat.reduceDiv, Nat.reduceMod, Int.reduceToNat, Int.reduceLT, Int.reduceLE, Int.reduceAdd, Int.reduceSub, Int.reduceMul, Int.reduceEq, Int.reduceNeg, reduceCtorEq, resV, resAll, ARes.ev, LV.flat, ite_true, ite_false, exists_eq_left', exists_eq_left, keyOf, implies_true, fillC, capOf]
    by_cases hs : ki.s o = true
    · rw [if_pos hs] at hj
      simp (disch := omega) only [f0, f1, f2, f3, f4, f5, f22, f23, f24, hs, Option.getD_some, if_true, ↓SXd, SXu, slBounds, ↓sop, ↓aop, ↓reduceIte, LV.cells, AOp.dst, LV.I, LV.B, LV.U, LV.S, LV.nil, Nat.reduceEqDiff, Nat.reduceAdd, Nat.reduceMul, Nat.reduceSub, Nat.reduceLeDiff, Nat.reduceBEq, Nat.reduceDiv, Nat.reduceMod, Int.reduceToNat, Int.reduceLT, Int.reduceLE, Int.reduceAdd, Int.reduceSub, Int.reduceMul, Int.reduceEq, Int.reduceNeg, reduceCtorEq, resV, resAll, ARes.ev, LV.flat, ite_true, ite_false, exists_eq_left', exists_eq_left, keyOf, implies_true, fillC, capOf]
      exact ⟨m - 1, by omega, i + 1, ki, L, S, by omega, hj, hVi, hui, hfr.trans (FrmL.of (Pre.app _ _)), ⟨e1.app, e2.app, e3.app, e4.app⟩, b9.app, hL.app, hRL, hSn.app, hRS, f0, f1, f2, f3, f4, f5, f22, f23, eqI (natI _)⟩
    rw [if_neg hs] at hj
    have hs' : ki.s o = false := by simpa using hs
    have huu := unS_upd hon hs'
    simp (disch := omega) only [f0, f1, f2, f3, f4, f5, f22, f23, f24, hs', Option.getD_none, Bool.false_eq_true, if_false, ↓SXd, SXu, slBounds, ↓sop, ↓aop, ↓reduceIte, LV.cells, AOp.dst, LV.I, LV.B, LV.U, LV.S, LV.nil, Nat.reduceEqDiff, Nat.reduceAdd, Nat.reduceMul, Nat.reduceSub, Nat.reduceLeDiff, Nat.reduceBEq, Nat.reduceDiv, Nat.reduceMod, Int.reduceToNat, Int.reduceLT, Int.reduceLE, Int.reduceAdd, Int.reduceSub, Int.reduceMul, Int.reduceEq, Int.reduceNeg, reduceCtorEq, resV, resAll, ARes.ev, LV.flat, ite_true, ite_false, exists_eq_left', exists_eq_left, keyOf, implies_true, fillC, capOf]
    refine memN_put hSn.app rfl fun N1 k1 k2 k3 => ?_
    simp only [List.length_append, List.length_singleton] at k1
    have hRS1 := hRS.put (o := o)
    have hfrx : FrmL [tm, tt] M' N1 := ⟨by omega, fun q q1 q2 => by rw [k3 q (fun e => q2 (by simp [e])) (by simp; omega), List.getElem?_append_left q1]⟩
    have hE1 := hE.frm hfrx h1 h2
    have hfr1 := hfr.trans hfrx
    have c9 := b9.frmL hfrx (by simp; omega)
    have cL := live_step hL.app h3 k3
    obtain ⟨c1, c2, c3, c4⟩ := id hE1
    have hlp := look_ent (o := o) cL
    rw [hRL o] at hlp
    cases hp : ki.p o with
    | none =>
      rw [hp] at hj hlp
      simp only [Option.map_none] at hj hlp
      rw [hj]
      simp (disch := omega) only [f0, f1, f2, f3, f4, f5, f22, f23, f24, c3.cell, hlp, Option.getD_none, Option.isSome_none, ↓SXd, SXu, slBounds, ↓sop, ↓aop, ↓reduceIte, LV.cells, AOp.dst, LV.I, LV.B, LV.U, LV.S, LV.nil, Nat.reduceEqDiff, Nat.reduceAdd, Nat.reduceMul, Nat.reduceSub, Nat.reduceLeDiff, Nat.reduceBEq, Nat.reduceDiv, Nat.reduceMod, Int.reduceToNat, Int.reduceLT, Int.reduceLE, Int.reduceAdd, Int.reduceSub, Int.reduceMul, Int.reduceEq, Int.reduceNeg, reduceCtorEq, resV, resAll, ARes.ev, LV.flat, ite_true, ite_false, exists_eq_left', exists_eq_left, keyOf, implies_true, fillC, capOf]
      refine memN_put (v := .I (ixN y z c : Nat)) cL rfl fun N2 j1 j2 j3 => ?_
      simp (disch := omega) only [f0, f1, f2, f3, f4, f5, f22, f23, f24, ↓SXd, SXu, slBounds, ↓sop, ↓aop, ↓reduceIte, LV.cells, AOp.dst, LV.I, LV.B, LV.U, LV.S, LV.nil, Nat.reduceEqDiff, Nat.reduceAdd, Nat.reduceMul, Nat.reduceSub, Nat.reduceLeDiff, Nat.reduceBEq, Nat.reduceDiv, Nat.reduceMod, Int.reduceToNat, Int.reduceLT, Int.reduceLE, Int.reduceAdd, Int.reduceSub, Int.reduceMul, Int.reduceEq, Int.reduceNeg, reduceCtorEq, resV, resAll, ARes.ev, LV.flat, ite_true, ite_false, exists_eq_left', exists_eq_left, keyOf, implies_true, fillC, capOf]
      exact ⟨rfl, hfr1.trans ⟨by omega, fun q q1 q2 => j3 q (fun e => q2 (by simp [e])) q1⟩, _, _, j2, hRL.put, live_step k2 (fun e => h3 e.symm) j3, hRS1⟩
    | some e2' =>
      rw [hp] at hj hlp
      simp only [Option.map_some] at hj hlp
      obtain ⟨he2, _⟩ := hVi o e2' hp
      obtain ⟨c2', q1, q2, rfl⟩ := (mem_evN hS).1 he2
      have r := joinN_res (nbN_lt hS) f (ixN y z c2') ⟨ki.p, updP ki.s o true⟩ he2 hVi (show unS (vol x y z) (updP ki.s o true) < f by omega)
      have hrec := ih (c := c2') (k := ⟨ki.p, updP ki.s o true⟩) q1 q2 hVi (show unS (vol x y z) (updP ki.s o true) < f by omega) hE1 cL hRL k2 hRS1
      generalize hg : joinN (nbN x y z cs) f (ixN y z c2') ⟨ki.p, updP ki.s o true⟩ = g at r hrec hj
      obtain ⟨b, k2'⟩ := g
      simp only at r hrec hj
      simp (disch := omega) only [f0, f1, f2, f3, f4, f5, f22, f23, f24, c3.cell, hlp, Option.getD_some, Option.isSome_some, c4.cell, ↓SXd, SXu, slBounds, ↓sop, ↓aop, ↓reduceIte, LV.cells, AOp.dst, LV.I, LV.B, LV.U, LV.S, LV.nil, Nat.reduceEqDiff, Nat.reduceAdd, Nat.reduceMul, Nat.reduceSub, Nat.reduceLeDiff, Nat.reduceBEq, Nat.reduceDiv, Nat.reduceMod, Int.reduceToNat, Int.reduceLT, Int.reduceLE, Int.reduceAdd, Int.reduceSub, Int.reduceMul, Int.reduceEq, Int.reduceNeg, reduceCtorEq, resV, resAll, ARes.ev, LV.flat, ite_true, ite_false, exists_eq_left', exists_eq_left, keyOf, implies_true, fillC, capOf]
      refine callR_of hrec ?_
      rintro _ N2 ⟨rfl, hfr2, L2, S2, bL2, bR2, bS2, bT2⟩
      have hfr12 := hfr1.trans hfr2
      have hE2 := hE1.frm hfr2 h1 h2
      have d9 := c9.frmL hfr2 (by simp; omega)
      cases b with
      | true =>
        rw [if_pos rfl] at hj
        rw [hj]
        simp (disch := omega) only [f0, f1, f2, f3, f4, f5, f22, f23, f24, hE2.2.2.1.cell, ↓SXd, SXu, slBounds, ↓sop, ↓aop, ↓reduceIte, LV.cells, AOp.dst, LV.I, LV.B, LV.U, LV.S, LV.nil, Nat.reduceEqDiff, Nat.reduceAdd, Nat.reduceMul, Nat.reduceSub, Nat.reduceLeDiff, Nat.reduceBEq, Nat.reduceDiv, Nat.reduceMod, Int.reduceToNat, Int.reduceLT, Int.reduceLE, Int.reduceAdd, Int.reduceSub, Int.reduceMul, Int.reduceEq, Int.reduceNeg, reduceCtorEq, resV, resAll, ARes.ev, LV.flat, ite_true, ite_false, exists_eq_left', exists_eq_left, keyOf, implies_true, fillC, capOf]
        refine memN_put (v := .I (ixN y z c : Nat)) bL2 rfl fun N3 j1 j2 j3 => ?_
        simp (disch := omega) only [f0, f1, f2, f3, f4, f5, f22, f23, f24, ↓SXd, SXu, slBounds, ↓sop, ↓aop, ↓reduceIte, LV.cells, AOp.dst, LV.I, LV.B, LV.U, LV.S, LV.nil, Nat.reduceEqDiff, Nat.reduceAdd, Nat.reduceMul, Nat.reduceSub, Nat.reduceLeDiff, Nat.reduceBEq, Nat.reduceDiv, Nat.reduceMod, Int.reduceToNat, Int.reduceLT, Int.reduceLE, Int.reduceAdd, Int.reduceSub, Int.reduceMul, Int.reduceEq, Int.reduceNeg, reduceCtorEq, resV, resAll, ARes.ev, LV.flat, ite_true, ite_false, exists_eq_left', exists_eq_left, keyOf, implies_true, fillC, capOf]
        exact ⟨rfl, hfr12.trans ⟨by omega, fun q q1 q2 => j3 q (fun e => q2 (by simp [e])) q1⟩, _, _, j2, bR2.put, live_step bS2 (fun e => h3 e.symm) j3, bT2⟩
      | false =>
        rw [if_neg (by simp)] at hj
        simp (disch := omega) only [f0, f1, f2, f3, f4, f5, f22, f23, f24, ↓SXd, SXu, slBounds, ↓sop, ↓aop, ↓reduceIte, LV.cells, AOp.dst, LV.I, LV.B, LV.U, LV.S, LV.nil, Nat.reduceEqDiff, Nat.reduceAdd, Nat.reduceMul, Nat.reduceSub, Nat.reduceLeDiff, Nat.reduceBEq, Nat.reduceDiv, Nat.reduceMod, Int.reduceToNat, Int.reduceLT, Int.reduceLE, Int.reduceAdd, Int.reduceSub, Int.reduceMul, Int.reduceEq, Int.reduceNeg, reduceCtorEq, resV, resAll, ARes.ev, LV.flat, ite_true, ite_false, exists_eq_left', exists_eq_left, keyOf, implies_true, fillC, capOf]
        exact ⟨m - 1, by omega, i + 1, k2', L2, S2, by omega, hj, r.val, by have := unS_mono (N := vol x y z) r.mono; simp only at this; omega, hfr12, hE2, d9, bL2, bR2, bS2, bT2, f0, f1, f2, f3, f4, f5, f22, f23, eqI (natI _)⟩
end
theorem g_MostDominoes {x y z : Int} {t o : Nat} {cs : List Cell} {M : Mem} (h : Tri M t o cs) (hn : cs.length ≤ 1000000000) :
    CallsR PG F.impl_MostDominoes [.agg [.I x, .I y, .I z, .ref t o cs.length]] M fun v N => v = .tup [.I ((mdOf x y z cs).getD 0), .B (mdOf x y z cs).isSome] ∧ Pre M N := by
  refine callsR_run K.impl_MostDominoes rfl ?_
  simp (disch := omega) only [C.impl_MostDominoes, ↓SXd, SXu, slBounds, ↓sop, ↓aop, ↓reduceIte, LV.cells, AOp.dst, LV.I, LV.B, LV.U, LV.S, LV.nil, Nat.reduceEqDiff, Nat.reduceAdd, Nat.reduceMul, Nat.reduceSub, Nat.reduceLeDiff, Nat.reduceBEq, Nat.reduceDiv, Nat.reduceMod, Int.reduceToNat, Int.reduceLT, Int.reduceLE, Int.reduceAdd, Int.reduceSub, Int.reduceMul, Int.reduceEq, Int.reduceNeg, reduceCtorEq, resV, resAll, ARes.ev, LV.flat, ite_true, ite_false, exists_eq_left', exists_eq_left, keyOf, implies_true, fillC, capOf]
  refine callK_of (g_IsHeap h.app hn) ?_
  simp (disch := omega) only [↓SXd, SXu, slBounds, ↓sop, ↓aop, ↓reduceIte, LV.cells, AOp.dst, LV.I, LV.B, LV.U, LV.S, LV.nil, Nat.reduceEqDiff, Nat.reduceAdd, Nat.reduceMul, Nat.reduceSub, Nat.reduceLeDiff, Nat.reduceBEq, Nat.reduceDiv, Nat.reduceMod, Int.reduceToNat, Int.reduceLT, Int.reduceLE, Int.reduceAdd, Int.reduceSub, Int.reduceMul, Int.reduceEq, Int.reduceNeg, reduceCtorEq, resV, resAll, ARes.ev, LV.flat, ite_true, ite_false, exists_eq_left', exists_eq_left, keyOf, implies_true, fillC, capOf]
  by_cases hH : HeapOK x y z cs
  rotate_left
  · rw [show mdOf x y z cs = none from if_neg hH]
    simp (disch := omega) only [hH, ↓SXd, SXu, slBounds, ↓sop, ↓aop, ↓reduceIte, LV.cells, AOp.dst, LV.I, LV.B, LV.U, LV.S, LV.nil, Nat.reduceEqDiff, Nat.reduceAdd, Nat.reduceMul, Nat.reduceSub, Nat.reduceLeDiff, Nat.reduceBEq, Nat.reduceDiv, Nat.reduceMod, Int.reduceToNat, Int.reduceLT, Int.reduceLE, Int.reduceAdd, Int.reduceSub, Int.reduceMul, Int.reduceEq, Int.reduceNeg, reduceCtorEq, resV, resAll, ARes.ev, LV.flat, ite_true, ite_false, exists_eq_left', exists_eq_left, keyOf, implies_true, fillC, capOf]
    exact ⟨rfl, Pre.app _ _⟩
  rw [show mdOf x y z cs = some ((kuhnF x y z cs).1 : Nat) from if_pos hH]
  have hS := hH.1
  have hv := vol_cast hS
  have hfr := fun {Z : Mem} (k : Pre M Z) => g_free (h.pre k) hH
  have hfl : (freeL x y z cs).length ≤ 64 := pick_len hS _
  have hlist := fun {Z : Mem} => g_list (p := freeP cs) (M := Z) hS
  change ∀ {Z : Mem}, CallsTo PG F.impl_box_list _ Z (.ref Z.length 0 (freeL x y z cs).length) (Z ++ [some (.row (triL (freeL x y z cs)) true 3)]) at hlist
  simp (disch := omega) only [hH, ↓SXd, SXu, slBounds, ↓sop, ↓aop, ↓reduceIte, LV.cells, AOp.dst, LV.I, LV.B, LV.U, LV.S, LV.nil, Nat.reduceEqDiff, Nat.reduceAdd, Nat.reduceMul, Nat.reduceSub, Nat.reduceLeDiff, Nat.reduceBEq, Nat.reduceDiv, Nat.reduceMod, Int.reduceToNat, Int.reduceLT, Int.reduceLE, Int.reduceAdd, Int.reduceSub, Int.reduceMul, Int.reduceEq, Int.reduceNeg, reduceCtorEq, resV, resAll, ARes.ev, LV.flat, ite_true, ite_false, exists_eq_left', exists_eq_left, keyOf, implies_true, fillC, capOf]
  refine callK_of g_box ?_
  simp (disch := omega) only [↓SXd, SXu, slBounds, ↓sop, ↓aop, ↓reduceIte, LV.cells, AOp.dst, LV.I, LV.B, LV.U, LV.S, LV.nil, Nat.reduceEqDiff, Nat.reduceAdd, Nat.reduceMul, Nat.reduceSub, Nat.reduceLeDiff, Nat.reduceBEq, Nat.reduceDiv, Nat.reduceMod, Int.reduceToNat, Int.reduceLT, Int.reduceLE, Int.reduceAdd, Int.reduceSub, Int.reduceMul, Int.reduceEq, Int.reduceNeg, reduceCtorEq, resV, resAll, ARes.ev, LV.flat, ite_true, ite_false, exists_eq_left', exists_eq_left, keyOf, implies_true, fillC, capOf]
  refine callK_of (hfr (Pre.app _ _)) ?_
  simp (disch := omega) only [splice, ↓SXd, SXu, slBounds, ↓sop, ↓aop, ↓reduceIte, LV.cells, AOp.dst, LV.I, LV.B, LV.U, LV.S, LV.nil, Nat.reduceEqDiff, Nat.reduceAdd, Nat.reduceMul, Nat.reduceSub, Nat.reduceLeDiff, Nat.reduceBEq, Nat.reduceDiv, Nat.reduceMod, Int.reduceToNat, Int.reduceLT, Int.reduceLE, Int.reduceAdd, Int.reduceSub, Int.reduceMul, Int.reduceEq, Int.reduceNeg, reduceCtorEq, resV, resAll, ARes.ev, LV.flat, ite_true, ite_false, exists_eq_left', exists_eq_left, keyOf, implies_true, fillC, capOf]
  refine callK_of hlist ?_
  simp (disch := omega) only [↓SXd, SXu, slBounds, ↓sop, ↓aop, ↓reduceIte, LV.cells, AOp.dst, LV.I, LV.B, LV.U, LV.S, LV.nil, Nat.reduceEqDiff, Nat.reduceAdd, Nat.reduceMul, Nat.reduceSub, Nat.reduceLeDiff, Nat.reduceBEq, Nat.reduceDiv, Nat.reduceMod, Int.reduceToNat, Int.reduceLT, Int.reduceLE, Int.reduceAdd, Int.reduceSub, Int.reduceMul, Int.reduceEq, Int.reduceNeg, reduceCtorEq, resV, resAll, ARes.ev, LV.flat, ite_true, ite_false, exists_eq_left', exists_eq_left, keyOf, implies_true, fillC, capOf]
  refine ev_loop (fun m fr M' => ∃ (i : Nat) (L : List (Nat × LV)), i + m = (freeL x y z cs).length ∧ Pre M M' ∧ JEnv x y z cs (M.length + 1) (M.length + 2) (M.length + 4) (M.length + 5) (M.length + 3) M' ∧ Live M' (M.length + 3) (.map (entN L)) ∧ RepP L (kuhnK x y z cs i).2 ∧ Live M' (M.length + 6) (.row (triL (freeL x y z cs)) true 3) ∧
    fr 4 = .ptr (M.length + 1) 0 ∧ fr 5 = .ptr (M.length + 2) 0 ∧ fr 6 = .ptr (M.length + 4) 0 ∧ fr 7 = .ptr (M.length + 5) 0 ∧ fr 8 = .I ((kuhnK x y z cs i).1 : Nat) ∧ fr 22 = .ref (M.length + 6) 0 (freeL x y z cs).length ∧ fr 23 = .I (freeL x y z cs).length ∧ fr 24 = .I i) (freeL x y z cs).length
    ⟨0, [], by omega, Pre.app _ _, ⟨Live.newj rfl, Live.newj rfl, Live.newj rfl, Live.newj rfl⟩, Live.newj rfl, fun _ => rfl, Live.newj rfl, rfl, rfl, rfl, rfl, rfl, rfl, rfl, rfl⟩ ?_
  rintro m fr M' ⟨i, L, hi, hpre, hE, hL, hR, b22, f4, f5, f6, f7, f8, f22, f23, f24⟩
  simp (disch := omega) only [f4, f5, f6, f7, f8, f22, f23, f24, ↓SXd, SXu, slBounds, ↓sop, ↓aop, ↓reduceIte, LV.cells, AOp.dst, LV.I, LV.B, LV.U, LV.S, LV.nil, Nat.reduceEqDiff, Nat.reduceAdd, Nat.reduceMul, Nat.reduceSub, Nat.reduceLeDiff, Nat.reduceBEq, Nat.reduceDiv, Nat.reduceMod, Int.reduceToNat, Int.reduceLT, Int.reduceLE, Int.reduceAdd, Int.reduceSub, Int.reduceMul, Int.reduceEq, Int.reduceNeg, reduceCtorEq, resV, resAll, ARes.ev, LV.flat, ite_true, ite_false, exists_eq_left', exists_eq_left, keyOf, implies_true, fillC, capOf]
  refine condC_dec (fun hlt => ?_) (fun hlt => ?_)
  rotate_left
  · have : i = (freeL x y z cs).length := by omega
    subst this
    rw [kuhnK_all] at f8
    simp (disch := omega) only [f4, f5, f6, f7, f8, f22, f23, f24, ↓SXd, SXu, slBounds, ↓sop, ↓aop, ↓reduceIte, LV.cells, AOp.dst, LV.I, LV.B, LV.U, LV.S, LV.nil, Nat.reduceEqDiff, Nat.reduceAdd, Nat.reduceMul, Nat.reduceSub, Nat.reduceLeDiff, Nat.reduceBEq, Nat.reduceDiv, Nat.reduceMod, Int.reduceToNat, Int.reduceLT, Int.reduceLE, Int.reduceAdd, Int.reduceSub, Int.reduceMul, Int.reduceEq, Int.reduceNeg, reduceCtorEq, resV, resAll, ARes.ev, LV.flat, ite_true, ite_false, exists_eq_left', exists_eq_left, keyOf, implies_true, fillC, capOf]
    exact ⟨rfl, hpre⟩
  have hil : i < (freeL x y z cs).length := by omega
  have hgd := b22.tri0 hil
  have hdm := getD_mem' (d := default) hil
  have hks := kuhnK_succ hil
  obtain ⟨hkv, hkb⟩ := kuhnK_val (cs := cs) hS i
  have hl22 := b22.lt
  obtain ⟨e1, e2, e3, e4⟩ := id hE
  generalize (freeL x y z cs).getD i default = d at hgd hdm hks
  have hdi := free_in hS hdm
  obtain ⟨⟨_, _⟩, ⟨_, _⟩, ⟨_, _⟩⟩ := id (box4 hS hdi)
  have h20 : ¬ ((2 : Int) = 0) := by omega
  have hpl : ∀ {Z : Mem}, CallsTo PG F.impl_box_index [.agg [.I x, .I y, .I z], .agg [.I d.a, .I d.b, .I d.c]] Z (.I (ixN y z d : Nat)) Z := fun {Z} => by
    have := g_index (M := Z) hS hdi
    rwa [ix_cast hS hdi] at this
  have e1a : Live (M' ++ [some (.row [.I d.a, .I d.b, .I d.c] true 0)]) (M.length + 1) (.row [.I x, .I y, .I z] true 0) := e1.app
  have e4a : Live (M' ++ [some (.row [.I d.a, .I d.b, .I d.c] true 0)]) (M.length + 5) (.row [.clo F.impl_MostDominoes_1 [(M.length + 1, 0), (M.length + 2, 0), (M.length + 4, 0), (M.length + 5, 0)]] true 0) := e4.app
  by_cases he : (d.a + d.b + d.c).tmod 2 = 0
  rotate_left
  · rw [if_neg (show ¬ evB d = true from fun w => he (of_decide_eq_true w))] at hks
    simp (disch := omega) only [f4, f5, f6, f7, f8, f22, f23, f24, hgd, Cell.row, splice, ne_eq, h20, not_false_eq_true, he, ↓SXd, SXu, slBounds, ↓sop, ↓aop, ↓reduceIte, LV.cells, AOp.dst, LV.I, LV.B, LV.U, LV.S, LV.nil, Nat.reduceEqDiff, Nat.reduceAdd, Nat.reduceMul, Nat.reduceSub, Nat.reduceLeDiff, Nat.reduceBEq, Nat.reduceDiv, Nat.reduceMod, Int.reduceToNat, Int.reduceLT, Int.reduceLE, Int.reduceAdd, Int.reduceSub, Int.reduceMul, Int.reduceEq, Int.reduceNeg, reduceCtorEq, resV, resAll, ARes.ev, LV.flat, ite_true, ite_false, exists_eq_left', exists_eq_left, keyOf, implies_true, fillC, capOf]
    exact ⟨m - 1, by omega, i + 1, L, by omega, hpre.app', ⟨e1.app, e2.app, e3.app, e4.app⟩, hL.app, by rw [hks]; exact hR, b22.app, f4, f5, f6, f7, by rw [hks]; exact f8, f22, f23, eqI (natI _)⟩
  have hev : evB d = true := decide_eq_true he
  rw [if_pos hev] at hks
  have hMl := hpre.1
  have hrec := g_join (x := x) (y := y) (z := z) (cs := cs) (pb := M.length + 1) (pf := M.length + 2) (pp := M.length + 4) (pj := M.length + 5) (tm := M.length + 3) (tt := M'.length + 1) hS (by omega) (by omega) (by omega) (vol x y z + 1) (c := d) (k := ⟨(kuhnK x y z cs i).2, fun _ => false⟩) (L := L) (S := []) (M := M' ++ [some (.row [.I d.a, .I d.b, .I d.c] true 0), some (.map [])]) hdm hev hkv (unS_all _) ⟨e1.app, e2.app, e3.app, e4.app⟩ hL.app hR (Live.newj rfl) (fun _ => rfl)
  unfold kuhnStep at hks
  generalize joinN (nbN x y z cs) (vol x y z + 1) (ixN y z d) ⟨(kuhnK x y z cs i).2, fun _ => false⟩ = g at hks hrec
  obtain ⟨b, k2⟩ := g
  simp only at hks hrec
  simp (disch := omega) only [f4, f5, f6, f7, f8, f22, f23, f24, hgd, Cell.row, splice, ne_eq, h20, not_false_eq_true, he, e1a.cells, e4a.cell, ↓SXd, SXu, slBounds, ↓sop, ↓aop, ↓reduceIte, LV.cells, AOp.dst, LV.I, LV.B, LV.U, LV.S, LV.nil, Nat.reduceEqDiff, Nat.reduceAdd, Nat.reduceMul, Nat.reduceSub, Nat.reduceLeDiff, Nat.reduceBEq, Nat.reduceDiv, Nat.reduceMod, Int.reduceToNat, Int.reduceLT, Int.reduceLE, Int.reduceAdd, Int.reduceSub, Int.reduceMul, Int.reduceEq, Int.reduceNeg, reduceCtorEq, resV, resAll, ARes.ev, LV.flat, ite_true, ite_false, exists_eq_left', exists_eq_left, keyOf, implies_true, fillC, capOf]
  refine callK_of hpl ?_
  simp (disch := omega) only [f4, f5, f6, f7, f8, f22, f23, f24, ↓SXd, SXu, slBounds, ↓sop, ↓aop, ↓reduceIte, LV.cells, AOp.dst, LV.I, LV.B, LV.U, LV.S, LV.nil, Nat.reduceEqDiff, Nat.reduceAdd, Nat.reduceMul, Nat.reduceSub, Nat.reduceLeDiff, Nat.reduceBEq, Nat.reduceDiv, Nat.reduceMod, Int.reduceToNat, Int.reduceLT, Int.reduceLE, Int.reduceAdd, Int.reduceSub, Int.reduceMul, Int.reduceEq, Int.reduceNeg, reduceCtorEq, resV, resAll, ARes.ev, LV.flat, ite_true, ite_false, exists_eq_left', exists_eq_left, keyOf, implies_true, fillC, capOf]
  refine callR_of hrec ?_
  rintro _ N2 ⟨rfl, hfr2, L2, S2, bL2, bR2, bS2, bT2⟩
  have hNl := hfr2.1
  simp only [List.length_append, List.length_cons, List.length_nil] at hNl
  have hpre2 : Pre M N2 := ⟨by omega, fun q hq => by rw [hfr2.2 q (by simp; omega) (by simp; omega), List.getElem?_append_left (by omega)]; exact hpre.2 q hq⟩
  have d22 := b22.app.frmL hfr2 (by simp; omega)
  have dE : JEnv x y z cs (M.length + 1) (M.length + 2) (M.length + 4) (M.length + 5) (M.length + 3) N2 := JEnv.frm ⟨e1.app, e2.app, e3.app, e4.app⟩ hfr2 (by omega) (by omega)
  cases b with
  | true =>
    rw [if_pos rfl] at hks
    simp (disch := omega) only [f4, f5, f6, f7, f8, f22, f23, f24, he, ↓SXd, SXu, slBounds, ↓sop, ↓aop, ↓reduceIte, LV.cells, AOp.dst, LV.I, LV.B, LV.U, LV.S, LV.nil, Nat.reduceEqDiff, Nat.reduceAdd, Nat.reduceMul, Nat.reduceSub, Nat.reduceLeDiff, Nat.reduceBEq, Nat.reduceDiv, Nat.reduceMod, Int.reduceToNat, Int.reduceLT, Int.reduceLE, Int.reduceAdd, Int.reduceSub, Int.reduceMul, Int.reduceEq, Int.reduceNeg, reduceCtorEq, resV, resAll, ARes.ev, LV.flat, ite_true, ite_false, exists_eq_left', exists_eq_left, keyOf, implies_true, fillC, capOf]
    exact ⟨m - 1, by omega, i + 1, L2, by omega, hpre2, dE, bL2, by rw [hks]; exact bR2, d22, f4, f5, f6, f7, by rw [hks]; exact eqI (by simp), f22, f23, eqI (natI _)⟩
  | false =>
    rw [if_neg (by simp)] at hks
    simp (disch := omega) only [f4, f5, f6, f7, f8, f22, f23, f24, he, ↓SXd, SXu, slBounds, ↓sop, ↓aop, ↓reduceIte, LV.cells, AOp.dst, LV.I, LV.B, LV.U, LV.S, LV.nil, Nat.reduceEqDiff, Nat.reduceAdd, Nat.reduceMul, Nat.reduceSub, Nat.reduceLeDiff, Nat.reduceBEq, Nat.reduceDiv, Nat.reduceMod, Int.reduceToNat, Int.reduceLT, Int.reduceLE, Int.reduceAdd, Int.reduceSub, Int.reduceMul, Int.reduceEq, Int.reduceNeg, reduceCtorEq, resV, resAll, ARes.ev, LV.flat, ite_true, ite_false, exists_eq_left', exists_eq_left, keyOf, implies_true, fillC, capOf]
    exact ⟨m - 1, by omega, i + 1, L2, by omega, hpre2, dE, bL2, by rw [hks]; exact bR2, d22, f4, f5, f6, f7, by rw [hks]; exact f8, f22, f23, eqI (natI _)⟩
end Go.Ab

/- The abstract code of some functions (written by a program of mine from the translation, by way of prepF). -/
namespace Go.Ab.C
open Go.Ab
def spec_DrawCountDominoes : AFn :=
 ⟨1, 45, [.cellN 2 4],
 .seq (.ops [(none, .alloc 2 [(.I 0), (.I 0), (.I 0), .nil])])
 (.seq (.ops [(none, .mv 6 (.t 0)),
 (none, .build 7 [.nil, (.I 0), (.U 0)] [(0, 1, (.t 6))]),
 (none, .box 8 (.t 7)),
 (none, .mv 3 (.t 8))])
 (.seq (.ops [(none, .mv 9 (.t 3)),
 (none, .call (some 10) F.spec_l1Cur_heap [(.t 9)]),
 (none, .alloc 4 [(.I 0), (.I 0), (.I 0), .nil]),
 (none, .store 4 (.t 4) (.t 10))])
 (.seq (.seq (.ops [(none, .loadN 11 4 (.t 4)),
 (none, .call (some 12) F.spec_l2Heap [(.t 11)]),
 (none, .mv 13 (.t 12)),
 (some (13, true), .mv 14 (.t 3)),
 (some (13, true), .call (some 15) F.spec_l1Cur_one [(.t 14), (.c (.I 2))]),
 (none, .pick 16 (.t 13) (.t 15) (.c (.B false)))])
 (.cond (.t 16) (.seq (.ops [(none, .mv 17 (.t 3)),
 (none, .buildSl 18 3 1 [(.I 0), (.I 0), (.I 0)] [(0, 1, (.c (.I 2))), (1, 1, (.c (.I 1))), (2, 1, (.c (.I 3)))]),
 (none, .call (some 19) F.spec_l1Cur_among [(.t 17), (.t 18)]),
 (none, .mv 20 (.t 3)),
 (none, .buildSl 21 3 1 [(.I 0), (.I 0), (.I 0)] [(0, 1, (.c (.I 2))), (1, 1, (.c (.I 3))), (2, 1, (.c (.I 1)))]),
 (none, .call (some 22) F.spec_l1Cur_among [(.t 20), (.t 21)]),
 (none, .mv 23 (.t 3)),
 (none, .buildSl 24 3 1 [(.I 0), (.I 0), (.I 0)] [(0, 1, (.c (.I 2))), (1, 1, (.c (.I 3))), (2, 1, (.c (.I 1)))]),
 (none, .call (some 25) F.spec_l1Cur_among [(.t 23), (.t 24)]),
 (none, .call (some 26) F.spec_l2Empty [(.t 19), (.t 22), (.t 25)]),
 (none, .store 4 (.t 4) (.t 26))])
 (.seq (.ops [(none, .mv 27 (.t 3)),
 (none, .call (some 28) F.spec_l1Cur_pick [(.t 27), (.c (.I 3))]),
 (none, .mv 5 (.t 28))])
 (.block 0 (.loop (.seq (.seq (.ops [(none, .mv 29 (.t 5)),
 (none, .bin 30 .gtr (.t 29) (.c (.I 0)))])
 (.cond (.t 30) (.skip)
 (.exit 0)))
 (.seq (.block 1 (.draw [⟨(none, .loadN 33 4 (.t 4)), [], []⟩,
 ⟨(none, .mv 34 (.t 3)), [], []⟩,
 ⟨(none, .fieldAddr 35 (.t 4) 0), [], []⟩,
 ⟨(none, .load1 36 (.t 35)), [], []⟩,
 ⟨(none, .fieldAddr 37 (.t 4) 1), [], []⟩,
 ⟨(none, .load1 38 (.t 37)), [], []⟩,
 ⟨(none, .fieldAddr 39 (.t 4) 2), [], []⟩,
 ⟨(none, .load1 40 (.t 39)), [], []⟩,
 ⟨(none, .call (some 41) F.spec_l2Box [(.t 36), (.t 38), (.t 40)]), [], [0, 1]⟩,
 ⟨(none, .call (some 42) F.spec_l1Cur_cell [(.t 34), (.t 41)]), [], [0]⟩,
 ⟨(none, .call (some 43) F.spec_l2With [(.t 33), (.t 42)]), [], []⟩,
 ⟨(none, .store 4 (.t 4) (.t 43)), [], []⟩]))
 (.ops [(none, .mv 31 (.t 5)),
 (none, .bin 32 .sub (.t 31) (.c (.I 1))),
 (none, .mv 5 (.t 32))])))))))
 (.skip)))
 (.seq (.ops [(none, .loadN 44 4 (.t 4)),
 (none, .store 4 (.t 2) (.t 44))])
 (.ret)))))⟩
end Go.Ab.C

/- That the program has this code. -/
namespace Go.Ab.K
open Go Go.Ab
theorem spec_DrawCountDominoes : prepF Go.Proofs.Try.prog F.spec_DrawCountDominoes = some C.spec_DrawCountDominoes := by kernel_rfl
end Go.Ab.K

/- The abstract code of some functions (written by a program of mine from the translation, by way of prepF). -/
namespace Go.Ab.C
open Go.Ab
def spec_l1Cur_cell : AFn :=
 ⟨2, 30, [.cellN 4 3],
 .seq (.ops [(none, .box 3 (.t 1)),
 (none, .alloc 4 [(.I 0), (.I 0), (.I 0)])])
 (.seq (.ops [(none, .build 7 [(.I 0), (.I 0), (.I 0)] []),
 (none, .alloc 5 [(.I 0), (.I 0), (.I 0)]),
 (none, .store 3 (.t 5) (.t 7))])
 (.seq (.seq (.ops [(none, .mv 6 (.c (.I 0)))])
 (.block 0 (.loop (.seq (.seq (.ops [(none, .mv 8 (.t 6)),
 (none, .bin 9 .lss (.t 8) (.c (.I 3)))])
 (.cond (.t 9) (.skip)
 (.exit 0)))
 (.seq (.block 1 (.ops [(none, .mv 12 (.t 6)),
 (none, .mv 13 (.t 0)),
 (none, .loadN 14 4 (.t 3)),
 (none, .mv 15 (.t 6)),
 (none, .call (some 16) F.spec_l2Long [(.t 14), (.t 15)]),
 (none, .call (some 17) F.spec_l1Least [(.t 16), (.c (.I 4))]),
 (none, .call (some 18) F.spec_l1Most [(.t 17), (.c (.I 1))]),
 (none, .call (some 19) F.spec_l1Cur_pick [(.t 13), (.t 18)]),
 (none, .idxA 20 3 1 (.t 5) (.t 12)),
 (none, .store 1 (.t 20) (.t 19))]))
 (.ops [(none, .mv 10 (.t 6)),
 (none, .bin 11 .add (.t 10) (.c (.I 1))),
 (none, .mv 6 (.t 11))]))))))
 (.seq (.seq (.ops [(none, .mv 21 (.t 0)),
 (none, .call (some 22) F.spec_l1Cur_one [(.t 21), (.c (.I 30))])])
 (.cond (.t 22) (.ops [(none, .mv 23 (.t 0)),
 (none, .call (some 24) F.spec_l1Cur_pick [(.t 23), (.c (.I 3))]),
 (none, .mv 25 (.t 0)),
 (none, .buildSl 26 3 1 [(.I 0), (.I 0), (.I 0)] [(0, 1, (.c (.I (-1)))), (1, 1, (.c (.I 4))), (2, 1, (.c (.I 4611686018427387904)))]),
 (none, .call (some 27) F.spec_l1Cur_among [(.t 25), (.t 26)]),
 (none, .idxA 28 3 1 (.t 5) (.t 24)),
 (none, .store 1 (.t 28) (.t 27))])
 (.skip)))
 (.seq (.ops [(none, .loadN 29 3 (.t 5)),
 (none, .store 3 (.t 4) (.t 29))])
 (.ret)))))⟩
end Go.Ab.C

/- That the program has this code. -/
namespace Go.Ab.K
open Go Go.Ab
theorem spec_l1Cur_cell : prepF Go.Proofs.Try.prog F.spec_l1Cur_cell = some C.spec_l1Cur_cell := by kernel_rfl
end Go.Ab.K

/- Contracts: what the law of pieces draws. -/
namespace Go.Ab
open Go
set_option linter.unusedSimpArgs false
set_option linter.unusedVariables false
set_option maxRecDepth 20000

theorem dirN' {d : Nat} (hd : d < 3) : Dir (d : Int) := by unfold Dir; omega
theorem Bytes.drop {M : Mem} {t o n : Nat} {bs : List Nat} (h : Bytes M t o bs) (hn : n ≤ bs.length) : Bytes M t (o + n) (bs.drop n) := by
  obtain ⟨row, h1, h2, h3⟩ := h
  refine ⟨row, h1, ?_, ?_⟩
  · rw [byL_len] at h2 ⊢
    rw [List.length_drop]; omega
  · rw [byL_len] at h3 ⊢
    rw [List.length_drop]
    have e : byL (bs.drop n) = (byL bs).drop n := by simp [byL, List.map_drop]
    rw [e, ← h3, List.drop_take, List.drop_drop]
/-- Other bytes, that are new. -/
def NewBytes (M : Mem) (n : Nat) (v : LV) (N : Mem) : Prop := ∃ (u : Nat) (cs : List Nat), v = .ref u 0 cs.length ∧ Bytes N u 0 cs ∧ (∀ b ∈ cs, b ≤ 255) ∧ cs.length ≤ n + 1 ∧ Pre M N
theorem d_cell {p t o a : Nat} {bs : List Nat} {M : Mem} {x y z : Int} {w : LV} (h : CurAt M p t o bs a) (ha : a ≤ 999900) : CallsR PG F.spec_l1Cur_cell [.ptr p 0, .agg [.I x, .I y, .I z, w]] M fun v N => (∃ c : Cell, v = .agg [.I c.a, .I c.b, .I c.c]) ∧ DrawN M p t o bs (a + 20) N := by
  obtain ⟨⟨_, _, _, hpl'⟩, hB, _⟩ := id h
  have hpl := hpl'.lt
  have htM := hB.lt
  refine callsR_run K.spec_l1Cur_cell rfl ?_
  simp (disch := omega) only [C.spec_l1Cur_cell, splice, ↓SXd, SXu, slBounds, ↓sop, ↓aop, ↓reduceIte, LV.cells, AOp.dst, LV.I, LV.B, LV.U, LV.S, LV.nil, Nat.reduceEqDiff, Nat.reduceAdd, Nat.reduceMul, Nat.reduceSub, Nat.reduceLeDiff, Nat.reduceBEq, Nat.reduceDiv, Nat.reduceMod, Int.reduceToNat, Int.reduceLT, Int.reduceLE, Int.reduceAdd, Int.reduceSub, Int.reduceMul, Int.reduceEq, Int.reduceNeg, reduceCtorEq, resV, resAll, ARes.ev, LV.flat, ite_true, ite_false, exists_eq_left', exists_eq_left, keyOf, implies_true, fillC, capOf]
  have h0 : DrawN M p t o bs a (M ++ [some (.row [.I x, .I y, .I z, w] true 0), some (.row [.I 0, .I 0, .I 0] true 0), some (.row [.I 0, .I 0, .I 0] true 0)]) := ⟨h.pre (Pre.app _ _), by simp, fun q q1 _ => List.getElem?_append_left q1⟩
  refine ev_loop (fun m fr M' => ∃ (d : Nat) (c : Cell), d + m = 3 ∧ DrawN M p t o bs (a + 2 * d) M' ∧ Live M' M.length (.row [.I x, .I y, .I z, w] true 0) ∧ Live M' (M.length + 1) (.row [.I 0, .I 0, .I 0] true 0) ∧ Live M' (M.length + 2) (.row c.row true 0) ∧
    fr 0 = .ptr p 0 ∧ fr 3 = .ptr M.length 0 ∧ fr 4 = .ptr (M.length + 1) 0 ∧ fr 5 = .ptr (M.length + 2) 0 ∧ fr 6 = .I d) 3
    ⟨0, ⟨0, 0, 0⟩, rfl, h0, Live.new, Live.newj rfl, Live.newj rfl, rfl, rfl, rfl, rfl, rfl⟩ ?_
  rintro m fr M' ⟨d, c, hd, hD, b3, b4, b5, f0, f3, f4, f5, f6⟩
  simp (disch := omega) only [f0, f3, f4, f5, f6, ↓SXd, SXu, slBounds, ↓sop, ↓aop, ↓reduceIte, LV.cells, AOp.dst, LV.I, LV.B, LV.U, LV.S, LV.nil, Nat.reduceEqDiff, Nat.reduceAdd, Nat.reduceMul, Nat.reduceSub, Nat.reduceLeDiff, Nat.reduceBEq, Nat.reduceDiv, Nat.reduceMod, Int.reduceToNat, Int.reduceLT, Int.reduceLE, Int.reduceAdd, Int.reduceSub, Int.reduceMul, Int.reduceEq, Int.reduceNeg, reduceCtorEq, resV, resAll, ARes.ev, LV.flat, ite_true, ite_false, exists_eq_left', exists_eq_left, keyOf, implies_true, fillC, capOf]
  have hb5l := b5.lt
  refine condC_dec (fun hlt => ?_) (fun hlt => ?_)
  · have hd3 : d < 3 := by omega
    simp (disch := omega) only [f0, f3, f4, f5, f6, b3.cells, ↓SXd, SXu, slBounds, ↓sop, ↓aop, ↓reduceIte, LV.cells, AOp.dst, LV.I, LV.B, LV.U, LV.S, LV.nil, Nat.reduceEqDiff, Nat.reduceAdd, Nat.reduceMul, Nat.reduceSub, Nat.reduceLeDiff, Nat.reduceBEq, Nat.reduceDiv, Nat.reduceMod, Int.reduceToNat, Int.reduceLT, Int.reduceLE, Int.reduceAdd, Int.reduceSub, Int.reduceMul, Int.reduceEq, Int.reduceNeg, reduceCtorEq, resV, resAll, ARes.ev, LV.flat, ite_true, ite_false, exists_eq_left', exists_eq_left, keyOf, implies_true, fillC, capOf]
    refine callK_of (h_l2Long (dirN' hd3)) ?_
    simp (disch := omega) only [f0, f3, f4, f5, f6, ↓SXd, SXu, slBounds, ↓sop, ↓aop, ↓reduceIte, LV.cells, AOp.dst, LV.I, LV.B, LV.U, LV.S, LV.nil, Nat.reduceEqDiff, Nat.reduceAdd, Nat.reduceMul, Nat.reduceSub, Nat.reduceLeDiff, Nat.reduceBEq, Nat.reduceDiv, Nat.reduceMod, Int.reduceToNat, Int.reduceLT, Int.reduceLE, Int.reduceAdd, Int.reduceSub, Int.reduceMul, Int.reduceEq, Int.reduceNeg, reduceCtorEq, resV, resAll, ARes.ev, LV.flat, ite_true, ite_false, exists_eq_left', exists_eq_left, keyOf, implies_true, fillC, capOf]
    refine callK_of (h_l1Least) ?_
    simp (disch := omega) only [f0, f3, f4, f5, f6, ↓SXd, SXu, slBounds, ↓sop, ↓aop, ↓reduceIte, LV.cells, AOp.dst, LV.I, LV.B, LV.U, LV.S, LV.nil, Nat.reduceEqDiff, Nat.reduceAdd, Nat.reduceMul, Nat.reduceSub, Nat.reduceLeDiff, Nat.reduceBEq, Nat.reduceDiv, Nat.reduceMod, Int.reduceToNat, Int.reduceLT, Int.reduceLE, Int.reduceAdd, Int.reduceSub, Int.reduceMul, Int.reduceEq, Int.reduceNeg, reduceCtorEq, resV, resAll, ARes.ev, LV.flat, ite_true, ite_false, exists_eq_left', exists_eq_left, keyOf, implies_true, fillC, capOf]
    refine callK_of (h_l1Most) ?_
    simp (disch := omega) only [f0, f3, f4, f5, f6, ↓SXd, SXu, slBounds, ↓sop, ↓aop, ↓reduceIte, LV.cells, AOp.dst, LV.I, LV.B, LV.U, LV.S, LV.nil, Nat.reduceEqDiff, Nat.reduceAdd, Nat.reduceMul, Nat.reduceSub, Nat.reduceLeDiff, Nat.reduceBEq, Nat.reduceDiv, Nat.reduceMod, Int.reduceToNat, Int.reduceLT, Int.reduceLE, Int.reduceAdd, Int.reduceSub, Int.reduceMul, Int.reduceEq, Int.reduceNeg, reduceCtorEq, resV, resAll, ARes.ev, LV.flat, ite_true, ite_false, exists_eq_left', exists_eq_left, keyOf, implies_true, fillC, capOf]
    refine callR_of (d_pick hD.1 (by omega)) ?_
    rintro _ N ⟨⟨b, rfl, _⟩, hd2⟩
    have c3 := hd2.live b3 (by omega)
    have c4 := hd2.live b4 (by omega)
    have c5 := hd2.live b5 (by omega)
    have c5l := c5.lt
    simp (disch := omega) only [f0, f3, f4, f5, f6, Nat.mul_one, Nat.zero_add, ↓SXd, SXu, slBounds, ↓sop, ↓aop, ↓reduceIte, LV.cells, AOp.dst, LV.I, LV.B, LV.U, LV.S, LV.nil, Nat.reduceEqDiff, Nat.reduceAdd, Nat.reduceMul, Nat.reduceSub, Nat.reduceLeDiff, Nat.reduceBEq, Nat.reduceDiv, Nat.reduceMod, Int.reduceToNat, Int.reduceLT, Int.reduceLE, Int.reduceAdd, Int.reduceSub, Int.reduceMul, Int.reduceEq, Int.reduceNeg, reduceCtorEq, resV, resAll, ARes.ev, LV.flat, ite_true, ite_false, exists_eq_left', exists_eq_left, keyOf, implies_true, fillC, capOf]
    refine memK_at c5 (show d < 3 from hd3) fun N1 k1 k2 k3 => ?_
    obtain ⟨c', hc'⟩ : ∃ c' : Cell, c.row.set d (LV.I (b : Int)) = c'.row := by
      rcases (show d = 0 ∨ d = 1 ∨ d = 2 by omega) with rfl | rfl | rfl
      · exact ⟨⟨b, c.b, c.c⟩, rfl⟩
      · exact ⟨⟨c.a, b, c.c⟩, rfl⟩
      · exact ⟨⟨c.a, c.b, b⟩, rfl⟩
    rw [hc'] at k2
    simp (disch := omega) only [f0, f3, f4, f5, f6, ↓SXd, SXu, slBounds, ↓sop, ↓aop, ↓reduceIte, LV.cells, AOp.dst, LV.I, LV.B, LV.U, LV.S, LV.nil, Nat.reduceEqDiff, Nat.reduceAdd, Nat.reduceMul, Nat.reduceSub, Nat.reduceLeDiff, Nat.reduceBEq, Nat.reduceDiv, Nat.reduceMod, Int.reduceToNat, Int.reduceLT, Int.reduceLE, Int.reduceAdd, Int.reduceSub, Int.reduceMul, Int.reduceEq, Int.reduceNeg, reduceCtorEq, resV, resAll, ARes.ev, LV.flat, ite_true, ite_false, exists_eq_left', exists_eq_left, keyOf, implies_true, fillC, capOf]
    exact ⟨m - 1, by omega, d + 1, c', by omega, (hD.trans hd2).keep hpl htM (by omega) (by omega) fun q q1 => k3 q (by omega) (by omega), live_step c3 (by omega) k3, live_step c4 (by omega) k3, k2, f0, f3, f4, f5, eqI (natI _)⟩
  · have hd3 : d = 3 := by omega
    subst hd3
    have fin : ∀ {N : Mem} {e : Cell} {a' : Nat}, a' ≤ a + 20 → DrawN M p t o bs a' N → Live N (M.length + 1) (.row [.I 0, .I 0, .I 0] true 0) → ∀ N2 : Mem, N2.length = N.length → (∀ q, q ≠ M.length + 1 → q < N.length → N2[q]? = N[q]?) → (∃ c : Cell, LV.agg [.I e.a, .I e.b, .I e.c] = .agg [.I c.a, .I c.b, .I c.c]) ∧ DrawN M p t o bs (a + 20) N2 := fun {N e a'} a1 a2 a3 N2 a4 a5 =>
      ⟨⟨e, rfl⟩, a2.keep hpl htM a1 (by omega) fun q q1 => a5 q (by omega) (by have := a2.2.1; omega)⟩
    simp (disch := omega) only [f0, f3, f4, f5, f6, ↓SXd, SXu, slBounds, ↓sop, ↓aop, ↓reduceIte, LV.cells, AOp.dst, LV.I, LV.B, LV.U, LV.S, LV.nil, Nat.reduceEqDiff, Nat.reduceAdd, Nat.reduceMul, Nat.reduceSub, Nat.reduceLeDiff, Nat.reduceBEq, Nat.reduceDiv, Nat.reduceMod, Int.reduceToNat, Int.reduceLT, Int.reduceLE, Int.reduceAdd, Int.reduceSub, Int.reduceMul, Int.reduceEq, Int.reduceNeg, reduceCtorEq, resV, resAll, ARes.ev, LV.flat, ite_true, ite_false, exists_eq_left', exists_eq_left, keyOf, implies_true, fillC, capOf]
    refine callR_of (d_one hD.1 (by omega)) ?_
    rintro _ N ⟨⟨b, rfl⟩, hd2⟩
    have c4 := hd2.live b4 (by omega)
    have c5 := hd2.live b5 (by omega)
    cases b
    · simp (disch := omega) only [f0, f3, f4, f5, f6, c5.cells, Cell.row, ↓SXd, SXu, slBounds, ↓sop, ↓aop, ↓reduceIte, LV.cells, AOp.dst, LV.I, LV.B, LV.U, LV.S, LV.nil, Nat.reduceEqDiff, Nat.reduceAdd, Nat.reduceMul, Nat.reduceSub, Nat.reduceLeDiff, Nat.reduceBEq, Nat.reduceDiv, Nat.reduceMod, Int.reduceToNat, Int.reduceLT, Int.reduceLE, Int.reduceAdd, Int.reduceSub, Int.reduceMul, Int.reduceEq, Int.reduceNeg, reduceCtorEq, resV, resAll, ARes.ev, LV.flat, ite_true, ite_false, exists_eq_left', exists_eq_left, keyOf, implies_true, fillC, capOf]
      refine memK_box c4 (by simp) fun N2 k1 k2 k3 => ?_
      simp (disch := omega) only [f0, f3, f4, f5, f6, k2.cells, ↓SXd, SXu, slBounds, ↓sop, ↓aop, ↓reduceIte, LV.cells, AOp.dst, LV.I, LV.B, LV.U, LV.S, LV.nil, Nat.reduceEqDiff, Nat.reduceAdd, Nat.reduceMul, Nat.reduceSub, Nat.reduceLeDiff, Nat.reduceBEq, Nat.reduceDiv, Nat.reduceMod, Int.reduceToNat, Int.reduceLT, Int.reduceLE, Int.reduceAdd, Int.reduceSub, Int.reduceMul, Int.reduceEq, Int.reduceNeg, reduceCtorEq, resV, resAll, ARes.ev, LV.flat, ite_true, ite_false, exists_eq_left', exists_eq_left, keyOf, implies_true, fillC, capOf]
      exact fin (by omega) (hD.trans hd2) c4 N2 k1 k3
    · simp (disch := omega) only [f0, f3, f4, f5, f6, ↓SXd, SXu, slBounds, ↓sop, ↓aop, ↓reduceIte, LV.cells, AOp.dst, LV.I, LV.B, LV.U, LV.S, LV.nil, Nat.reduceEqDiff, Nat.reduceAdd, Nat.reduceMul, Nat.reduceSub, Nat.reduceLeDiff, Nat.reduceBEq, Nat.reduceDiv, Nat.reduceMod, Int.reduceToNat, Int.reduceLT, Int.reduceLE, Int.reduceAdd, Int.reduceSub, Int.reduceMul, Int.reduceEq, Int.reduceNeg, reduceCtorEq, resV, resAll, ARes.ev, LV.flat, ite_true, ite_false, exists_eq_left', exists_eq_left, keyOf, implies_true, fillC, capOf]
      refine callR_of (d_pick hd2.1 (by omega)) ?_
      rintro _ N3 ⟨⟨j, rfl, hj⟩, hd3⟩
      have e4 := hd3.live c4 (by omega)
      have e5 := hd3.live c5 (by omega)
      have hj3 : j < 3 := by omega
      simp (disch := omega) only [f0, f3, f4, f5, f6, splice, ↓SXd, SXu, slBounds, ↓sop, ↓aop, ↓reduceIte, LV.cells, AOp.dst, LV.I, LV.B, LV.U, LV.S, LV.nil, Nat.reduceEqDiff, Nat.reduceAdd, Nat.reduceMul, Nat.reduceSub, Nat.reduceLeDiff, Nat.reduceBEq, Nat.reduceDiv, Nat.reduceMod, Int.reduceToNat, Int.reduceLT, Int.reduceLE, Int.reduceAdd, Int.reduceSub, Int.reduceMul, Int.reduceEq, Int.reduceNeg, reduceCtorEq, resV, resAll, ARes.ev, LV.flat, ite_true, ite_false, exists_eq_left', exists_eq_left, keyOf, implies_true, fillC, capOf]
      refine callR_of (d_amongNew (xs := [-1, 4, 4611686018427387904]) hd3.1 (by omega) (by simp) (by simp)) ?_
      rintro _ N4 ⟨⟨v, rfl, _⟩, hd4⟩
      have g4 := hd4.live e4 (by omega)
      have g5 := hd4.live e5 (by omega)
      have g5l := g5.lt
      simp (disch := omega) only [f0, f3, f4, f5, f6, Nat.mul_one, Nat.zero_add, ↓SXd, SXu, slBounds, ↓sop, ↓aop, ↓reduceIte, LV.cells, AOp.dst, LV.I, LV.B, LV.U, LV.S, LV.nil, Nat.reduceEqDiff, Nat.reduceAdd, Nat.reduceMul, Nat.reduceSub, Nat.reduceLeDiff, Nat.reduceBEq, Nat.reduceDiv, Nat.reduceMod, Int.reduceToNat, Int.reduceLT, Int.reduceLE, Int.reduceAdd, Int.reduceSub, Int.reduceMul, Int.reduceEq, Int.reduceNeg, reduceCtorEq, resV, resAll, ARes.ev, LV.flat, ite_true, ite_false, exists_eq_left', exists_eq_left, keyOf, implies_true, fillC, capOf]
      refine memK_at g5 (show j < 3 from hj3) fun N5 k1 k2 k3 => ?_
      obtain ⟨c', hc'⟩ : ∃ c' : Cell, c.row.set j (LV.I v) = c'.row := by
        rcases (show j = 0 ∨ j = 1 ∨ j = 2 by omega) with rfl | rfl | rfl
        · exact ⟨⟨v, c.b, c.c⟩, rfl⟩
        · exact ⟨⟨c.a, v, c.c⟩, rfl⟩
        · exact ⟨⟨c.a, c.b, v⟩, rfl⟩
      rw [hc'] at k2
      have hD5 : DrawN M p t o bs (a + 2 * 3 + 2 + 2 + 2) N5 := (((hD.trans hd2).trans hd3).trans hd4).keep hpl htM (Nat.le_refl _) (by omega) fun q q1 => k3 q (by omega) (by have := hD.2.1; have := hd2.2.1; have := hd3.2.1; have := hd4.2.1; omega)
      have m4 := live_step g4 (by omega) k3
      simp (disch := omega) only [f0, f3, f4, f5, f6, k2.cells, Cell.row, ↓SXd, SXu, slBounds, ↓sop, ↓aop, ↓reduceIte, LV.cells, AOp.dst, LV.I, LV.B, LV.U, LV.S, LV.nil, Nat.reduceEqDiff, Nat.reduceAdd, Nat.reduceMul, Nat.reduceSub, Nat.reduceLeDiff, Nat.reduceBEq, Nat.reduceDiv, Nat.reduceMod, Int.reduceToNat, Int.reduceLT, Int.reduceLE, Int.reduceAdd, Int.reduceSub, Int.reduceMul, Int.reduceEq, Int.reduceNeg, reduceCtorEq, resV, resAll, ARes.ev, LV.flat, ite_true, ite_false, exists_eq_left', exists_eq_left, keyOf, implies_true, fillC, capOf]
      refine memK_box m4 (by simp) fun N6 r1 r2 r3 => ?_
      simp (disch := omega) only [f0, f3, f4, f5, f6, r2.cells, ↓SXd, SXu, slBounds, ↓sop, ↓aop, ↓reduceIte, LV.cells, AOp.dst, LV.I, LV.B, LV.U, LV.S, LV.nil, Nat.reduceEqDiff, Nat.reduceAdd, Nat.reduceMul, Nat.reduceSub, Nat.reduceLeDiff, Nat.reduceBEq, Nat.reduceDiv, Nat.reduceMod, Int.reduceToNat, Int.reduceLT, Int.reduceLE, Int.reduceAdd, Int.reduceSub, Int.reduceMul, Int.reduceEq, Int.reduceNeg, reduceCtorEq, resV, resAll, ARes.ev, LV.flat, ite_true, ite_false, exists_eq_left', exists_eq_left, keyOf, implies_true, fillC, capOf]
      exact fin (by omega) hD5 m4 N6 r1 r3
theorem DrawN.keepW {M N N' : Mem} {p t o a w : Nat} {bs : List Nat} (h : DrawN M p t o bs a N) (hp : p < M.length) (ht : t < M.length) (hw : M.length ≤ w) (hl : N.length ≤ N'.length) (hk : ∀ q, q ≠ w → q < N.length → N'[q]? = N[q]?) : DrawN M p t o bs a N' :=
  h.keep hp ht (Nat.le_refl _) hl fun q q1 => hk q (by omega) (by have := h.2.1; omega)
def sidesL : List Cell := [⟨1, 1, 2⟩, ⟨2, 1, 1⟩, ⟨1, 2, 1⟩, ⟨1, 1, 1⟩, ⟨1, 1, 3⟩, ⟨2, 2, 1⟩, ⟨3, 1, 1⟩]
/-- A list of cells, all new. -/
def CellsN (M : Mem) (v : LV) (N : Mem) : Prop := ∃ (l : List Cell) (u : Nat), v = .ref u 0 l.length ∧ Live N u (.row (triL l) true 3) ∧ M.length ≤ u ∧ l.length ≤ 70
section
variable {t o : Nat} {bs : List Nat} {M : Mem} (hB : Bytes M t o bs) (h255 : ∀ b ∈ bs, b ≤ 255) (hl : bs.length ≤ 1000000000)
include hB h255 hl
end
end Go.Ab

/- Contracts: what the law of the dominoes draws; a cube laid into any heap. -/
namespace Go.Ab
open Go
set_option linter.unusedSimpArgs false
set_option linter.unusedVariables false
set_option maxRecDepth 20000

/-- A cell laid into a list in front of the first one that is not less. -/
def insW (c : Cell) : List Cell → List Cell
  | [] => [c]
  | d :: l => if d.lt c then d :: insW c l else if d = c then d :: l else c :: d :: l
theorem insW_at {c : Cell} : ∀ {cs : List Cell} (k : Nat), k ≤ cs.length → (∀ j, j < k → (cs.getD j default).lt c) → (k < cs.length → ¬ (cs.getD k default).lt c ∧ ¬ cs.getD k default = c) → insW c cs = cs.take k ++ c :: cs.drop k
  | [], k, h, _, _ => by
    have : k = 0 := by simpa using h
    subst this; rfl
  | d :: l, 0, _, _, h => by
    have := h (by simp)
    rw [List.getD_cons_zero] at this
    unfold insW
    rw [if_neg this.1, if_neg this.2]; rfl
  | d :: l, k + 1, h1, h2, h3 => by
    have h0 := h2 0 (by omega)
    rw [List.getD_cons_zero] at h0
    unfold insW
    rw [if_pos h0, insW_at (cs := l) k (by simpa using h1) (fun j hj => by have := h2 (j + 1) (by omega); rwa [List.getD_cons_succ] at this) fun h => by have := h3 (by simpa using h); rwa [List.getD_cons_succ] at this]
    rfl
theorem insW_has {c : Cell} : ∀ {cs : List Cell} (k : Nat), k < cs.length → (∀ j, j < k → (cs.getD j default).lt c) → cs.getD k default = c → insW c cs = cs
  | [], k, h, _, _ => by simp at h
  | d :: l, 0, _, _, h => by
    rw [List.getD_cons_zero] at h
    subst h
    unfold insW
    rw [if_neg (Cell.lt_irrefl _), if_pos rfl]
  | d :: l, k + 1, h1, h2, h3 => by
    have h0 := h2 0 (by omega)
    rw [List.getD_cons_zero] at h0
    unfold insW
    rw [if_pos h0, insW_has (cs := l) k (by simpa using h1) (fun j hj => by have := h2 (j + 1) (by omega); rwa [List.getD_cons_succ] at this) (by rwa [List.getD_cons_succ] at h3)]
theorem insW_len {c : Cell} : ∀ {cs : List Cell}, (insW c cs).length ≤ cs.length + 1
  | [] => by simp [insW]
  | d :: l => by
    unfold insW
    have := insW_len (c := c) (cs := l)
    split
    · simp only [List.length_cons]; omega
    · split
      · simp
      · simp
theorem h_l2WithX {x y z : Int} {c : Cell} {t : Nat} {w : Bool} {cs : List Cell} {M : Mem} (h : Live M t (.row (triL cs) w 3)) (hn : cs.length ≤ 1000) :
    CallsTo PG F.spec_l2With [.agg [.I x, .I y, .I z, .ref t 0 cs.length], .agg [.I c.a, .I c.b, .I c.c]] M (.agg [.I x, .I y, .I z, .ref M.length 0 (insW c cs).length])
      (M ++ [some (.row (triL (insW c cs)) true 3)]) := by
  have hT : Tri M t 0 cs := h.has
  have ht := h.lt
  have hE : getEsz M t = some 3 := h.esz
  refine calls_run K.spec_l2With rfl ?_
  simp (disch := omega) only [C.spec_l2With, ↓SXd, SXu, slBounds, ↓sop, ↓aop, ↓reduceIte, LV.cells, AOp.dst, LV.I, LV.B, LV.U, LV.S, LV.nil, Nat.reduceEqDiff, Nat.reduceAdd, Nat.reduceMul, Nat.reduceSub, Nat.reduceLeDiff, Nat.reduceBEq, Nat.reduceDiv, Nat.reduceMod, Int.reduceToNat, Int.reduceLT, Int.reduceLE, Int.reduceAdd, Int.reduceSub, Int.reduceMul, Int.reduceEq, Int.reduceNeg, reduceCtorEq, resV, resAll, ARes.ev, LV.flat, ite_true, ite_false, exists_eq_left', exists_eq_left, keyOf, implies_true, fillC, capOf]
  refine ev_loop (fun m fr M' => ∃ k : Nat, k + m = cs.length ∧ M' = M ++ [some (Blk.row [.I x, .I y, .I z, .ref t 0 cs.length] true 0), some (Blk.row [.I c.a, .I c.b, .I c.c] true 0), some (Blk.row [.I 0, .I 0, .I 0, .nil] true 0)] ∧
    fr 2 = .ptr M.length 0 ∧ fr 3 = .ptr (M.length + 1) 0 ∧ fr 4 = .ptr (M.length + 2) 0 ∧ fr 5 = .I k ∧ ∀ j, j < k → (cs.getD j default).lt c) cs.length
    ⟨0, by omega, rfl, rfl, rfl, rfl, rfl, by omega⟩ ?_
  rintro m fr M' ⟨k, hk, rfl, f2, f3, f4, f5, hlo⟩
  have hgE : ∀ L : Mem, getEsz (M ++ L) t = some 3 := fun L => by rw [getEsz_app ht]; exact hE
  by_cases hkl : k < cs.length
  · simp (disch := omega) only [f2, f3, f4, f5, getCells_app, (h.tri0 hkl), Cell.row, ↓SXd, SXu, slBounds, ↓sop, ↓aop, ↓reduceIte, LV.cells, AOp.dst, LV.I, LV.B, LV.U, LV.S, LV.nil, Nat.reduceEqDiff, Nat.reduceAdd, Nat.reduceMul, Nat.reduceSub, Nat.reduceLeDiff, Nat.reduceBEq, Nat.reduceDiv, Nat.reduceMod, Int.reduceToNat, Int.reduceLT, Int.reduceLE, Int.reduceAdd, Int.reduceSub, Int.reduceMul, Int.reduceEq, Int.reduceNeg, reduceCtorEq, resV, resAll, ARes.ev, LV.flat, ite_true, ite_false, exists_eq_left', exists_eq_left, keyOf, implies_true, fillC, capOf]
    refine callK_of (h_l2Before) ?_
    simp (disch := omega) only [f2, f3, f4, f5, cell_eta, ↓SXd, SXu, slBounds, ↓sop, ↓aop, ↓reduceIte, LV.cells, AOp.dst, LV.I, LV.B, LV.U, LV.S, LV.nil, Nat.reduceEqDiff, Nat.reduceAdd, Nat.reduceMul, Nat.reduceSub, Nat.reduceLeDiff, Nat.reduceBEq, Nat.reduceDiv, Nat.reduceMod, Int.reduceToNat, Int.reduceLT, Int.reduceLE, Int.reduceAdd, Int.reduceSub, Int.reduceMul, Int.reduceEq, Int.reduceNeg, reduceCtorEq, resV, resAll, ARes.ev, LV.flat, ite_true, ite_false, exists_eq_left', exists_eq_left, keyOf, implies_true, fillC, capOf]
    refine condC_dec (fun hb => ?_) (fun hb => ?_)
    · simp (disch := omega) only [f2, f3, f4, f5, ↓SXd, SXu, slBounds, ↓sop, ↓aop, ↓reduceIte, LV.cells, AOp.dst, LV.I, LV.B, LV.U, LV.S, LV.nil, Nat.reduceEqDiff, Nat.reduceAdd, Nat.reduceMul, Nat.reduceSub, Nat.reduceLeDiff, Nat.reduceBEq, Nat.reduceDiv, Nat.reduceMod, Int.reduceToNat, Int.reduceLT, Int.reduceLE, Int.reduceAdd, Int.reduceSub, Int.reduceMul, Int.reduceEq, Int.reduceNeg, reduceCtorEq, resV, resAll, ARes.ev, LV.flat, ite_true, ite_false, exists_eq_left', exists_eq_left, keyOf, implies_true, fillC, capOf]
      exact ⟨m - 1, by omega, k + 1, by omega, rfl, f2, f3, f4, eqI (natI _), fun j hj => by
        rcases Nat.lt_or_ge j k with h1 | h1
        · exact hlo j h1
        · rw [show j = k by omega]; exact hb⟩
    · simp (disch := omega) only [f2, f3, f4, f5, getCells_app, (h.tri0 hkl), Cell.row, eqV, eqC, if_true, ite_true, Bool.and_true, ↓SXd, SXu, slBounds, ↓sop, ↓aop, ↓reduceIte, LV.cells, AOp.dst, LV.I, LV.B, LV.U, LV.S, LV.nil, Nat.reduceEqDiff, Nat.reduceAdd, Nat.reduceMul, Nat.reduceSub, Nat.reduceLeDiff, Nat.reduceBEq, Nat.reduceDiv, Nat.reduceMod, Int.reduceToNat, Int.reduceLT, Int.reduceLE, Int.reduceAdd, Int.reduceSub, Int.reduceMul, Int.reduceEq, Int.reduceNeg, reduceCtorEq, resV, resAll, ARes.ev, LV.flat, ite_true, ite_false, exists_eq_left', exists_eq_left, keyOf, implies_true, fillC, capOf]
      by_cases he : cs.getD k default = c
      · obtain ⟨e1, e2, e3⟩ := cell_eq.1 he
        simp (disch := omega) only [f2, f3, f4, f5, e1, e2, e3, beq_self_eq_true, Bool.and_self, ↓SXd, SXu, slBounds, ↓sop, ↓aop, ↓reduceIte, LV.cells, AOp.dst, LV.I, LV.B, LV.U, LV.S, LV.nil, Nat.reduceEqDiff, Nat.reduceAdd, Nat.reduceMul, Nat.reduceSub, Nat.reduceLeDiff, Nat.reduceBEq, Nat.reduceDiv, Nat.reduceMod, Int.reduceToNat, Int.reduceLT, Int.reduceLE, Int.reduceAdd, Int.reduceSub, Int.reduceMul, Int.reduceEq, Int.reduceNeg, reduceCtorEq, resV, resAll, ARes.ev, LV.flat, ite_true, ite_false, exists_eq_left', exists_eq_left, keyOf, implies_true, fillC, capOf]
        have hpe : insW c cs = cs := insW_has k hkl hlo he
        rw [hpe]
        refine callK_of (h_l2Own hT.app (by omega)) ?_
        simp (disch := omega) only [f2, f3, f4, f5, splice, ↓SXd, SXu, slBounds, ↓sop, ↓aop, ↓reduceIte, LV.cells, AOp.dst, LV.I, LV.B, LV.U, LV.S, LV.nil, Nat.reduceEqDiff, Nat.reduceAdd, Nat.reduceMul, Nat.reduceSub, Nat.reduceLeDiff, Nat.reduceBEq, Nat.reduceDiv, Nat.reduceMod, Int.reduceToNat, Int.reduceLT, Int.reduceLE, Int.reduceAdd, Int.reduceSub, Int.reduceMul, Int.reduceEq, Int.reduceNeg, reduceCtorEq, resV, resAll, ARes.ev, LV.flat, ite_true, ite_false, exists_eq_left', exists_eq_left, keyOf, implies_true, fillC, capOf]
        exact cmp_keep1 (j := 3) rfl (triL_lo cs) (by simp [rn, rn0, rn1, keepR_n])
      · have hf : ((cs.getD k default).a == c.a && ((cs.getD k default).b == c.b && (cs.getD k default).c == c.c)) = false := by
          rw [Bool.eq_false_iff]
          intro e
          simp only [Bool.and_eq_true, beq_iff_eq] at e
          exact he (cell_eq.2 ⟨e.1, e.2.1, e.2.2⟩)
        have hwp := insW_at k (by omega) hlo (fun _ => ⟨hb, he⟩)
        rw [hwp]
        simp (disch := omega) only [f2, f3, f4, f5, hf, hgE, Nat.sub_zero, ↓SXd, SXu, slBounds, ↓sop, ↓aop, ↓reduceIte, LV.cells, AOp.dst, LV.I, LV.B, LV.U, LV.S, LV.nil, Nat.reduceEqDiff, Nat.reduceAdd, Nat.reduceMul, Nat.reduceSub, Nat.reduceLeDiff, Nat.reduceBEq, Nat.reduceDiv, Nat.reduceMod, Int.reduceToNat, Int.reduceLT, Int.reduceLE, Int.reduceAdd, Int.reduceSub, Int.reduceMul, Int.reduceEq, Int.reduceNeg, reduceCtorEq, resV, resAll, ARes.ev, LV.flat, ite_true, ite_false, exists_eq_left', exists_eq_left, keyOf, implies_true, fillC, capOf]
        have g1 : getCells M t 0 (k * 3) = some (triL (cs.take k)) := Tri.all (Tri.take hT (by omega)) (by simp; omega)
        have g2 : getCells M t (k * 3) ((cs.length - k) * 3) = some (triL (cs.drop k)) := by
          have := Tri.all (n := cs.length - k) (Tri.drop hT (k := k) (by omega)) (by simp)
          rwa [Nat.zero_add] at this
        have hT1 : (triL (cs.take k)).length = k * 3 := by rw [triL_len]; simp; omega
        have hat : ∀ L : Mem, (M ++ L)[t]? = M[t]? := fun L => List.getElem?_append_left ht
        rcases Nat.eq_zero_or_pos k with hk0 | hk0
        · subst hk0
          refine appendK_zero ?_
          simp (disch := omega) only [hat, ↓SXd, SXu, slBounds, ↓sop, ↓aop, ↓reduceIte, LV.cells, AOp.dst, LV.I, LV.B, LV.U, LV.S, LV.nil, Nat.reduceEqDiff, Nat.reduceAdd, Nat.reduceMul, Nat.reduceSub, Nat.reduceLeDiff, Nat.reduceBEq, Nat.reduceDiv, Nat.reduceMod, Int.reduceToNat, Int.reduceLT, Int.reduceLE, Int.reduceAdd, Int.reduceSub, Int.reduceMul, Int.reduceEq, Int.reduceNeg, reduceCtorEq, resV, resAll, ARes.ev, LV.flat, ite_true, ite_false, exists_eq_left', exists_eq_left, keyOf, implies_true, fillC, capOf]
          refine appendK_pos (by omega) (by rw [cells_j]; rfl) (by rw [at_j]; rfl) (by simp) ?_
          simp (disch := omega) only [hat, ↓SXd, SXu, slBounds, ↓sop, ↓aop, ↓reduceIte, LV.cells, AOp.dst, LV.I, LV.B, LV.U, LV.S, LV.nil, Nat.reduceEqDiff, Nat.reduceAdd, Nat.reduceMul, Nat.reduceSub, Nat.reduceLeDiff, Nat.reduceBEq, Nat.reduceDiv, Nat.reduceMod, Int.reduceToNat, Int.reduceLT, Int.reduceLE, Int.reduceAdd, Int.reduceSub, Int.reduceMul, Int.reduceEq, Int.reduceNeg, reduceCtorEq, resV, resAll, ARes.ev, LV.flat, ite_true, ite_false, exists_eq_left', exists_eq_left, keyOf, implies_true, fillC, capOf]
          refine appendK_pos (by omega) (by rw [getCells_app ht]; exact g2) (by rw [at_j]; rfl) (by simp) ?_
          simp (disch := omega) only [List.length_append, List.length_set, hat, ↓SXd, SXu, slBounds, ↓sop, ↓aop, ↓reduceIte, LV.cells, AOp.dst, LV.I, LV.B, LV.U, LV.S, LV.nil, Nat.reduceEqDiff, Nat.reduceAdd, Nat.reduceMul, Nat.reduceSub, Nat.reduceLeDiff, Nat.reduceBEq, Nat.reduceDiv, Nat.reduceMod, Int.reduceToNat, Int.reduceLT, Int.reduceLE, Int.reduceAdd, Int.reduceSub, Int.reduceMul, Int.reduceEq, Int.reduceNeg, reduceCtorEq, resV, resAll, ARes.ev, LV.flat, ite_true, ite_false, exists_eq_left', exists_eq_left, keyOf, implies_true, fillC, capOf]
          refine callK_of (h_l2Made (by simp)) ?_
          simp (disch := omega) only [splice, ↓SXd, SXu, slBounds, ↓sop, ↓aop, ↓reduceIte, LV.cells, AOp.dst, LV.I, LV.B, LV.U, LV.S, LV.nil, Nat.reduceEqDiff, Nat.reduceAdd, Nat.reduceMul, Nat.reduceSub, Nat.reduceLeDiff, Nat.reduceBEq, Nat.reduceDiv, Nat.reduceMod, Int.reduceToNat, Int.reduceLT, Int.reduceLE, Int.reduceAdd, Int.reduceSub, Int.reduceMul, Int.reduceEq, Int.reduceNeg, reduceCtorEq, resV, resAll, ARes.ev, LV.flat, ite_true, ite_false, exists_eq_left', exists_eq_left, keyOf, implies_true, fillC, capOf]
          simp (disch := omega) only [f4, splice, hat, ↓SXd, SXu, slBounds, ↓sop, ↓aop, ↓reduceIte, LV.cells, AOp.dst, LV.I, LV.B, LV.U, LV.S, LV.nil, Nat.reduceEqDiff, Nat.reduceAdd, Nat.reduceMul, Nat.reduceSub, Nat.reduceLeDiff, Nat.reduceBEq, Nat.reduceDiv, Nat.reduceMod, Int.reduceToNat, Int.reduceLT, Int.reduceLE, Int.reduceAdd, Int.reduceSub, Int.reduceMul, Int.reduceEq, Int.reduceNeg, reduceCtorEq, resV, resAll, ARes.ev, LV.flat, ite_true, ite_false, exists_eq_left', exists_eq_left, keyOf, implies_true, fillC, capOf]
          rw [show (LV.val (.int .i64 c.a) :: LV.val (.int .i64 c.b) :: LV.val (.int .i64 c.c) :: triL cs) = triL (List.take 0 cs ++ c :: List.drop 0 cs) by simp [triL, Cell.row], show 1 + (cs.length - 0) = (List.take 0 cs ++ c :: List.drop 0 cs).length by simp; omega]
          exact cmp_keep1 (j := 6) rfl (triL_lo _) (by simp [rn, rn0, rn1, keepR_n])
        · refine appendK_pos hk0 (by rw [getCells_app ht]; exact g1) (by rw [at_j]; rfl) (by simp) ?_
          simp (disch := omega) only [hat, ↓SXd, SXu, slBounds, ↓sop, ↓aop, ↓reduceIte, LV.cells, AOp.dst, LV.I, LV.B, LV.U, LV.S, LV.nil, Nat.reduceEqDiff, Nat.reduceAdd, Nat.reduceMul, Nat.reduceSub, Nat.reduceLeDiff, Nat.reduceBEq, Nat.reduceDiv, Nat.reduceMod, Int.reduceToNat, Int.reduceLT, Int.reduceLE, Int.reduceAdd, Int.reduceSub, Int.reduceMul, Int.reduceEq, Int.reduceNeg, reduceCtorEq, resV, resAll, ARes.ev, LV.flat, ite_true, ite_false, exists_eq_left', exists_eq_left, keyOf, implies_true, fillC, capOf]
          refine appendK_pos (by omega) (by rw [cells_j]; rfl) (by rw [at_j]; rfl) (by simp [hT1]) ?_
          simp (disch := omega) only [hat, ↓SXd, SXu, slBounds, ↓sop, ↓aop, ↓reduceIte, LV.cells, AOp.dst, LV.I, LV.B, LV.U, LV.S, LV.nil, Nat.reduceEqDiff, Nat.reduceAdd, Nat.reduceMul, Nat.reduceSub, Nat.reduceLeDiff, Nat.reduceBEq, Nat.reduceDiv, Nat.reduceMod, Int.reduceToNat, Int.reduceLT, Int.reduceLE, Int.reduceAdd, Int.reduceSub, Int.reduceMul, Int.reduceEq, Int.reduceNeg, reduceCtorEq, resV, resAll, ARes.ev, LV.flat, ite_true, ite_false, exists_eq_left', exists_eq_left, keyOf, implies_true, fillC, capOf]
          refine appendK_pos (by omega) (by rw [getCells_app ht]; exact g2) (by rw [at_j]; rfl) (by simp [hT1]; omega) ?_
          simp (disch := omega) only [hat, ↓SXd, SXu, slBounds, ↓sop, ↓aop, ↓reduceIte, LV.cells, AOp.dst, LV.I, LV.B, LV.U, LV.S, LV.nil, Nat.reduceEqDiff, Nat.reduceAdd, Nat.reduceMul, Nat.reduceSub, Nat.reduceLeDiff, Nat.reduceBEq, Nat.reduceDiv, Nat.reduceMod, Int.reduceToNat, Int.reduceLT, Int.reduceLE, Int.reduceAdd, Int.reduceSub, Int.reduceMul, Int.reduceEq, Int.reduceNeg, reduceCtorEq, resV, resAll, ARes.ev, LV.flat, ite_true, ite_false, exists_eq_left', exists_eq_left, keyOf, implies_true, fillC, capOf]
          refine callK_of (h_l2Made (by simp)) ?_
          simp (disch := omega) only [splice, ↓SXd, SXu, slBounds, ↓sop, ↓aop, ↓reduceIte, LV.cells, AOp.dst, LV.I, LV.B, LV.U, LV.S, LV.nil, Nat.reduceEqDiff, Nat.reduceAdd, Nat.reduceMul, Nat.reduceSub, Nat.reduceLeDiff, Nat.reduceBEq, Nat.reduceDiv, Nat.reduceMod, Int.reduceToNat, Int.reduceLT, Int.reduceLE, Int.reduceAdd, Int.reduceSub, Int.reduceMul, Int.reduceEq, Int.reduceNeg, reduceCtorEq, resV, resAll, ARes.ev, LV.flat, ite_true, ite_false, exists_eq_left', exists_eq_left, keyOf, implies_true, fillC, capOf]
          simp (disch := omega) only [f4, splice, hat, ↓SXd, SXu, slBounds, ↓sop, ↓aop, ↓reduceIte, LV.cells, AOp.dst, LV.I, LV.B, LV.U, LV.S, LV.nil, Nat.reduceEqDiff, Nat.reduceAdd, Nat.reduceMul, Nat.reduceSub, Nat.reduceLeDiff, Nat.reduceBEq, Nat.reduceDiv, Nat.reduceMod, Int.reduceToNat, Int.reduceLT, Int.reduceLE, Int.reduceAdd, Int.reduceSub, Int.reduceMul, Int.reduceEq, Int.reduceNeg, reduceCtorEq, resV, resAll, ARes.ev, LV.flat, ite_true, ite_false, exists_eq_left', exists_eq_left, keyOf, implies_true, fillC, capOf]
          rw [show List.take ((k + 1) * 3) (List.take (k * 3) (triL (List.take k cs)) ++ [LV.val (.int .i64 c.a), LV.val (.int .i64 c.b), LV.val (.int .i64 c.c)]) ++ triL (List.drop k cs) = triL (List.take k cs ++ c :: List.drop k cs) by
            rw [List.take_of_length_le (by simp [hT1]; omega), List.take_of_length_le (by omega)]
            simp [triL, Cell.row], show k + 1 + (cs.length - k) = (List.take k cs ++ c :: List.drop k cs).length by simp; omega]
          exact cmp_keep1 (j := 7) rfl (triL_lo _) (by simp [rn, rn0, rn1, keepR_n])
  · have hkn : k = cs.length := by omega
    have hwp := insW_at k (by omega) hlo (fun h => absurd h hkl)
    rw [hwp]
    have hat : ∀ L : Mem, (M ++ L)[t]? = M[t]? := fun L => List.getElem?_append_left ht
    have g1 : getCells M t 0 (k * 3) = some (triL (cs.take k)) := Tri.all (Tri.take hT (by omega)) (by simp; omega)
    have hT1 : (triL (cs.take k)).length = k * 3 := by rw [triL_len]; simp; omega
    have hz : cs.length - k = 0 := by omega
    simp (disch := omega) only [f2, f3, f4, f5, hgE, Nat.sub_zero, hz, ↓SXd, SXu, slBounds, ↓sop, ↓aop, ↓reduceIte, LV.cells, AOp.dst, LV.I, LV.B, LV.U, LV.S, LV.nil, Nat.reduceEqDiff, Nat.reduceAdd, Nat.reduceMul, Nat.reduceSub, Nat.reduceLeDiff, Nat.reduceBEq, Nat.reduceDiv, Nat.reduceMod, Int.reduceToNat, Int.reduceLT, Int.reduceLE, Int.reduceAdd, Int.reduceSub, Int.reduceMul, Int.reduceEq, Int.reduceNeg, reduceCtorEq, resV, resAll, ARes.ev, LV.flat, ite_true, ite_false, exists_eq_left', exists_eq_left, keyOf, implies_true, fillC, capOf]
    rcases Nat.eq_zero_or_pos k with hk0 | hk0
    · subst hk0
      refine appendK_zero ?_
      simp (disch := omega) only [hat, ↓SXd, SXu, slBounds, ↓sop, ↓aop, ↓reduceIte, LV.cells, AOp.dst, LV.I, LV.B, LV.U, LV.S, LV.nil, Nat.reduceEqDiff, Nat.reduceAdd, Nat.reduceMul, Nat.reduceSub, Nat.reduceLeDiff, Nat.reduceBEq, Nat.reduceDiv, Nat.reduceMod, Int.reduceToNat, Int.reduceLT, Int.reduceLE, Int.reduceAdd, Int.reduceSub, Int.reduceMul, Int.reduceEq, Int.reduceNeg, reduceCtorEq, resV, resAll, ARes.ev, LV.flat, ite_true, ite_false, exists_eq_left', exists_eq_left, keyOf, implies_true, fillC, capOf]
      refine appendK_pos (by omega) (by rw [cells_j]; rfl) (by rw [at_j]; rfl) (by simp) ?_
      simp (disch := omega) only [hat, ↓SXd, SXu, slBounds, ↓sop, ↓aop, ↓reduceIte, LV.cells, AOp.dst, LV.I, LV.B, LV.U, LV.S, LV.nil, Nat.reduceEqDiff, Nat.reduceAdd, Nat.reduceMul, Nat.reduceSub, Nat.reduceLeDiff, Nat.reduceBEq, Nat.reduceDiv, Nat.reduceMod, Int.reduceToNat, Int.reduceLT, Int.reduceLE, Int.reduceAdd, Int.reduceSub, Int.reduceMul, Int.reduceEq, Int.reduceNeg, reduceCtorEq, resV, resAll, ARes.ev, LV.flat, ite_true, ite_false, exists_eq_left', exists_eq_left, keyOf, implies_true, fillC, capOf]
      refine appendK_zero ?_
      simp (disch := omega) only [List.length_append, List.length_set, hat, ↓SXd, SXu, slBounds, ↓sop, ↓aop, ↓reduceIte, LV.cells, AOp.dst, LV.I, LV.B, LV.U, LV.S, LV.nil, Nat.reduceEqDiff, Nat.reduceAdd, Nat.reduceMul, Nat.reduceSub, Nat.reduceLeDiff, Nat.reduceBEq, Nat.reduceDiv, Nat.reduceMod, Int.reduceToNat, Int.reduceLT, Int.reduceLE, Int.reduceAdd, Int.reduceSub, Int.reduceMul, Int.reduceEq, Int.reduceNeg, reduceCtorEq, resV, resAll, ARes.ev, LV.flat, ite_true, ite_false, exists_eq_left', exists_eq_left, keyOf, implies_true, fillC, capOf]
      refine callK_of (h_l2Made (by simp)) ?_
      simp (disch := omega) only [splice, ↓SXd, SXu, slBounds, ↓sop, ↓aop, ↓reduceIte, LV.cells, AOp.dst, LV.I, LV.B, LV.U, LV.S, LV.nil, Nat.reduceEqDiff, Nat.reduceAdd, Nat.reduceMul, Nat.reduceSub, Nat.reduceLeDiff, Nat.reduceBEq, Nat.reduceDiv, Nat.reduceMod, Int.reduceToNat, Int.reduceLT, Int.reduceLE, Int.reduceAdd, Int.reduceSub, Int.reduceMul, Int.reduceEq, Int.reduceNeg, reduceCtorEq, resV, resAll, ARes.ev, LV.flat, ite_true, ite_false, exists_eq_left', exists_eq_left, keyOf, implies_true, fillC, capOf]
      simp (disch := omega) only [f4, splice, hat, ↓SXd, SXu, slBounds, ↓sop, ↓aop, ↓reduceIte, LV.cells, AOp.dst, LV.I, LV.B, LV.U, LV.S, LV.nil, Nat.reduceEqDiff, Nat.reduceAdd, Nat.reduceMul, Nat.reduceSub, Nat.reduceLeDiff, Nat.reduceBEq, Nat.reduceDiv, Nat.reduceMod, Int.reduceToNat, Int.reduceLT, Int.reduceLE, Int.reduceAdd, Int.reduceSub, Int.reduceMul, Int.reduceEq, Int.reduceNeg, reduceCtorEq, resV, resAll, ARes.ev, LV.flat, ite_true, ite_false, exists_eq_left', exists_eq_left, keyOf, implies_true, fillC, capOf]
      have hnil : cs = [] := List.eq_nil_of_length_eq_zero (by omega)
      subst hnil
      exact cmp_keep1 (j := 5) (cs := triL [c]) rfl (triL_lo _) (by simp [rn, rn0, rn1, keepR_n])
    · refine appendK_pos hk0 (by rw [getCells_app ht]; exact g1) (by rw [at_j]; rfl) (by simp) ?_
      simp (disch := omega) only [hat, ↓SXd, SXu, slBounds, ↓sop, ↓aop, ↓reduceIte, LV.cells, AOp.dst, LV.I, LV.B, LV.U, LV.S, LV.nil, Nat.reduceEqDiff, Nat.reduceAdd, Nat.reduceMul, Nat.reduceSub, Nat.reduceLeDiff, Nat.reduceBEq, Nat.reduceDiv, Nat.reduceMod, Int.reduceToNat, Int.reduceLT, Int.reduceLE, Int.reduceAdd, Int.reduceSub, Int.reduceMul, Int.reduceEq, Int.reduceNeg, reduceCtorEq, resV, resAll, ARes.ev, LV.flat, ite_true, ite_false, exists_eq_left', exists_eq_left, keyOf, implies_true, fillC, capOf]
      refine appendK_pos (by omega) (by rw [cells_j]; rfl) (by rw [at_j]; rfl) (by simp [hT1]) ?_
      simp (disch := omega) only [hat, ↓SXd, SXu, slBounds, ↓sop, ↓aop, ↓reduceIte, LV.cells, AOp.dst, LV.I, LV.B, LV.U, LV.S, LV.nil, Nat.reduceEqDiff, Nat.reduceAdd, Nat.reduceMul, Nat.reduceSub, Nat.reduceLeDiff, Nat.reduceBEq, Nat.reduceDiv, Nat.reduceMod, Int.reduceToNat, Int.reduceLT, Int.reduceLE, Int.reduceAdd, Int.reduceSub, Int.reduceMul, Int.reduceEq, Int.reduceNeg, reduceCtorEq, resV, resAll, ARes.ev, LV.flat, ite_true, ite_false, exists_eq_left', exists_eq_left, keyOf, implies_true, fillC, capOf]
      refine appendK_zero ?_
      simp (disch := omega) only [hat, ↓SXd, SXu, slBounds, ↓sop, ↓aop, ↓reduceIte, LV.cells, AOp.dst, LV.I, LV.B, LV.U, LV.S, LV.nil, Nat.reduceEqDiff, Nat.reduceAdd, Nat.reduceMul, Nat.reduceSub, Nat.reduceLeDiff, Nat.reduceBEq, Nat.reduceDiv, Nat.reduceMod, Int.reduceToNat, Int.reduceLT, Int.reduceLE, Int.reduceAdd, Int.reduceSub, Int.reduceMul, Int.reduceEq, Int.reduceNeg, reduceCtorEq, resV, resAll, ARes.ev, LV.flat, ite_true, ite_false, exists_eq_left', exists_eq_left, keyOf, implies_true, fillC, capOf]
      refine callK_of (h_l2Made (by simp)) ?_
      simp (disch := omega) only [splice, ↓SXd, SXu, slBounds, ↓sop, ↓aop, ↓reduceIte, LV.cells, AOp.dst, LV.I, LV.B, LV.U, LV.S, LV.nil, Nat.reduceEqDiff, Nat.reduceAdd, Nat.reduceMul, Nat.reduceSub, Nat.reduceLeDiff, Nat.reduceBEq, Nat.reduceDiv, Nat.reduceMod, Int.reduceToNat, Int.reduceLT, Int.reduceLE, Int.reduceAdd, Int.reduceSub, Int.reduceMul, Int.reduceEq, Int.reduceNeg, reduceCtorEq, resV, resAll, ARes.ev, LV.flat, ite_true, ite_false, exists_eq_left', exists_eq_left, keyOf, implies_true, fillC, capOf]
      simp (disch := omega) only [f4, splice, hat, ↓SXd, SXu, slBounds, ↓sop, ↓aop, ↓reduceIte, LV.cells, AOp.dst, LV.I, LV.B, LV.U, LV.S, LV.nil, Nat.reduceEqDiff, Nat.reduceAdd, Nat.reduceMul, Nat.reduceSub, Nat.reduceLeDiff, Nat.reduceBEq, Nat.reduceDiv, Nat.reduceMod, Int.reduceToNat, Int.reduceLT, Int.reduceLE, Int.reduceAdd, Int.reduceSub, Int.reduceMul, Int.reduceEq, Int.reduceNeg, reduceCtorEq, resV, resAll, ARes.ev, LV.flat, ite_true, ite_false, exists_eq_left', exists_eq_left, keyOf, implies_true, fillC, capOf]
      rw [show List.take (k * 3) (triL (List.take k cs)) ++ [LV.val (.int .i64 c.a), LV.val (.int .i64 c.b), LV.val (.int .i64 c.c)] = triL (List.take k cs ++ c :: List.drop k cs) by
        rw [List.take_of_length_le (by omega), hkn]
        simp [triL, Cell.row], show k + 1 = (List.take k cs ++ c :: List.drop k cs).length by simp; omega]
      exact cmp_keep1 (j := 6) rfl (triL_lo _) (by simp [rn, rn0, rn1, keepR_n])

theorem d_DrawCountDominoes {t o : Nat} {bs : List Nat} {M : Mem} (hB : Bytes M t o bs) (h255 : ∀ b ∈ bs, b ≤ 255) (hl : bs.length ≤ 1000000000) : CallsR PG F.spec_DrawCountDominoes [.ref t o bs.length] M fun v N => HeapE M v N ∧ Pre M N := by
  have htM := hB.lt
  refine callsR_run K.spec_DrawCountDominoes rfl ?_
  simp (disch := omega) only [C.spec_DrawCountDominoes, splice, ↓SXd, SXu, slBounds, ↓sop, ↓aop, ↓reduceIte, LV.cells, AOp.dst, LV.I, LV.B, LV.U, LV.S, LV.nil, Nat.reduceEqDiff, Nat.reduceAdd, Nat.reduceMul, Nat.reduceSub, Nat.reduceLeDiff, Nat.reduceBEq, Nat.reduceDiv, Nat.reduceMod, Int.reduceToNat, Int.reduceLT, Int.reduceLE, Int.reduceAdd, Int.reduceSub, Int.reduceMul, Int.reduceEq, Int.reduceNeg, reduceCtorEq, resV, resAll, ARes.ev, LV.flat, ite_true, ite_false, exists_eq_left', exists_eq_left, keyOf, implies_true, fillC, capOf]
  have hc := CurAt.new2 (b := some (.row [.I 0, .I 0, .I 0, .nil] true 0)) hB h255 hl
  refine callR_of (d_heapE hc (by omega)) ?_
  rintro _ N1 ⟨⟨x, y, z, cs, u, rfl, hu, hul, hcl⟩, hd1⟩
  rw [List.length_append] at hul
  simp only [List.length_cons, List.length_nil] at hul
  have b2 : Live N1 M.length (.row [.I 0, .I 0, .I 0, .nil] true 0) := hd1.live Live.new (by omega)
  have hP1 : Pre M N1 := hd1.pre (Pre.app _ _) (by omega)
  have hNl := hd1.2.1
  simp only [List.length_append, List.length_cons, List.length_nil] at hNl
  have hc1 := hd1.1
  have hul2 := hu.lt
  obtain ⟨B, hBl, hd1⟩ : ∃ B : Mem, B.length = M.length + 2 ∧ DrawN B (M.length + 1) t o bs (0 + 160) N1 := ⟨_, by simp, hd1⟩
  simp (disch := omega) only [splice, ↓SXd, SXu, slBounds, ↓sop, ↓aop, ↓reduceIte, LV.cells, AOp.dst, LV.I, LV.B, LV.U, LV.S, LV.nil, Nat.reduceEqDiff, Nat.reduceAdd, Nat.reduceMul, Nat.reduceSub, Nat.reduceLeDiff, Nat.reduceBEq, Nat.reduceDiv, Nat.reduceMod, Int.reduceToNat, Int.reduceLT, Int.reduceLE, Int.reduceAdd, Int.reduceSub, Int.reduceMul, Int.reduceEq, Int.reduceNeg, reduceCtorEq, resV, resAll, ARes.ev, LV.flat, ite_true, ite_false, exists_eq_left', exists_eq_left, keyOf, implies_true, fillC, capOf]
  have hc2 : CurAt (N1 ++ [some (.row [.I x, .I y, .I z, .ref u 0 cs.length] true 0)]) (M.length + 1) t o bs (0 + 160) := hc1.pre (Pre.app _ _)
  have b4 : Live (N1 ++ [some (.row [.I x, .I y, .I z, .ref u 0 cs.length] true 0)]) N1.length (.row [.I x, .I y, .I z, .ref u 0 cs.length] true 0) := Live.new
  have bu : Live (N1 ++ [some (.row [.I x, .I y, .I z, .ref u 0 cs.length] true 0)]) u (.row (triL cs) true 3) := hu.app
  have b2' : Live (N1 ++ [some (.row [.I x, .I y, .I z, .ref u 0 cs.length] true 0)]) M.length (.row [.I 0, .I 0, .I 0, .nil] true 0) := b2.app
  have hP2 : Pre M (N1 ++ [some (.row [.I x, .I y, .I z, .ref u 0 cs.length] true 0)]) := hP1.app'
  have hdB : DrawN B (M.length + 1) t o bs (0 + 160) (N1 ++ [some (Blk.row [.I x, .I y, .I z, .ref u 0 cs.length] true 0)]) := hd1.keep (by omega) (by omega) (Nat.le_refl _) (by simp) fun q q1 => List.getElem?_append_left (by omega)
  have hNl2 : N1.length < (N1 ++ [some (Blk.row [.I x, .I y, .I z, .ref u 0 cs.length] true 0)]).length := by simp
  have hcall := h_l2Heap (x := x) (y := y) (z := z) bu.has (show cs.length ≤ 1000000000 by omega)
  have hm4 : M.length + 2 ≤ N1.length := by omega
  generalize N1.length = m4 at b4 hNl2 hm4 ⊢
  generalize N1 ++ [some (Blk.row [.I x, .I y, .I z, .ref u 0 cs.length] true 0)] = N2 at *
  clear hd1
  have hpM : M.length + 1 < B.length := by omega
  have htN : t < B.length := by omega
  have fin : ∀ {N : Mem} {X Y Z : Int} {v : Nat} {ds : List Cell}, Live N M.length (.row [.I 0, .I 0, .I 0, .nil] true 0) → Live N v (.row (triL ds) true 3) → M.length ≤ v → ds.length ≤ 65 → Pre M N → ∀ N', N'.length = N.length → Live N' M.length (.row [.I X, .I Y, .I Z, .ref v 0 ds.length] true 0) → (∀ q, q ≠ M.length → q < N.length → N'[q]? = N[q]?) → HeapE M (.agg [.I X, .I Y, .I Z, .ref v 0 ds.length]) N' ∧ Pre M N' := fun {N X Y Z v ds} q1 q2 q3 q4 q5 N' k1 k2 k3 =>
    ⟨⟨X, Y, Z, ds, v, rfl, live_step q2 (q2.ne_esz q1 (by decide)) k3, q3, q4⟩, pre_step q5 (Nat.le_refl _) (j := 0) k1 k3⟩
  refine callK_of hcall ?_
  simp (disch := omega) only [↓SXd, SXu, slBounds, ↓sop, ↓aop, ↓reduceIte, LV.cells, AOp.dst, LV.I, LV.B, LV.U, LV.S, LV.nil, Nat.reduceEqDiff, Nat.reduceAdd, Nat.reduceMul, Nat.reduceSub, Nat.reduceLeDiff, Nat.reduceBEq, Nat.reduceDiv, Nat.reduceMod, Int.reduceToNat, Int.reduceLT, Int.reduceLE, Int.reduceAdd, Int.reduceSub, Int.reduceMul, Int.reduceEq, Int.reduceNeg, reduceCtorEq, resV, resAll, ARes.ev, LV.flat, ite_true, ite_false, exists_eq_left', exists_eq_left, keyOf, implies_true, fillC, capOf]
  by_cases hH : HeapOK x y z cs
  rotate_left
  · simp (disch := omega) only [hH, b4.cells, ↓SXd, SXu, slBounds, ↓sop, ↓aop, ↓reduceIte, LV.cells, AOp.dst, LV.I, LV.B, LV.U, LV.S, LV.nil, Nat.reduceEqDiff, Nat.reduceAdd, Nat.reduceMul, Nat.reduceSub, Nat.reduceLeDiff, Nat.reduceBEq, Nat.reduceDiv, Nat.reduceMod, Int.reduceToNat, Int.reduceLT, Int.reduceLE, Int.reduceAdd, Int.reduceSub, Int.reduceMul, Int.reduceEq, Int.reduceNeg, reduceCtorEq, resV, resAll, ARes.ev, LV.flat, ite_true, ite_false, exists_eq_left', exists_eq_left, keyOf, implies_true, fillC, capOf]
    refine memK_box b2' (by simp) fun N' k1 k2 k3 => ?_
    simp (disch := omega) only [k2.cells, ↓SXd, SXu, slBounds, ↓sop, ↓aop, ↓reduceIte, LV.cells, AOp.dst, LV.I, LV.B, LV.U, LV.S, LV.nil, Nat.reduceEqDiff, Nat.reduceAdd, Nat.reduceMul, Nat.reduceSub, Nat.reduceLeDiff, Nat.reduceBEq, Nat.reduceDiv, Nat.reduceMod, Int.reduceToNat, Int.reduceLT, Int.reduceLE, Int.reduceAdd, Int.reduceSub, Int.reduceMul, Int.reduceEq, Int.reduceNeg, reduceCtorEq, resV, resAll, ARes.ev, LV.flat, ite_true, ite_false, exists_eq_left', exists_eq_left, keyOf, implies_true, fillC, capOf]
    exact fin b2' bu (by omega) hcl hP2 N' k1 k2 k3
  simp (disch := omega) only [hH, ↓SXd, SXu, slBounds, ↓sop, ↓aop, ↓reduceIte, LV.cells, AOp.dst, LV.I, LV.B, LV.U, LV.S, LV.nil, Nat.reduceEqDiff, Nat.reduceAdd, Nat.reduceMul, Nat.reduceSub, Nat.reduceLeDiff, Nat.reduceBEq, Nat.reduceDiv, Nat.reduceMod, Int.reduceToNat, Int.reduceLT, Int.reduceLE, Int.reduceAdd, Int.reduceSub, Int.reduceMul, Int.reduceEq, Int.reduceNeg, reduceCtorEq, resV, resAll, ARes.ev, LV.flat, ite_true, ite_false, exists_eq_left', exists_eq_left, keyOf, implies_true, fillC, capOf]
  refine callR_of (d_one hc2 (by omega)) ?_
  rintro _ N3 ⟨⟨b, rfl⟩, hd3⟩
  have c4 := hd3.live b4 (by omega)
  have cu := hd3.live bu (by omega)
  have c2 := hd3.live b2' (by omega)
  have hP3 := hd3.pre hP2 (by omega)
  cases b
  · simp (disch := omega) only [c4.cells, ↓SXd, SXu, slBounds, ↓sop, ↓aop, ↓reduceIte, LV.cells, AOp.dst, LV.I, LV.B, LV.U, LV.S, LV.nil, Nat.reduceEqDiff, Nat.reduceAdd, Nat.reduceMul, Nat.reduceSub, Nat.reduceLeDiff, Nat.reduceBEq, Nat.reduceDiv, Nat.reduceMod, Int.reduceToNat, Int.reduceLT, Int.reduceLE, Int.reduceAdd, Int.reduceSub, Int.reduceMul, Int.reduceEq, Int.reduceNeg, reduceCtorEq, resV, resAll, ARes.ev, LV.flat, ite_true, ite_false, exists_eq_left', exists_eq_left, keyOf, implies_true, fillC, capOf]
    refine memK_box c2 (by simp) fun N' k1 k2 k3 => ?_
    simp (disch := omega) only [k2.cells, ↓SXd, SXu, slBounds, ↓sop, ↓aop, ↓reduceIte, LV.cells, AOp.dst, LV.I, LV.B, LV.U, LV.S, LV.nil, Nat.reduceEqDiff, Nat.reduceAdd, Nat.reduceMul, Nat.reduceSub, Nat.reduceLeDiff, Nat.reduceBEq, Nat.reduceDiv, Nat.reduceMod, Int.reduceToNat, Int.reduceLT, Int.reduceLE, Int.reduceAdd, Int.reduceSub, Int.reduceMul, Int.reduceEq, Int.reduceNeg, reduceCtorEq, resV, resAll, ARes.ev, LV.flat, ite_true, ite_false, exists_eq_left', exists_eq_left, keyOf, implies_true, fillC, capOf]
    exact fin c2 cu (by omega) hcl hP3 N' k1 k2 k3
  simp (disch := omega) only [↓SXd, SXu, slBounds, ↓sop, ↓aop, ↓reduceIte, LV.cells, AOp.dst, LV.I, LV.B, LV.U, LV.S, LV.nil, Nat.reduceEqDiff, Nat.reduceAdd, Nat.reduceMul, Nat.reduceSub, Nat.reduceLeDiff, Nat.reduceBEq, Nat.reduceDiv, Nat.reduceMod, Int.reduceToNat, Int.reduceLT, Int.reduceLE, Int.reduceAdd, Int.reduceSub, Int.reduceMul, Int.reduceEq, Int.reduceNeg, reduceCtorEq, resV, resAll, ARes.ev, LV.flat, ite_true, ite_false, exists_eq_left', exists_eq_left, keyOf, implies_true, fillC, capOf]
  refine callR_of (d_amongNew (xs := [2, 1, 3]) hd3.1 (by omega) (by simp) (by simp)) ?_
  rintro _ N4 ⟨⟨X, rfl, hX⟩, hd4⟩
  simp (disch := omega) only [↓SXd, SXu, slBounds, ↓sop, ↓aop, ↓reduceIte, LV.cells, AOp.dst, LV.I, LV.B, LV.U, LV.S, LV.nil, Nat.reduceEqDiff, Nat.reduceAdd, Nat.reduceMul, Nat.reduceSub, Nat.reduceLeDiff, Nat.reduceBEq, Nat.reduceDiv, Nat.reduceMod, Int.reduceToNat, Int.reduceLT, Int.reduceLE, Int.reduceAdd, Int.reduceSub, Int.reduceMul, Int.reduceEq, Int.reduceNeg, reduceCtorEq, resV, resAll, ARes.ev, LV.flat, ite_true, ite_false, exists_eq_left', exists_eq_left, keyOf, implies_true, fillC, capOf]
  refine callR_of (d_amongNew (xs := [2, 3, 1]) hd4.1 (by omega) (by simp) (by simp)) ?_
  rintro _ N5 ⟨⟨Y, rfl, hY⟩, hd5⟩
  simp (disch := omega) only [↓SXd, SXu, slBounds, ↓sop, ↓aop, ↓reduceIte, LV.cells, AOp.dst, LV.I, LV.B, LV.U, LV.S, LV.nil, Nat.reduceEqDiff, Nat.reduceAdd, Nat.reduceMul, Nat.reduceSub, Nat.reduceLeDiff, Nat.reduceBEq, Nat.reduceDiv, Nat.reduceMod, Int.reduceToNat, Int.reduceLT, Int.reduceLE, Int.reduceAdd, Int.reduceSub, Int.reduceMul, Int.reduceEq, Int.reduceNeg, reduceCtorEq, resV, resAll, ARes.ev, LV.flat, ite_true, ite_false, exists_eq_left', exists_eq_left, keyOf, implies_true, fillC, capOf]
  refine callR_of (d_amongNew (xs := [2, 3, 1]) hd5.1 (by omega) (by simp) (by simp)) ?_
  rintro _ N6 ⟨⟨Z, rfl, hZ⟩, hd6⟩
  have hSS : Sides X Y Z := by simp at hX hY hZ; exact ⟨by omega, by omega, by omega⟩
  have hD6 := ((hd3.trans hd4).trans hd5).trans hd6
  have hDB := hdB.trans hD6
  have e4 := hD6.live b4 (by omega)
  have e2 := hD6.live b2' (by omega)
  have hN6 := hD6.2.1
  simp (disch := omega) only [↓SXd, SXu, slBounds, ↓sop, ↓aop, ↓reduceIte, LV.cells, AOp.dst, LV.I, LV.B, LV.U, LV.S, LV.nil, Nat.reduceEqDiff, Nat.reduceAdd, Nat.reduceMul, Nat.reduceSub, Nat.reduceLeDiff, Nat.reduceBEq, Nat.reduceDiv, Nat.reduceMod, Int.reduceToNat, Int.reduceLT, Int.reduceLE, Int.reduceAdd, Int.reduceSub, Int.reduceMul, Int.reduceEq, Int.reduceNeg, reduceCtorEq, resV, resAll, ARes.ev, LV.flat, ite_true, ite_false, exists_eq_left', exists_eq_left, keyOf, implies_true, fillC, capOf]
  refine callK_of h_l2Empty ?_
  simp (disch := omega) only [splice, ↓SXd, SXu, slBounds, ↓sop, ↓aop, ↓reduceIte, LV.cells, AOp.dst, LV.I, LV.B, LV.U, LV.S, LV.nil, Nat.reduceEqDiff, Nat.reduceAdd, Nat.reduceMul, Nat.reduceSub, Nat.reduceLeDiff, Nat.reduceBEq, Nat.reduceDiv, Nat.reduceMod, Int.reduceToNat, Int.reduceLT, Int.reduceLE, Int.reduceAdd, Int.reduceSub, Int.reduceMul, Int.reduceEq, Int.reduceNeg, reduceCtorEq, resV, resAll, ARes.ev, LV.flat, ite_true, ite_false, exists_eq_left', exists_eq_left, keyOf, implies_true, fillC, capOf]
  refine memK_box e4.app (by simp) fun N7 k1 k2 k3 => ?_
  simp only [List.length_append, List.length_singleton] at k1
  have hD7 : DrawN B (M.length + 1) t o bs (0 + 160 + 2 + 2 + 2 + 2) N7 := hDB.keepW hpM htN (w := m4) (by omega) (by omega) fun q q1 q2 => by rw [k3 q q1 (by simp; omega), List.getElem?_append_left q2]
  have f2 : Live N7 M.length (.row [.I 0, .I 0, .I 0, .nil] true 0) := live_step e2.app (by omega) k3
  have fv : Live N7 N6.length (.row (triL []) true 3) := live_step (Live.new : Live (N6 ++ [some (.row [] true 3)]) N6.length (.row (triL []) true 3)) (by have := e4.lt; omega) k3
  have hP7 : Pre M N7 := pre_step (hD6.pre hP2 (by omega)).app' (by omega) (j := 0) (by simp; omega) k3
  change Live N7 m4 (.row [.I X, .I Y, .I Z, .ref N6.length 0 ([] : List Cell).length] true 0) at k2
  simp (disch := omega) only [↓SXd, SXu, slBounds, ↓sop, ↓aop, ↓reduceIte, LV.cells, AOp.dst, LV.I, LV.B, LV.U, LV.S, LV.nil, Nat.reduceEqDiff, Nat.reduceAdd, Nat.reduceMul, Nat.reduceSub, Nat.reduceLeDiff, Nat.reduceBEq, Nat.reduceDiv, Nat.reduceMod, Int.reduceToNat, Int.reduceLT, Int.reduceLE, Int.reduceAdd, Int.reduceSub, Int.reduceMul, Int.reduceEq, Int.reduceNeg, reduceCtorEq, resV, resAll, ARes.ev, LV.flat, ite_true, ite_false, exists_eq_left', exists_eq_left, keyOf, implies_true, fillC, capOf]
  refine callR_of (d_pick hD7.1 (by omega)) ?_
  rintro _ N8 ⟨⟨k, rfl, hk⟩, hd8⟩
  have hk3 : k ≤ 3 := by omega
  simp (disch := omega) only [↓SXd, SXu, slBounds, ↓sop, ↓aop, ↓reduceIte, LV.cells, AOp.dst, LV.I, LV.B, LV.U, LV.S, LV.nil, Nat.reduceEqDiff, Nat.reduceAdd, Nat.reduceMul, Nat.reduceSub, Nat.reduceLeDiff, Nat.reduceBEq, Nat.reduceDiv, Nat.reduceMod, Int.reduceToNat, Int.reduceLT, Int.reduceLE, Int.reduceAdd, Int.reduceSub, Int.reduceMul, Int.reduceEq, Int.reduceNeg, reduceCtorEq, resV, resAll, ARes.ev, LV.flat, ite_true, ite_false, exists_eq_left', exists_eq_left, keyOf, implies_true, fillC, capOf]
  refine ev_loop (fun m fr M' => ∃ (a v : Nat) (ds : List Cell), a + 30 * m ≤ 400 ∧ DrawN B (M.length + 1) t o bs a M' ∧ Pre M M' ∧ Live M' M.length (.row [.I 0, .I 0, .I 0, .nil] true 0) ∧ Live M' m4 (.row [.I X, .I Y, .I Z, .ref v 0 ds.length] true 0) ∧ Live M' v (.row (triL ds) true 3) ∧ M.length + 2 ≤ v ∧ ds.length + m ≤ 3 ∧
    fr 2 = .ptr M.length 0 ∧ fr 3 = .ptr (M.length + 1) 0 ∧ fr 4 = .ptr m4 0 ∧ fr 5 = .I m) k
    ⟨_, N6.length, [], by omega, hD7.trans hd8, hd8.pre hP7 (by omega), hd8.live f2 (by omega), hd8.live k2 (by omega), hd8.live fv (by omega), by omega, by simpa using hk3, rfl, rfl, rfl, rfl⟩ ?_
  clear hd8 hP7 f2 fv k1 k2 k3 hD7 hDB e2 e4 hD6 hd6 hd5 hd4 hd3 c4 cu c2 hP3 hP2 hc2 hdB b4 bu b2' hP1 hcall
  rintro m fr M' ⟨a, v, ds, ha, hD, hP, b2, b4, bv, hv, hds, f2, f3, f4, f5⟩
  simp (disch := omega) only [f2, f3, f4, f5, ↓SXd, SXu, slBounds, ↓sop, ↓aop, ↓reduceIte, LV.cells, AOp.dst, LV.I, LV.B, LV.U, LV.S, LV.nil, Nat.reduceEqDiff, Nat.reduceAdd, Nat.reduceMul, Nat.reduceSub, Nat.reduceLeDiff, Nat.reduceBEq, Nat.reduceDiv, Nat.reduceMod, Int.reduceToNat, Int.reduceLT, Int.reduceLE, Int.reduceAdd, Int.reduceSub, Int.reduceMul, Int.reduceEq, Int.reduceNeg, reduceCtorEq, resV, resAll, ARes.ev, LV.flat, ite_true, ite_false, exists_eq_left', exists_eq_left, keyOf, implies_true, fillC, capOf]
  refine condC_dec (fun hlt => ?_) (fun hlt => ?_)
  rotate_left
  · have : m = 0 := by omega
    subst this
    simp (disch := omega) only [f2, f3, f4, f5, b4.cells, ↓SXd, SXu, slBounds, ↓sop, ↓aop, ↓reduceIte, LV.cells, AOp.dst, LV.I, LV.B, LV.U, LV.S, LV.nil, Nat.reduceEqDiff, Nat.reduceAdd, Nat.reduceMul, Nat.reduceSub, Nat.reduceLeDiff, Nat.reduceBEq, Nat.reduceDiv, Nat.reduceMod, Int.reduceToNat, Int.reduceLT, Int.reduceLE, Int.reduceAdd, Int.reduceSub, Int.reduceMul, Int.reduceEq, Int.reduceNeg, reduceCtorEq, resV, resAll, ARes.ev, LV.flat, ite_true, ite_false, exists_eq_left', exists_eq_left, keyOf, implies_true, fillC, capOf]
    refine memK_box b2 (by simp) fun N' k1 k2 k3 => ?_
    simp (disch := omega) only [f2, f3, f4, f5, k2.cells, ↓SXd, SXu, slBounds, ↓sop, ↓aop, ↓reduceIte, LV.cells, AOp.dst, LV.I, LV.B, LV.U, LV.S, LV.nil, Nat.reduceEqDiff, Nat.reduceAdd, Nat.reduceMul, Nat.reduceSub, Nat.reduceLeDiff, Nat.reduceBEq, Nat.reduceDiv, Nat.reduceMod, Int.reduceToNat, Int.reduceLT, Int.reduceLE, Int.reduceAdd, Int.reduceSub, Int.reduceMul, Int.reduceEq, Int.reduceNeg, reduceCtorEq, resV, resAll, ARes.ev, LV.flat, ite_true, ite_false, exists_eq_left', exists_eq_left, keyOf, implies_true, fillC, capOf]
    exact fin b2 bv (by omega) (by omega) hP N' k1 k2 k3
  have hDl := hD.2.1
  have b4l := b4.lt
  simp (disch := omega) only [f2, f3, f4, f5, b4.cells, b4.cell, ↓SXd, SXu, slBounds, ↓sop, ↓aop, ↓reduceIte, LV.cells, AOp.dst, LV.I, LV.B, LV.U, LV.S, LV.nil, Nat.reduceEqDiff, Nat.reduceAdd, Nat.reduceMul, Nat.reduceSub, Nat.reduceLeDiff, Nat.reduceBEq, Nat.reduceDiv, Nat.reduceMod, Int.reduceToNat, Int.reduceLT, Int.reduceLE, Int.reduceAdd, Int.reduceSub, Int.reduceMul, Int.reduceEq, Int.reduceNeg, reduceCtorEq, resV, resAll, ARes.ev, LV.flat, ite_true, ite_false, exists_eq_left', exists_eq_left, keyOf, implies_true, fillC, capOf]
  refine callR_of (h_l2Box hSS) ?_
  rintro _ N9 ⟨⟨w, rfl, hw, hwl⟩, hp9⟩
  have hD9 : DrawN B (M.length + 1) t o bs a N9 := hD.keep hpM htN (Nat.le_refl _) hp9.1 fun q q1 => hp9.2 q (by omega)
  have hp9l := hp9.1
  simp (disch := omega) only [f2, f3, f4, f5, ↓SXd, SXu, slBounds, ↓sop, ↓aop, ↓reduceIte, LV.cells, AOp.dst, LV.I, LV.B, LV.U, LV.S, LV.nil, Nat.reduceEqDiff, Nat.reduceAdd, Nat.reduceMul, Nat.reduceSub, Nat.reduceLeDiff, Nat.reduceBEq, Nat.reduceDiv, Nat.reduceMod, Int.reduceToNat, Int.reduceLT, Int.reduceLE, Int.reduceAdd, Int.reduceSub, Int.reduceMul, Int.reduceEq, Int.reduceNeg, reduceCtorEq, resV, resAll, ARes.ev, LV.flat, ite_true, ite_false, exists_eq_left', exists_eq_left, keyOf, implies_true, fillC, capOf]
  refine ⟨fun b hb => by rw [hp9.2 _ b4l]; exact hb, ?_⟩
  refine callR_of (d_cell hD9.1 (by omega)) ?_
  rintro _ N10 ⟨⟨c, rfl⟩, hd10⟩
  have g4 := hd10.live (b4.pre hp9) (by omega)
  have g2 := hd10.live (b2.pre hp9) (by omega)
  have gv := hd10.live (bv.pre hp9) (by omega)
  have hD10 := hD9.trans hd10
  have hP10 := hd10.pre (hP.trans hp9) (by omega)
  simp (disch := omega) only [f2, f3, f4, f5, ↓SXd, SXu, slBounds, ↓sop, ↓aop, ↓reduceIte, LV.cells, AOp.dst, LV.I, LV.B, LV.U, LV.S, LV.nil, Nat.reduceEqDiff, Nat.reduceAdd, Nat.reduceMul, Nat.reduceSub, Nat.reduceLeDiff, Nat.reduceBEq, Nat.reduceDiv, Nat.reduceMod, Int.reduceToNat, Int.reduceLT, Int.reduceLE, Int.reduceAdd, Int.reduceSub, Int.reduceMul, Int.reduceEq, Int.reduceNeg, reduceCtorEq, resV, resAll, ARes.ev, LV.flat, ite_true, ite_false, exists_eq_left', exists_eq_left, keyOf, implies_true, fillC, capOf]
  refine ⟨fun b hb => hd10.stay (by omega) (by omega) b hb, ?_⟩
  refine callH_of (h_l2WithX gv (by omega)) ?_
  intro v2 N11 hv2 hp11 hb11
  have hil := insW_len (c := c) (cs := ds)
  have h4 := g4.pre hp11
  have hN10 := hd10.2.1
  have hN11 := hp11.1
  simp (disch := omega) only [f2, f3, f4, f5, splice, ↓SXd, SXu, slBounds, ↓sop, ↓aop, ↓reduceIte, LV.cells, AOp.dst, LV.I, LV.B, LV.U, LV.S, LV.nil, Nat.reduceEqDiff, Nat.reduceAdd, Nat.reduceMul, Nat.reduceSub, Nat.reduceLeDiff, Nat.reduceBEq, Nat.reduceDiv, Nat.reduceMod, Int.reduceToNat, Int.reduceLT, Int.reduceLE, Int.reduceAdd, Int.reduceSub, Int.reduceMul, Int.reduceEq, Int.reduceNeg, reduceCtorEq, resV, resAll, ARes.ev, LV.flat, ite_true, ite_false, exists_eq_left', exists_eq_left, keyOf, implies_true, fillC, capOf]
  refine memK_box h4 (by simp) fun N12 k1 k2 k3 => ?_
  simp (disch := omega) only [f2, f3, f4, f5, ↓SXd, SXu, slBounds, ↓sop, ↓aop, ↓reduceIte, LV.cells, AOp.dst, LV.I, LV.B, LV.U, LV.S, LV.nil, Nat.reduceEqDiff, Nat.reduceAdd, Nat.reduceMul, Nat.reduceSub, Nat.reduceLeDiff, Nat.reduceBEq, Nat.reduceDiv, Nat.reduceMod, Int.reduceToNat, Int.reduceLT, Int.reduceLE, Int.reduceAdd, Int.reduceSub, Int.reduceMul, Int.reduceEq, Int.reduceNeg, reduceCtorEq, resV, resAll, ARes.ev, LV.flat, ite_true, ite_false, exists_eq_left', exists_eq_left, keyOf, implies_true, fillC, capOf]
  have hD11 : DrawN B (M.length + 1) t o bs (a + 20) N11 := hD10.keep hpM htN (Nat.le_refl _) hp11.1 fun q q1 => hp11.2 q (by omega)
  exact ⟨m - 1, by omega, a + 20, v2, insW c ds, by omega, hD11.keepW hpM htN (w := m4) (by omega) (by omega) fun q q1 q2 => k3 q q1 q2, pre_step (hP10.trans hp11) (by omega) (j := 0) k1 k3, live_step (g2.pre hp11) (by omega) k3, k2, live_step hb11 (hb11.ne_esz h4 (by decide)) k3, by omega, by omega, f2, f3, f4, eqI (by omega)⟩
end Go.Ab
