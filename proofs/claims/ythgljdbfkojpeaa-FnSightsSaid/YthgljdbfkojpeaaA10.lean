/- Parts of the proof of FnSightsSaid: Bm C_Bn K_Bn C_Jj K_Jj Jj Bn. -/
import Derived.Test.YthgljdbfkojpeaaA9
import Derived.Test.YthgljdbfkojpeaaA4
import Derived.Test.YthgljdbfkojpeaaA8
import Derived.Test.YthgljdbfkojpeaaA3
import Derived.Test.YthgljdbfkojpeaaProg
import Derived.KernelRfl
import Derived.Test.YthgljdbfkojpeaaA7
import Derived.Test.YthgljdbfkojpeaaA6
set_option linter.all false
/- Contracts: peaks and levels, both sides. -/
namespace Go.Ab
open Go
set_option linter.unusedSimpArgs false
set_option linter.unusedVariables false
set_option maxRecDepth 20000

noncomputable def okB (x y z : Int) (cs : List Cell) : Bool := decide (HeapOK x y z cs)
def peakP (x y : Int) (ts : List Int) (p : Nat) : Bool := decide (0 < ts.getD p 0) && (nexts x y p).all fun q => decide (ts.getD q.toNat 0 < ts.getD p 0)
def peakL (x y : Int) (ts : List Int) (n : Nat) : List Int := ((List.range n).filter (peakP x y ts)).map fun (p : Nat) => (p : Int)
theorem peakL_succ {x y : Int} {ts : List Int} {n : Nat} : peakL x y ts (n + 1) = if peakP x y ts n = true then peakL x y ts n ++ [(n : Int)] else peakL x y ts n := by
  unfold peakL
  rw [List.range_succ, List.filter_append, List.map_append]
  cases hp : peakP x y ts n <;> simp [hp]
theorem peakL_len {x y : Int} {ts : List Int} {n : Nat} : (peakL x y ts n).length ≤ n := by
  unfold peakL
  rw [List.length_map]
  have := List.length_filter_le (peakP x y ts) (List.range n)
  rwa [List.length_range] at this
noncomputable def peaksOf (x y z : Int) (cs : List Cell) : List Int := if HeapOK x y z cs then peakL x y (topsOf x y cs) (x * y).toNat else []
noncomputable def lvsOf (x y z : Int) (cs : List Cell) : List Int := if HeapOK x y z cs then lvL z (topsOf x y cs) else []
theorem nexts_in {x y p q : Int} (h : q ∈ nexts x y p) : 0 ≤ q ∧ q < x * y := by
  unfold nexts nums at h
  obtain ⟨h1, _⟩ := List.mem_filter.1 h
  obtain ⟨n, hn, rfl⟩ := List.mem_map.1 h1
  have := List.mem_range.1 hn
  simp only [Int.ofNat_eq_natCast]
  omega
theorem nexts_len16 {x y p : Int} (hb : x * y ≤ 16) : (nexts x y p).length ≤ 16 := by
  unfold nexts
  have := List.length_filter_le (fun q => decide (apart (colOf y p) (colOf y q) = 1)) (nums (x * y).toNat)
  rw [nums_len] at this
  omega
theorem lv_len {ts : List Int} : ∀ {v : List Int}, (ts.foldl lvStep v).length = v.length := by
  induction ts with
  | nil => intro v; rfl
  | cons a l ih => intro v; rw [List.foldl_cons, ih]; simp [lvStep]
theorem lv_bound : ∀ (ts : List Int) (v : List Int) (n : Int), (∀ i, 0 ≤ v.getD i 0 ∧ v.getD i 0 ≤ n) → ∀ i, 0 ≤ (ts.foldl lvStep v).getD i 0 ∧ (ts.foldl lvStep v).getD i 0 ≤ n + ts.length
  | [], v, n, h, i => by have := h i; simp only [List.foldl_nil, List.length_nil]; omega
  | a :: l, v, n, h, i => by
    rw [List.foldl_cons]
    have := lv_bound l (lvStep v a) (n + 1) (fun j => by
      unfold lvStep
      rw [List.getD_eq_getElem?_getD, List.getElem?_set]
      have h1 := h j
      have h2 := h a.toNat
      split
      · split
        · simp only [Option.getD_some]; omega
        · simp; have := (h 0).1; have := (h 0).2; omega
      · rw [← List.getD_eq_getElem?_getD]; omega) i
    simp only [List.length_cons]
    omega
theorem g_ContainsFunc {t o : Nat} {xs : List Int} {f : FuncId} {caps : List (Nat × Nat)} {pr : Int → Bool} {M : Mem} (h : Ints M t o xs) (hn : xs.length ≤ 1000000000)
    (hf : ∀ k, k < xs.length → CallsTo PG f ([.I (xs.getD k 0)] ++ caps.map fun p => .ptr p.1 p.2) M (.B (pr (xs.getD k 0))) M) :
    CallsTo PG F.slices_ContainsFunc_Sint_int [.ref t o xs.length, .clo f caps] M (.B (xs.any pr)) M := by
  refine calls_run K.slices_ContainsFunc_Sint_int rfl ?_
  simp (disch := omega) only [C.slices_ContainsFunc_Sint_int, ↓SXd, SXu, slBounds, ↓sop, ↓aop, ↓reduceIte, LV.cells, AOp.dst, LV.I, LV.B, LV.U, LV.S, LV.nil, Nat.reduceEqDiff, Nat.reduceAdd, Nat.reduceMul, Nat.reduceSub, Nat.reduceLeDiff, Nat.reduceBEq, Nat.reduceDiv, Nat.reduceMod, Int.reduceToNat, Int.reduceLT, Int.reduceLE, Int.reduceAdd, Int.reduceSub, Int.reduceMul, Int.reduceEq, Int.reduceNeg, reduceCtorEq, resV, resAll, ARes.ev, LV.flat, ite_true, ite_false, exists_eq_left', exists_eq_left, keyOf, implies_true, fillC, capOf]
  refine callK_of (g_IndexFunc h hn hf) ?_
  rcases idxF_cases pr xs with ⟨h1, h2⟩ | ⟨k, h1, h2, h3, h4⟩
  · rw [h1, show xs.any pr = false from by
      rw [List.any_eq_false]
      intro a ha
      obtain ⟨i, hi, rfl⟩ := List.getElem_of_mem ha
      have := h2 i hi
      rw [List.getD_eq_getElem?_getD, List.getElem?_eq_getElem hi] at this
      simpa using this]
    simp (disch := omega) only [↓SXd, SXu, slBounds, ↓sop, ↓aop, ↓reduceIte, LV.cells, AOp.dst, LV.I, LV.B, LV.U, LV.S, LV.nil, Nat.reduceEqDiff, Nat.reduceAdd, Nat.reduceMul, Nat.reduceSub, Nat.reduceLeDiff, Nat.reduceBEq, Nat.reduceDiv, Nat.reduceMod, Int.reduceToNat, Int.reduceLT, Int.reduceLE, Int.reduceAdd, Int.reduceSub, Int.reduceMul, Int.reduceEq, Int.reduceNeg, reduceCtorEq, resV, resAll, ARes.ev, LV.flat, ite_true, ite_false, exists_eq_left', exists_eq_left, keyOf, implies_true, fillC, capOf]
    exact cmp_drop0 rfl
  · rw [h2, show xs.any pr = true from by
      rw [List.any_eq_true]
      exact ⟨_, getD_mem' h1, h4⟩]
    have hge : (k : Int) ≥ 0 := by omega
    simp (disch := omega) only [hge, ↓SXd, SXu, slBounds, ↓sop, ↓aop, ↓reduceIte, LV.cells, AOp.dst, LV.I, LV.B, LV.U, LV.S, LV.nil, Nat.reduceEqDiff, Nat.reduceAdd, Nat.reduceMul, Nat.reduceSub, Nat.reduceLeDiff, Nat.reduceBEq, Nat.reduceDiv, Nat.reduceMod, Int.reduceToNat, Int.reduceLT, Int.reduceLE, Int.reduceAdd, Int.reduceSub, Int.reduceMul, Int.reduceEq, Int.reduceNeg, reduceCtorEq, resV, resAll, ARes.ev, LV.flat, ite_true, ite_false, exists_eq_left', exists_eq_left, keyOf, implies_true, fillC, capOf]
    exact cmp_drop0 rfl
section
variable {x y z : Int} {t : Nat} {cs : List Cell} {M : Mem} (h : Tri M t 0 cs) (hn : cs.length ≤ 1000000000)
include h hn
theorem h_sPeaksOf : CallsR PG F.spec_PeaksOf [.agg [.I x, .I y, .I z, .ref t 0 cs.length]] M (IntsQ M (peaksOf x y z cs) (okB x y z cs)) := by
  refine callsR_run K.spec_PeaksOf rfl ?_
  simp (disch := omega) only [C.spec_PeaksOf, ↓SXd, SXu, slBounds, ↓sop, ↓aop, ↓reduceIte, LV.cells, AOp.dst, LV.I, LV.B, LV.U, LV.S, LV.nil, Nat.reduceEqDiff, Nat.reduceAdd, Nat.reduceMul, Nat.reduceSub, Nat.reduceLeDiff, Nat.reduceBEq, Nat.reduceDiv, Nat.reduceMod, Int.reduceToNat, Int.reduceLT, Int.reduceLE, Int.reduceAdd, Int.reduceSub, Int.reduceMul, Int.reduceEq, Int.reduceNeg, reduceCtorEq, resV, resAll, ARes.ev, LV.flat, ite_true, ite_false, exists_eq_left', exists_eq_left, keyOf, implies_true, fillC, capOf]
  refine callK_of (h_l2Heap h.app hn) ?_
  simp (disch := omega) only [↓SXd, SXu, slBounds, ↓sop, ↓aop, ↓reduceIte, LV.cells, AOp.dst, LV.I, LV.B, LV.U, LV.S, LV.nil, Nat.reduceEqDiff, Nat.reduceAdd, Nat.reduceMul, Nat.reduceSub, Nat.reduceLeDiff, Nat.reduceBEq, Nat.reduceDiv, Nat.reduceMod, Int.reduceToNat, Int.reduceLT, Int.reduceLE, Int.reduceAdd, Int.reduceSub, Int.reduceMul, Int.reduceEq, Int.reduceNeg, reduceCtorEq, resV, resAll, ARes.ev, LV.flat, ite_true, ite_false, exists_eq_left', exists_eq_left, keyOf, implies_true, fillC, capOf]
  by_cases hH : HeapOK x y z cs
  rotate_left
  · rw [show peaksOf x y z cs = [] from if_neg hH, show okB x y z cs = false from decide_eq_false hH]
    simp (disch := omega) only [hH, ↓SXd, SXu, slBounds, ↓sop, ↓aop, ↓reduceIte, LV.cells, AOp.dst, LV.I, LV.B, LV.U, LV.S, LV.nil, Nat.reduceEqDiff, Nat.reduceAdd, Nat.reduceMul, Nat.reduceSub, Nat.reduceLeDiff, Nat.reduceBEq, Nat.reduceDiv, Nat.reduceMod, Int.reduceToNat, Int.reduceLT, Int.reduceLE, Int.reduceAdd, Int.reduceSub, Int.reduceMul, Int.reduceEq, Int.reduceNeg, reduceCtorEq, resV, resAll, ARes.ev, LV.flat, ite_true, ite_false, exists_eq_left', exists_eq_left, keyOf, implies_true, fillC, capOf]
    exact ⟨_, rfl, .inr ⟨_, _, rfl, (Live.newj (j := 1) rfl : Live _ _ (.row (intL []) true 1)).has⟩, Pre.app _ _⟩
  rw [show peaksOf x y z cs = peakL x y (topsOf x y cs) (x * y).toNat from if_pos hH, show okB x y z cs = true from decide_eq_true hH]
  have hS := hH.1
  have htl := topsOf_len x y cs
  have hb := mul_bound hS.1 hS.2.1
  have hlow := topsOf_lowz hH
  simp (disch := omega) only [hH, ↓SXd, SXu, slBounds, ↓sop, ↓aop, ↓reduceIte, LV.cells, AOp.dst, LV.I, LV.B, LV.U, LV.S, LV.nil, Nat.reduceEqDiff, Nat.reduceAdd, Nat.reduceMul, Nat.reduceSub, Nat.reduceLeDiff, Nat.reduceBEq, Nat.reduceDiv, Nat.reduceMod, Int.reduceToNat, Int.reduceLT, Int.reduceLE, Int.reduceAdd, Int.reduceSub, Int.reduceMul, Int.reduceEq, Int.reduceNeg, reduceCtorEq, resV, resAll, ARes.ev, LV.flat, ite_true, ite_false, exists_eq_left', exists_eq_left, keyOf, implies_true, fillC, capOf]
  refine callK_of (h_l2Tops h.app hn hH) ?_
  simp (disch := omega) only [↓SXd, SXu, slBounds, ↓sop, ↓aop, ↓reduceIte, LV.cells, AOp.dst, LV.I, LV.B, LV.U, LV.S, LV.nil, Nat.reduceEqDiff, Nat.reduceAdd, Nat.reduceMul, Nat.reduceSub, Nat.reduceLeDiff, Nat.reduceBEq, Nat.reduceDiv, Nat.reduceMod, Int.reduceToNat, Int.reduceLT, Int.reduceLE, Int.reduceAdd, Int.reduceSub, Int.reduceMul, Int.reduceEq, Int.reduceNeg, reduceCtorEq, resV, resAll, ARes.ev, LV.flat, ite_true, ite_false, exists_eq_left', exists_eq_left, keyOf, implies_true, fillC, capOf]
  generalize hts : topsOf x y cs = ts at htl hlow ⊢
  refine ev_loop (fun m fr M' => ∃ (p u : Nat), p + m = (x * y).toNat ∧ Pre M M' ∧ M.length + 3 ≤ M'.length ∧ Live M' M.length (.row [.I x, .I y, .I z, .ref t 0 cs.length] true 0) ∧ Live M' (M.length + 2) (.row (intL ts) true 1) ∧ Live M' u (.row (intL (peakL x y ts p)) true 1) ∧ M.length < u ∧ u ≠ M.length + 2 ∧
    fr 1 = .ptr M.length 0 ∧ fr 4 = .ref u 0 (peakL x y ts p).length ∧ fr 5 = .ref (M.length + 2) 0 (x * y).toNat ∧ fr 6 = .I p) (x * y).toNat
    ⟨0, M.length + 1, by omega, Pre.app _ _, by simp, Live.new, Live.newj (j := 2) rfl, Live.newj (j := 1) rfl, by omega, by omega, rfl, rfl, rfl, rfl⟩ ?_
  rintro m fr M' ⟨p, u, hp, hpre, hM', b1, bt, bu, hu, hu2, f1, f4, f5, f6⟩
  simp (disch := omega) only [f1, f4, f5, f6, ↓SXd, SXu, slBounds, ↓sop, ↓aop, ↓reduceIte, LV.cells, AOp.dst, LV.I, LV.B, LV.U, LV.S, LV.nil, Nat.reduceEqDiff, Nat.reduceAdd, Nat.reduceMul, Nat.reduceSub, Nat.reduceLeDiff, Nat.reduceBEq, Nat.reduceDiv, Nat.reduceMod, Int.reduceToNat, Int.reduceLT, Int.reduceLE, Int.reduceAdd, Int.reduceSub, Int.reduceMul, Int.reduceEq, Int.reduceNeg, reduceCtorEq, resV, resAll, ARes.ev, LV.flat, ite_true, ite_false, exists_eq_left', exists_eq_left, keyOf, implies_true, fillC, capOf]
  refine condC_dec (fun hlt => ?_) (fun hlt => ?_)
  · have hpx : p < (x * y).toNat := by omega
    have hcell := bt.cell (o := p)
    rw [intL_get (by omega)] at hcell
    have hps := peakL_succ (x := x) (y := y) (ts := ts) (n := p)
    have hpl := peakL_len (x := x) (y := y) (ts := ts) (n := p)
    have hpe : peakP x y ts p = (decide (0 < ts.getD p 0) && (nexts x y p).all fun q => decide (ts.getD q.toNat 0 < ts.getD p 0)) := rfl
    have hin := fun q (hq : q ∈ nexts x y p) => nexts_in hq
    have hnl := nexts_len16 (x := x) (y := y) (p := p) hb.2
    have hb1l := b1.lt
    have hbtl := bt.lt
    have hbul := bu.lt
    simp (disch := omega) only [f1, f4, f5, f6, hcell, b1.cells, Nat.mul_one, Nat.zero_add, ↓SXd, SXu, slBounds, ↓sop, ↓aop, ↓reduceIte, LV.cells, AOp.dst, LV.I, LV.B, LV.U, LV.S, LV.nil, Nat.reduceEqDiff, Nat.reduceAdd, Nat.reduceMul, Nat.reduceSub, Nat.reduceLeDiff, Nat.reduceBEq, Nat.reduceDiv, Nat.reduceMod, Int.reduceToNat, Int.reduceLT, Int.reduceLE, Int.reduceAdd, Int.reduceSub, Int.reduceMul, Int.reduceEq, Int.reduceNeg, reduceCtorEq, resV, resAll, ARes.ev, LV.flat, ite_true, ite_false, exists_eq_left', exists_eq_left, keyOf, implies_true, fillC, capOf]
    refine callK_of (h_l10Next hS (p := (p : Int)) (by omega)) ?_
    simp (disch := omega) only [f1, f4, f5, f6, ↓SXd, SXu, slBounds, ↓sop, ↓aop, ↓reduceIte, LV.cells, AOp.dst, LV.I, LV.B, LV.U, LV.S, LV.nil, Nat.reduceEqDiff, Nat.reduceAdd, Nat.reduceMul, Nat.reduceSub, Nat.reduceLeDiff, Nat.reduceBEq, Nat.reduceDiv, Nat.reduceMod, Int.reduceToNat, Int.reduceLT, Int.reduceLE, Int.reduceAdd, Int.reduceSub, Int.reduceMul, Int.reduceEq, Int.reduceNeg, reduceCtorEq, resV, resAll, ARes.ev, LV.flat, ite_true, ite_false, exists_eq_left', exists_eq_left, keyOf, implies_true, fillC, capOf]
    generalize nexts x y p = nx at hpe hin hnl ⊢
    have bn : Live (M' ++ [some (.row (intL nx) true 1)]) M'.length (.row (intL nx) true 1) := Live.new
    have hpN : Pre M' (M' ++ [some (.row (intL nx) true 1)]) := Pre.app _ _
    have hpl2 : (M' ++ [some (Blk.row (intL nx) true 1)]).length = M'.length + 1 := by simp
    generalize M' ++ [some (Blk.row (intL nx) true 1)] = N1 at bn hpN hpl2 ⊢
    have c1 := b1.pre hpN
    have ct := bt.pre hpN
    have cu := bu.pre hpN
    have hpre1 := hpre.trans hpN
    have hct := ct.cell (o := p)
    rw [intL_get (by omega)] at hct
    refine ev_loop (fun m2 fr N2 => ∃ k : Nat, k + m2 = nx.length ∧ N2 = N1 ∧ fr 1 = .ptr M.length 0 ∧ fr 4 = .ref u 0 (peakL x y ts p).length ∧ fr 5 = .ref (M.length + 2) 0 (x * y).toNat ∧ fr 6 = .I p ∧ fr 7 = .B (decide (0 < ts.getD p 0) && (nx.take k).all fun q => decide (ts.getD q.toNat 0 < ts.getD p 0)) ∧ fr 8 = .ref M'.length 0 nx.length ∧ fr 9 = .I k) nx.length
      ⟨0, by omega, rfl, f1, f4, f5, f6, by simp; rfl, rfl, rfl⟩ ?_
    clear f1 f4 f5 f6
    rintro m2 fr N1 ⟨k, hk, rfl, f1, f4, f5, f6, f7, f8, f9⟩
    simp (disch := omega) only [f1, f4, f5, f6, f7, f8, f9, ↓SXd, SXu, slBounds, ↓sop, ↓aop, ↓reduceIte, LV.cells, AOp.dst, LV.I, LV.B, LV.U, LV.S, LV.nil, Nat.reduceEqDiff, Nat.reduceAdd, Nat.reduceMul, Nat.reduceSub, Nat.reduceLeDiff, Nat.reduceBEq, Nat.reduceDiv, Nat.reduceMod, Int.reduceToNat, Int.reduceLT, Int.reduceLE, Int.reduceAdd, Int.reduceSub, Int.reduceMul, Int.reduceEq, Int.reduceNeg, reduceCtorEq, resV, resAll, ARes.ev, LV.flat, ite_true, ite_false, exists_eq_left', exists_eq_left, keyOf, implies_true, fillC, capOf]
    refine condC_dec (fun hlt2 => ?_) (fun hlt2 => ?_)
    · have hkl : k < nx.length := by omega
      have hgn := bn.cell (o := k)
      rw [intL_get hkl] at hgn
      have hq := hin _ (getD_mem' (d := 0) hkl)
      have hgq := ct.cell (o := (nx.getD k 0).toNat)
      rw [intL_get (by omega)] at hgq
      have e : (nx.take (k + 1)).all (fun q => decide (ts.getD q.toNat 0 < ts.getD p 0)) = ((nx.take k).all (fun q => decide (ts.getD q.toNat 0 < ts.getD p 0)) && decide (ts.getD (nx.getD k 0).toNat 0 < ts.getD p 0)) := by
        rw [List.take_add_one, List.getElem?_eq_getElem hkl, Option.toList_some, List.all_append]
        simp [hkl]
      generalize hb7 : (decide (0 < ts.getD p 0) && (nx.take k).all fun q => decide (ts.getD q.toNat 0 < ts.getD p 0)) = b7 at f7
      have e7 : (decide (0 < ts.getD p 0) && (nx.take (k + 1)).all fun q => decide (ts.getD q.toNat 0 < ts.getD p 0)) = (b7 && decide (ts.getD (nx.getD k 0).toNat 0 < ts.getD p 0)) := by rw [e, ← hb7, Bool.and_assoc]
      cases b7 with
      | false =>
        simp (disch := omega) only [f1, f4, f5, f6, f7, f8, f9, ↓SXd, SXu, slBounds, ↓sop, ↓aop, ↓reduceIte, LV.cells, AOp.dst, LV.I, LV.B, LV.U, LV.S, LV.nil, Nat.reduceEqDiff, Nat.reduceAdd, Nat.reduceMul, Nat.reduceSub, Nat.reduceLeDiff, Nat.reduceBEq, Nat.reduceDiv, Nat.reduceMod, Int.reduceToNat, Int.reduceLT, Int.reduceLE, Int.reduceAdd, Int.reduceSub, Int.reduceMul, Int.reduceEq, Int.reduceNeg, reduceCtorEq, resV, resAll, ARes.ev, LV.flat, ite_true, ite_false, exists_eq_left', exists_eq_left, keyOf, implies_true, fillC, capOf]
        exact ⟨m2 - 1, by omega, k + 1, by omega, rfl, f1, f4, f5, f6, by rw [e7]; rfl, f8, eqI (natI _)⟩
      | true =>
        simp (disch := omega) only [f1, f4, f5, f6, f7, f8, f9, hgn, hgq, hct, Nat.mul_one, Nat.zero_add, ↓SXd, SXu, slBounds, ↓sop, ↓aop, ↓reduceIte, LV.cells, AOp.dst, LV.I, LV.B, LV.U, LV.S, LV.nil, Nat.reduceEqDiff, Nat.reduceAdd, Nat.reduceMul, Nat.reduceSub, Nat.reduceLeDiff, Nat.reduceBEq, Nat.reduceDiv, Nat.reduceMod, Int.reduceToNat, Int.reduceLT, Int.reduceLE, Int.reduceAdd, Int.reduceSub, Int.reduceMul, Int.reduceEq, Int.reduceNeg, reduceCtorEq, resV, resAll, ARes.ev, LV.flat, ite_true, ite_false, exists_eq_left', exists_eq_left, keyOf, implies_true, fillC, capOf]
        exact ⟨m2 - 1, by omega, k + 1, by omega, rfl, f1, f4, f5, f6, by rw [e7]; rfl, f8, eqI (natI _)⟩
    · have hkl : k = nx.length := by omega
      subst hkl
      rw [List.take_length, ← hpe] at f7
      cases hpk : peakP x y ts p with
      | false =>
        rw [hpk] at f7 hps
        rw [if_neg (by simp)] at hps
        simp (disch := omega) only [f1, f4, f5, f6, f7, f8, f9, f7, ↓SXd, SXu, slBounds, ↓sop, ↓aop, ↓reduceIte, LV.cells, AOp.dst, LV.I, LV.B, LV.U, LV.S, LV.nil, Nat.reduceEqDiff, Nat.reduceAdd, Nat.reduceMul, Nat.reduceSub, Nat.reduceLeDiff, Nat.reduceBEq, Nat.reduceDiv, Nat.reduceMod, Int.reduceToNat, Int.reduceLT, Int.reduceLE, Int.reduceAdd, Int.reduceSub, Int.reduceMul, Int.reduceEq, Int.reduceNeg, reduceCtorEq, resV, resAll, ARes.ev, LV.flat, ite_true, ite_false, exists_eq_left', exists_eq_left, keyOf, implies_true, fillC, capOf]
        exact ⟨m - 1, by omega, p + 1, u, by omega, hpre1, by omega, c1, ct, by rw [hps]; exact cu, hu, hu2, f1, f4.trans (by rw [hps]), f5, eqI (natI _)⟩
      | true =>
        rw [hpk] at f7 hps
        rw [if_pos rfl] at hps
        simp (disch := omega) only [f1, f4, f5, f6, f7, f8, f9, f7, ↓SXd, SXu, slBounds, ↓sop, ↓aop, ↓reduceIte, LV.cells, AOp.dst, LV.I, LV.B, LV.U, LV.S, LV.nil, Nat.reduceEqDiff, Nat.reduceAdd, Nat.reduceMul, Nat.reduceSub, Nat.reduceLeDiff, Nat.reduceBEq, Nat.reduceDiv, Nat.reduceMod, Int.reduceToNat, Int.reduceLT, Int.reduceLE, Int.reduceAdd, Int.reduceSub, Int.reduceMul, Int.reduceEq, Int.reduceNeg, reduceCtorEq, resV, resAll, ARes.ev, LV.flat, ite_true, ite_false, exists_eq_left', exists_eq_left, keyOf, implies_true, fillC, capOf]
        refine appendK_int cu (by omega) fun N5 l1 l2 l3 => ?_
        rw [← hps] at l2 ⊢
        simp (disch := omega) only [f1, f4, f5, f6, f7, f8, f9, ↓SXd, SXu, slBounds, ↓sop, ↓aop, ↓reduceIte, LV.cells, AOp.dst, LV.I, LV.B, LV.U, LV.S, LV.nil, Nat.reduceEqDiff, Nat.reduceAdd, Nat.reduceMul, Nat.reduceSub, Nat.reduceLeDiff, Nat.reduceBEq, Nat.reduceDiv, Nat.reduceMod, Int.reduceToNat, Int.reduceLT, Int.reduceLE, Int.reduceAdd, Int.reduceSub, Int.reduceMul, Int.reduceEq, Int.reduceNeg, reduceCtorEq, resV, resAll, ARes.ev, LV.flat, ite_true, ite_false, exists_eq_left', exists_eq_left, keyOf, implies_true, fillC, capOf]
        exact ⟨m - 1, by omega, p + 1, N1.length + 1, by omega, pre_step hpre1 (by omega) (j := 2) l1 l3, by omega, live_step c1 (by omega) l3, live_step ct (by omega) l3, l2, by omega, by omega, f1, rfl, f5, eqI (natI _)⟩
  · have hpx : p = (x * y).toNat := by omega
    subst hpx
    simp (disch := omega) only [f1, f4, f5, f6, ↓SXd, SXu, slBounds, ↓sop, ↓aop, ↓reduceIte, LV.cells, AOp.dst, LV.I, LV.B, LV.U, LV.S, LV.nil, Nat.reduceEqDiff, Nat.reduceAdd, Nat.reduceMul, Nat.reduceSub, Nat.reduceLeDiff, Nat.reduceBEq, Nat.reduceDiv, Nat.reduceMod, Int.reduceToNat, Int.reduceLT, Int.reduceLE, Int.reduceAdd, Int.reduceSub, Int.reduceMul, Int.reduceEq, Int.reduceNeg, reduceCtorEq, resV, resAll, ARes.ev, LV.flat, ite_true, ite_false, exists_eq_left', exists_eq_left, keyOf, implies_true, fillC, capOf]
    exact ⟨_, rfl, .inr ⟨_, _, rfl, bu.has⟩, hpre⟩
theorem g_PeaksOf : CallsR PG F.impl_PeaksOf [.agg [.I x, .I y, .I z, .ref t 0 cs.length]] M (IntsQ M (peaksOf x y z cs) (okB x y z cs)) := by
  refine callsR_run K.impl_PeaksOf rfl ?_
  simp (disch := omega) only [C.impl_PeaksOf, ↓SXd, SXu, slBounds, ↓sop, ↓aop, ↓reduceIte, LV.cells, AOp.dst, LV.I, LV.B, LV.U, LV.S, LV.nil, Nat.reduceEqDiff, Nat.reduceAdd, Nat.reduceMul, Nat.reduceSub, Nat.reduceLeDiff, Nat.reduceBEq, Nat.reduceDiv, Nat.reduceMod, Int.reduceToNat, Int.reduceLT, Int.reduceLE, Int.reduceAdd, Int.reduceSub, Int.reduceMul, Int.reduceEq, Int.reduceNeg, reduceCtorEq, resV, resAll, ARes.ev, LV.flat, ite_true, ite_false, exists_eq_left', exists_eq_left, keyOf, implies_true, fillC, capOf]
  refine callK_of (g_IsHeap h.app hn) ?_
  simp (disch := omega) only [↓SXd, SXu, slBounds, ↓sop, ↓aop, ↓reduceIte, LV.cells, AOp.dst, LV.I, LV.B, LV.U, LV.S, LV.nil, Nat.reduceEqDiff, Nat.reduceAdd, Nat.reduceMul, Nat.reduceSub, Nat.reduceLeDiff, Nat.reduceBEq, Nat.reduceDiv, Nat.reduceMod, Int.reduceToNat, Int.reduceLT, Int.reduceLE, Int.reduceAdd, Int.reduceSub, Int.reduceMul, Int.reduceEq, Int.reduceNeg, reduceCtorEq, resV, resAll, ARes.ev, LV.flat, ite_true, ite_false, exists_eq_left', exists_eq_left, keyOf, implies_true, fillC, capOf]
  by_cases hH : HeapOK x y z cs
  rotate_left
  · rw [show peaksOf x y z cs = [] from if_neg hH, show okB x y z cs = false from decide_eq_false hH]
    simp (disch := omega) only [hH, ↓SXd, SXu, slBounds, ↓sop, ↓aop, ↓reduceIte, LV.cells, AOp.dst, LV.I, LV.B, LV.U, LV.S, LV.nil, Nat.reduceEqDiff, Nat.reduceAdd, Nat.reduceMul, Nat.reduceSub, Nat.reduceLeDiff, Nat.reduceBEq, Nat.reduceDiv, Nat.reduceMod, Int.reduceToNat, Int.reduceLT, Int.reduceLE, Int.reduceAdd, Int.reduceSub, Int.reduceMul, Int.reduceEq, Int.reduceNeg, reduceCtorEq, resV, resAll, ARes.ev, LV.flat, ite_true, ite_false, exists_eq_left', exists_eq_left, keyOf, implies_true, fillC, capOf]
    exact ⟨_, rfl, .inl ⟨rfl, rfl⟩, Pre.app _ _⟩
  rw [show peaksOf x y z cs = peakL x y (topsOf x y cs) (x * y).toNat from if_pos hH, show okB x y z cs = true from decide_eq_true hH]
  have hS := hH.1
  have htl := topsOf_len x y cs
  have hb := mul_bound hS.1 hS.2.1
  simp (disch := omega) only [hH, ↓SXd, SXu, slBounds, ↓sop, ↓aop, ↓reduceIte, LV.cells, AOp.dst, LV.I, LV.B, LV.U, LV.S, LV.nil, Nat.reduceEqDiff, Nat.reduceAdd, Nat.reduceMul, Nat.reduceSub, Nat.reduceLeDiff, Nat.reduceBEq, Nat.reduceDiv, Nat.reduceMod, Int.reduceToNat, Int.reduceLT, Int.reduceLE, Int.reduceAdd, Int.reduceSub, Int.reduceMul, Int.reduceEq, Int.reduceNeg, reduceCtorEq, resV, resAll, ARes.ev, LV.flat, ite_true, ite_false, exists_eq_left', exists_eq_left, keyOf, implies_true, fillC, capOf]
  refine callK_of (g_top h.app hn hH) ?_
  simp (disch := omega) only [splice, ↓SXd, SXu, slBounds, ↓sop, ↓aop, ↓reduceIte, LV.cells, AOp.dst, LV.I, LV.B, LV.U, LV.S, LV.nil, Nat.reduceEqDiff, Nat.reduceAdd, Nat.reduceMul, Nat.reduceSub, Nat.reduceLeDiff, Nat.reduceBEq, Nat.reduceDiv, Nat.reduceMod, Int.reduceToNat, Int.reduceLT, Int.reduceLE, Int.reduceAdd, Int.reduceSub, Int.reduceMul, Int.reduceEq, Int.reduceNeg, reduceCtorEq, resV, resAll, ARes.ev, LV.flat, ite_true, ite_false, exists_eq_left', exists_eq_left, keyOf, implies_true, fillC, capOf]
  generalize hts : topsOf x y cs = ts at htl ⊢
  refine ev_loop (fun m fr M' => ∃ (p u : Nat), p + m = (x * y).toNat ∧ Pre M M' ∧ M.length + 4 ≤ M'.length ∧ Live M' (M.length + 1) (.row (intL ts) true 1) ∧ Live M' (M.length + 3) (.row [.ref (M.length + 1) 0 (x * y).toNat, .I y] true 0) ∧ Live M' u (.row (intL (peakL x y ts p)) true 1) ∧ M.length < u ∧ u ≠ M.length + 1 ∧ u ≠ M.length + 3 ∧
    fr 4 = .ptr (M.length + 3) 0 ∧ fr 5 = .ref u 0 (peakL x y ts p).length ∧ fr 15 = .ref (M.length + 1) 0 (x * y).toNat ∧ fr 16 = .I ((x * y).toNat : Nat) ∧ fr 17 = .I p) (x * y).toNat
    ⟨0, M.length + 2, by omega, Pre.app _ _, by simp, Live.newj (j := 1) rfl, Live.newj (j := 3) rfl, Live.newj (j := 2) rfl, by omega, by omega, by omega, rfl, rfl, rfl, rfl, rfl⟩ ?_
  rintro m fr M' ⟨p, u, hp, hpre, hM', bt, b4, bu, hu, hu2, hu3, f4, f5, f15, f16, f17⟩
  simp (disch := omega) only [f4, f5, f15, f16, f17, ↓SXd, SXu, slBounds, ↓sop, ↓aop, ↓reduceIte, LV.cells, AOp.dst, LV.I, LV.B, LV.U, LV.S, LV.nil, Nat.reduceEqDiff, Nat.reduceAdd, Nat.reduceMul, Nat.reduceSub, Nat.reduceLeDiff, Nat.reduceBEq, Nat.reduceDiv, Nat.reduceMod, Int.reduceToNat, Int.reduceLT, Int.reduceLE, Int.reduceAdd, Int.reduceSub, Int.reduceMul, Int.reduceEq, Int.reduceNeg, reduceCtorEq, resV, resAll, ARes.ev, LV.flat, ite_true, ite_false, exists_eq_left', exists_eq_left, keyOf, implies_true, fillC, capOf]
  refine condC_dec (fun hlt => ?_) (fun hlt => ?_)
  · have hpx : p < (x * y).toNat := by omega
    have hcell := bt.cell (o := p)
    rw [intL_get (by omega)] at hcell
    have hps := peakL_succ (x := x) (y := y) (ts := ts) (n := p)
    have hpl := peakL_len (x := x) (y := y) (ts := ts) (n := p)
    have hpe : peakP x y ts p = (decide (0 < ts.getD p 0) && (nexts x y p).all fun q => decide (ts.getD q.toNat 0 < ts.getD p 0)) := rfl
    have hin := fun q (hq : q ∈ nexts x y p) => nexts_in hq
    have hnl := nexts_len16 (x := x) (y := y) (p := p) hb.2
    have hne : nearL y (x * y) (p : Int) = nexts x y p := near_eq hS.1 hS.2.1 (by omega)
    generalize hhv : ts.getD p 0 = hv at hcell hpe
    have hbtl := bt.lt
    have hb4l := b4.lt
    have hbul := bu.lt
    have b7 : Live (M' ++ [some (.row [.I hv] true 0)]) M'.length (.row [.I hv] true 0) := Live.new
    have hpN : Pre M' (M' ++ [some (.row [.I hv] true 0)]) := Pre.app _ _
    have hpl2 : (M' ++ [some (Blk.row [.I hv] true 0)]).length = M'.length + 1 := by simp
    simp (disch := omega) only [f4, f5, f15, f16, f17, hcell, Nat.mul_one, Nat.zero_add, splice, ↓SXd, SXu, slBounds, ↓sop, ↓aop, ↓reduceIte, LV.cells, AOp.dst, LV.I, LV.B, LV.U, LV.S, LV.nil, Nat.reduceEqDiff, Nat.reduceAdd, Nat.reduceMul, Nat.reduceSub, Nat.reduceLeDiff, Nat.reduceBEq, Nat.reduceDiv, Nat.reduceMod, Int.reduceToNat, Int.reduceLT, Int.reduceLE, Int.reduceAdd, Int.reduceSub, Int.reduceMul, Int.reduceEq, Int.reduceNeg, reduceCtorEq, resV, resAll, ARes.ev, LV.flat, ite_true, ite_false, exists_eq_left', exists_eq_left, keyOf, implies_true, fillC, capOf]
    by_cases hpos : hv > 0
    rotate_left
    · rw [show peakP x y ts p = false from by rw [hpe, decide_eq_false hpos]; rfl, if_neg (by simp)] at hps
      simp (disch := omega) only [f4, f5, f15, f16, f17, hpos, ↓SXd, SXu, slBounds, ↓sop, ↓aop, ↓reduceIte, LV.cells, AOp.dst, LV.I, LV.B, LV.U, LV.S, LV.nil, Nat.reduceEqDiff, Nat.reduceAdd, Nat.reduceMul, Nat.reduceSub, Nat.reduceLeDiff, Nat.reduceBEq, Nat.reduceDiv, Nat.reduceMod, Int.reduceToNat, Int.reduceLT, Int.reduceLE, Int.reduceAdd, Int.reduceSub, Int.reduceMul, Int.reduceEq, Int.reduceNeg, reduceCtorEq, resV, resAll, ARes.ev, LV.flat, ite_true, ite_false, exists_eq_left', exists_eq_left, keyOf, implies_true, fillC, capOf]
      exact ⟨m - 1, by omega, p + 1, u, by omega, hpre.trans hpN, by simp only [List.length_append, List.length_cons, List.length_nil]; omega, bt.pre hpN, b4.pre hpN, by rw [hps]; exact bu.pre hpN, hu, hu2, hu3, f4, f5.trans (by rw [hps]), f15, f16, eqI (natI _)⟩
    generalize hN1 : M' ++ [some (Blk.row [.I hv] true 0)] = N1 at b7 hpN hpl2
    have c4 := b4.pre hpN
    have ct := bt.pre hpN
    have cu := bu.pre hpN
    have hpre1 := hpre.trans hpN
    rw [decide_eq_true hpos, Bool.true_and] at hpe
    simp (disch := omega) only [f4, f5, f15, f16, f17, hpos, hN1, c4.cells, ↓SXd, SXu, slBounds, ↓sop, ↓aop, ↓reduceIte, LV.cells, AOp.dst, LV.I, LV.B, LV.U, LV.S, LV.nil, Nat.reduceEqDiff, Nat.reduceAdd, Nat.reduceMul, Nat.reduceSub, Nat.reduceLeDiff, Nat.reduceBEq, Nat.reduceDiv, Nat.reduceMod, Int.reduceToNat, Int.reduceLT, Int.reduceLE, Int.reduceAdd, Int.reduceSub, Int.reduceMul, Int.reduceEq, Int.reduceNeg, reduceCtorEq, resV, resAll, ARes.ev, LV.flat, ite_true, ite_false, exists_eq_left', exists_eq_left, keyOf, implies_true, fillC, capOf]
    refine callK_of (g_near (t := M.length + 1) (o := 0) (c := x * y) (n := (x * y).toNat) hS.2.1 (by omega) (by omega) (by omega)) ?_
    rw [hne]
    generalize nexts x y p = nx at hpe hin hnl ⊢
    have bn : Live (N1 ++ [some (.row (intL nx) true 1)]) N1.length (.row (intL nx) true 1) := Live.new
    have hpQ : Pre N1 (N1 ++ [some (.row (intL nx) true 1)]) := Pre.app _ _
    have hpl3 : (N1 ++ [some (Blk.row (intL nx) true 1)]).length = N1.length + 1 := by simp
    have d4 := c4.pre hpQ
    have dt := ct.pre hpQ
    have du := cu.pre hpQ
    have d7 := b7.pre hpQ
    have hpre2 := hpre1.trans hpQ
    generalize hN2 : N1 ++ [some (Blk.row (intL nx) true 1)] = N2 at bn hpQ hpl3 d4 dt du d7 hpre2 ⊢
    simp (disch := omega) only [f4, f5, f15, f16, f17, ↓SXd, SXu, slBounds, ↓sop, ↓aop, ↓reduceIte, LV.cells, AOp.dst, LV.I, LV.B, LV.U, LV.S, LV.nil, Nat.reduceEqDiff, Nat.reduceAdd, Nat.reduceMul, Nat.reduceSub, Nat.reduceLeDiff, Nat.reduceBEq, Nat.reduceDiv, Nat.reduceMod, Int.reduceToNat, Int.reduceLT, Int.reduceLE, Int.reduceAdd, Int.reduceSub, Int.reduceMul, Int.reduceEq, Int.reduceNeg, reduceCtorEq, resV, resAll, ARes.ev, LV.flat, ite_true, ite_false, exists_eq_left', exists_eq_left, keyOf, implies_true, fillC, capOf]
    have hcf := g_ContainsFunc (f := F.impl_PeaksOf_1) (caps := [(M.length + 3, 0), (M'.length, 0)]) (pr := fun q => decide (ts.getD q.toNat 0 ≥ hv)) bn.has (by omega) fun k hk => by
      have hq := hin _ (getD_mem' (d := 0) hk)
      have hgq := dt.cell (o := (nx.getD k 0).toNat)
      rw [intL_get (by omega)] at hgq
      generalize nx.getD k 0 = q at hq hgq
      refine calls_run K.impl_PeaksOf_1 rfl ?_
      simp (disch := omega) only [C.impl_PeaksOf_1, d4.cell, hgq, d7.cell, Nat.mul_one, Nat.zero_add, ↓SXd, SXu, slBounds, ↓sop, ↓aop, ↓reduceIte, LV.cells, AOp.dst, LV.I, LV.B, LV.U, LV.S, LV.nil, Nat.reduceEqDiff, Nat.reduceAdd, Nat.reduceMul, Nat.reduceSub, Nat.reduceLeDiff, Nat.reduceBEq, Nat.reduceDiv, Nat.reduceMod, Int.reduceToNat, Int.reduceLT, Int.reduceLE, Int.reduceAdd, Int.reduceSub, Int.reduceMul, Int.reduceEq, Int.reduceNeg, reduceCtorEq, resV, resAll, ARes.ev, LV.flat, ite_true, ite_false, exists_eq_left', exists_eq_left, keyOf, implies_true, fillC, capOf]
      exact cmp_drop0 rfl
    refine callK_of hcf ?_
    have hany : (nx.any fun q => decide (ts.getD q.toNat 0 ≥ hv)) = !(nx.all fun q => decide (ts.getD q.toNat 0 < hv)) := by
      rw [List.not_all_eq_any_not]
      congr 1
      funext q
      rw [← decide_not]
      exact decide_eq_decide.2 ⟨fun e => by omega, fun e => by omega⟩
    rw [hany, ← hpe]
    cases hpk : peakP x y ts p with
    | false =>
      rw [hpk, if_neg (by simp)] at hps
      simp (disch := omega) only [f4, f5, f15, f16, f17, ↓SXd, SXu, slBounds, ↓sop, ↓aop, ↓reduceIte, LV.cells, AOp.dst, LV.I, LV.B, LV.U, LV.S, LV.nil, Nat.reduceEqDiff, Nat.reduceAdd, Nat.reduceMul, Nat.reduceSub, Nat.reduceLeDiff, Nat.reduceBEq, Nat.reduceDiv, Nat.reduceMod, Int.reduceToNat, Int.reduceLT, Int.reduceLE, Int.reduceAdd, Int.reduceSub, Int.reduceMul, Int.reduceEq, Int.reduceNeg, reduceCtorEq, resV, resAll, ARes.ev, LV.flat, ite_true, ite_false, exists_eq_left', exists_eq_left, keyOf, implies_true, fillC, capOf]
      exact ⟨m - 1, by omega, p + 1, u, by omega, hpre2, by omega, dt, d4, by rw [hps]; exact du, hu, hu2, hu3, f4, f5.trans (by rw [hps]), f15, f16, eqI (natI _)⟩
    | true =>
      rw [hpk, if_pos rfl] at hps
      simp (disch := omega) only [f4, f5, f15, f16, f17, ↓SXd, SXu, slBounds, ↓sop, ↓aop, ↓reduceIte, LV.cells, AOp.dst, LV.I, LV.B, LV.U, LV.S, LV.nil, Nat.reduceEqDiff, Nat.reduceAdd, Nat.reduceMul, Nat.reduceSub, Nat.reduceLeDiff, Nat.reduceBEq, Nat.reduceDiv, Nat.reduceMod, Int.reduceToNat, Int.reduceLT, Int.reduceLE, Int.reduceAdd, Int.reduceSub, Int.reduceMul, Int.reduceEq, Int.reduceNeg, reduceCtorEq, resV, resAll, ARes.ev, LV.flat, ite_true, ite_false, exists_eq_left', exists_eq_left, keyOf, implies_true, fillC, capOf]
      refine appendK_int du (by omega) fun N5 l1 l2 l3 => ?_
      rw [← hps] at l2 ⊢
      simp (disch := omega) only [f4, f5, f15, f16, f17, ↓SXd, SXu, slBounds, ↓sop, ↓aop, ↓reduceIte, LV.cells, AOp.dst, LV.I, LV.B, LV.U, LV.S, LV.nil, Nat.reduceEqDiff, Nat.reduceAdd, Nat.reduceMul, Nat.reduceSub, Nat.reduceLeDiff, Nat.reduceBEq, Nat.reduceDiv, Nat.reduceMod, Int.reduceToNat, Int.reduceLT, Int.reduceLE, Int.reduceAdd, Int.reduceSub, Int.reduceMul, Int.reduceEq, Int.reduceNeg, reduceCtorEq, resV, resAll, ARes.ev, LV.flat, ite_true, ite_false, exists_eq_left', exists_eq_left, keyOf, implies_true, fillC, capOf]
      exact ⟨m - 1, by omega, p + 1, N2.length + 1, by omega, pre_step hpre2 (by omega) (j := 2) l1 l3, by omega, live_step dt (by omega) l3, live_step d4 (by omega) l3, l2, by omega, by omega, by omega, f4, rfl, f15, f16, eqI (natI _)⟩
  · have hpx : p = (x * y).toNat := by omega
    subst hpx
    simp (disch := omega) only [f4, f5, f15, f16, f17, ↓SXd, SXu, slBounds, ↓sop, ↓aop, ↓reduceIte, LV.cells, AOp.dst, LV.I, LV.B, LV.U, LV.S, LV.nil, Nat.reduceEqDiff, Nat.reduceAdd, Nat.reduceMul, Nat.reduceSub, Nat.reduceLeDiff, Nat.reduceBEq, Nat.reduceDiv, Nat.reduceMod, Int.reduceToNat, Int.reduceLT, Int.reduceLE, Int.reduceAdd, Int.reduceSub, Int.reduceMul, Int.reduceEq, Int.reduceNeg, reduceCtorEq, resV, resAll, ARes.ev, LV.flat, ite_true, ite_false, exists_eq_left', exists_eq_left, keyOf, implies_true, fillC, capOf]
    exact ⟨_, rfl, .inr ⟨_, _, rfl, bu.has⟩, hpre⟩
theorem g_LevelCounts : CallsR PG F.impl_LevelCounts [.agg [.I x, .I y, .I z, .ref t 0 cs.length]] M (IntsQ M (lvsOf x y z cs) (okB x y z cs)) := by
  refine callsR_run K.impl_LevelCounts rfl ?_
  simp (disch := omega) only [C.impl_LevelCounts, ↓SXd, SXu, slBounds, ↓sop, ↓aop, ↓reduceIte, LV.cells, AOp.dst, LV.I, LV.B, LV.U, LV.S, LV.nil, Nat.reduceEqDiff, Nat.reduceAdd, Nat.reduceMul, Nat.reduceSub, Nat.reduceLeDiff, Nat.reduceBEq, Nat.reduceDiv, Nat.reduceMod, Int.reduceToNat, Int.reduceLT, Int.reduceLE, Int.reduceAdd, Int.reduceSub, Int.reduceMul, Int.reduceEq, Int.reduceNeg, reduceCtorEq, resV, resAll, ARes.ev, LV.flat, ite_true, ite_false, exists_eq_left', exists_eq_left, keyOf, implies_true, fillC, capOf]
  refine callK_of (g_IsHeap h.app hn) ?_
  simp (disch := omega) only [↓SXd, SXu, slBounds, ↓sop, ↓aop, ↓reduceIte, LV.cells, AOp.dst, LV.I, LV.B, LV.U, LV.S, LV.nil, Nat.reduceEqDiff, Nat.reduceAdd, Nat.reduceMul, Nat.reduceSub, Nat.reduceLeDiff, Nat.reduceBEq, Nat.reduceDiv, Nat.reduceMod, Int.reduceToNat, Int.reduceLT, Int.reduceLE, Int.reduceAdd, Int.reduceSub, Int.reduceMul, Int.reduceEq, Int.reduceNeg, reduceCtorEq, resV, resAll, ARes.ev, LV.flat, ite_true, ite_false, exists_eq_left', exists_eq_left, keyOf, implies_true, fillC, capOf]
  by_cases hH : HeapOK x y z cs
  rotate_left
  · rw [show lvsOf x y z cs = [] from if_neg hH, show okB x y z cs = false from decide_eq_false hH]
    simp (disch := omega) only [hH, ↓SXd, SXu, slBounds, ↓sop, ↓aop, ↓reduceIte, LV.cells, AOp.dst, LV.I, LV.B, LV.U, LV.S, LV.nil, Nat.reduceEqDiff, Nat.reduceAdd, Nat.reduceMul, Nat.reduceSub, Nat.reduceLeDiff, Nat.reduceBEq, Nat.reduceDiv, Nat.reduceMod, Int.reduceToNat, Int.reduceLT, Int.reduceLE, Int.reduceAdd, Int.reduceSub, Int.reduceMul, Int.reduceEq, Int.reduceNeg, reduceCtorEq, resV, resAll, ARes.ev, LV.flat, ite_true, ite_false, exists_eq_left', exists_eq_left, keyOf, implies_true, fillC, capOf]
    exact ⟨_, rfl, .inl ⟨rfl, rfl⟩, Pre.app _ _⟩
  rw [show lvsOf x y z cs = lvL z (topsOf x y cs) from if_pos hH, show okB x y z cs = true from decide_eq_true hH]
  have hS := hH.1
  have htl := topsOf_len x y cs
  have hb := mul_bound hS.1 hS.2.1
  have hlow := topsOf_lowz hH
  obtain ⟨⟨_, _⟩, ⟨_, _⟩, ⟨_, _⟩⟩ := id hS
  simp (disch := omega) only [hH, made_int, ↓SXd, SXu, slBounds, ↓sop, ↓aop, ↓reduceIte, LV.cells, AOp.dst, LV.I, LV.B, LV.U, LV.S, LV.nil, Nat.reduceEqDiff, Nat.reduceAdd, Nat.reduceMul, Nat.reduceSub, Nat.reduceLeDiff, Nat.reduceBEq, Nat.reduceDiv, Nat.reduceMod, Int.reduceToNat, Int.reduceLT, Int.reduceLE, Int.reduceAdd, Int.reduceSub, Int.reduceMul, Int.reduceEq, Int.reduceNeg, reduceCtorEq, resV, resAll, ARes.ev, LV.flat, ite_true, ite_false, exists_eq_left', exists_eq_left, keyOf, implies_true, fillC, capOf]
  refine callK_of (g_heights h.app hn hH) ?_
  simp (disch := omega) only [↓SXd, SXu, slBounds, ↓sop, ↓aop, ↓reduceIte, LV.cells, AOp.dst, LV.I, LV.B, LV.U, LV.S, LV.nil, Nat.reduceEqDiff, Nat.reduceAdd, Nat.reduceMul, Nat.reduceSub, Nat.reduceLeDiff, Nat.reduceBEq, Nat.reduceDiv, Nat.reduceMod, Int.reduceToNat, Int.reduceLT, Int.reduceLE, Int.reduceAdd, Int.reduceSub, Int.reduceMul, Int.reduceEq, Int.reduceNeg, reduceCtorEq, resV, resAll, ARes.ev, LV.flat, ite_true, ite_false, exists_eq_left', exists_eq_left, keyOf, implies_true, fillC, capOf]
  generalize hts : topsOf x y cs = ts at htl hlow ⊢
  refine ev_loop (fun m fr M' => ∃ (p : Nat), p + m = (x * y).toNat ∧ Pre M M' ∧ M.length + 3 ≤ M'.length ∧ Live M' (M.length + 2) (.row (intL ts) true 1) ∧ Live M' (M.length + 1) (.row (intL ((ts.take p).foldl lvStep (List.replicate (z + 1).toNat 0))) true 1) ∧
    fr 4 = .ref (M.length + 1) 0 (z + 1).toNat ∧ fr 15 = .ref (M.length + 2) 0 (x * y).toNat ∧ fr 16 = .I ((x * y).toNat : Nat) ∧ fr 17 = .I p) (x * y).toNat
    ⟨0, by omega, Pre.app _ _, by simp, Live.newj (j := 2) rfl, Live.newj (j := 1) rfl, rfl, rfl, rfl, rfl⟩ ?_
  rintro m fr M' ⟨p, hp, hpre, hM', bt, bl, f4, f15, f16, f17⟩
  simp (disch := omega) only [f4, f15, f16, f17, ↓SXd, SXu, slBounds, ↓sop, ↓aop, ↓reduceIte, LV.cells, AOp.dst, LV.I, LV.B, LV.U, LV.S, LV.nil, Nat.reduceEqDiff, Nat.reduceAdd, Nat.reduceMul, Nat.reduceSub, Nat.reduceLeDiff, Nat.reduceBEq, Nat.reduceDiv, Nat.reduceMod, Int.reduceToNat, Int.reduceLT, Int.reduceLE, Int.reduceAdd, Int.reduceSub, Int.reduceMul, Int.reduceEq, Int.reduceNeg, reduceCtorEq, resV, resAll, ARes.ev, LV.flat, ite_true, ite_false, exists_eq_left', exists_eq_left, keyOf, implies_true, fillC, capOf]
  refine condC_dec (fun hlt => ?_) (fun hlt => ?_)
  · have hpx : p < (x * y).toNat := by omega
    have hcell := bt.cell (o := p)
    rw [intL_get (by omega)] at hcell
    have hst := take_succ_foldl lvStep (List.replicate (z + 1).toNat 0) ts p 0 (by omega)
    have hz : ∀ i, 0 ≤ (List.replicate (z + 1).toNat (0 : Int)).getD i 0 ∧ (List.replicate (z + 1).toNat (0 : Int)).getD i 0 ≤ 0 := fun i => by
      rw [List.getD_eq_getElem?_getD, List.getElem?_replicate]; split <;> simp
    have hbd := lv_bound (ts.take p) _ 0 hz
    have hll := lv_len (ts := ts.take p) (v := List.replicate (z + 1).toNat 0)
    have htp := List.length_take_le p ts
    have hlo := hlow p
    rw [List.length_replicate] at hll
    generalize ts.getD p 0 = hv at hcell hst hlo
    generalize (ts.take p).foldl lvStep (List.replicate (z + 1).toNat 0) = v at bl hst hbd hll
    have hb2 := hbd hv.toNat
    have hcl := bl.cell (o := hv.toNat)
    rw [intL_get (by omega)] at hcl
    simp (disch := omega) only [f4, f15, f16, f17, hcell, hcl, Nat.mul_one, Nat.zero_add, ↓SXd, SXu, slBounds, ↓sop, ↓aop, ↓reduceIte, LV.cells, AOp.dst, LV.I, LV.B, LV.U, LV.S, LV.nil, Nat.reduceEqDiff, Nat.reduceAdd, Nat.reduceMul, Nat.reduceSub, Nat.reduceLeDiff, Nat.reduceBEq, Nat.reduceDiv, Nat.reduceMod, Int.reduceToNat, Int.reduceLT, Int.reduceLE, Int.reduceAdd, Int.reduceSub, Int.reduceMul, Int.reduceEq, Int.reduceNeg, reduceCtorEq, resV, resAll, ARes.ev, LV.flat, ite_true, ite_false, exists_eq_left', exists_eq_left, keyOf, implies_true, fillC, capOf]
    refine memK_int bl (show hv.toNat < v.length by omega) fun N k1 k2 k3 => ?_
    simp (disch := omega) only [f4, f15, f16, f17, ↓SXd, SXu, slBounds, ↓sop, ↓aop, ↓reduceIte, LV.cells, AOp.dst, LV.I, LV.B, LV.U, LV.S, LV.nil, Nat.reduceEqDiff, Nat.reduceAdd, Nat.reduceMul, Nat.reduceSub, Nat.reduceLeDiff, Nat.reduceBEq, Nat.reduceDiv, Nat.reduceMod, Int.reduceToNat, Int.reduceLT, Int.reduceLE, Int.reduceAdd, Int.reduceSub, Int.reduceMul, Int.reduceEq, Int.reduceNeg, reduceCtorEq, resV, resAll, ARes.ev, LV.flat, ite_true, ite_false, exists_eq_left', exists_eq_left, keyOf, implies_true, fillC, capOf]
    rw [show v.set hv.toNat (v.getD hv.toNat 0 + 1) = lvStep v hv from rfl, ← hst] at k2
    exact ⟨m - 1, by omega, p + 1, by omega, pre_step hpre (by omega) (j := 0) k1 k3, by omega, live_step bt (by omega) k3, k2, f4, f15, f16, eqI (natI _)⟩
  · have hpx : p = ts.length := by omega
    subst hpx
    rw [List.take_length] at bl
    simp (disch := omega) only [f4, f15, f16, f17, ↓SXd, SXu, slBounds, ↓sop, ↓aop, ↓reduceIte, LV.cells, AOp.dst, LV.I, LV.B, LV.U, LV.S, LV.nil, Nat.reduceEqDiff, Nat.reduceAdd, Nat.reduceMul, Nat.reduceSub, Nat.reduceLeDiff, Nat.reduceBEq, Nat.reduceDiv, Nat.reduceMod, Int.reduceToNat, Int.reduceLT, Int.reduceLE, Int.reduceAdd, Int.reduceSub, Int.reduceMul, Int.reduceEq, Int.reduceNeg, reduceCtorEq, resV, resAll, ARes.ev, LV.flat, ite_true, ite_false, exists_eq_left', exists_eq_left, keyOf, implies_true, fillC, capOf]
    exact ⟨_, rfl, .inr ⟨_, _, by unfold lvL; rw [lv_len, List.length_replicate], bl.has⟩, hpre⟩
theorem h_sLevelCounts : CallsR PG F.spec_LevelCounts [.agg [.I x, .I y, .I z, .ref t 0 cs.length]] M (IntsQ M (lvsOf x y z cs) (okB x y z cs)) := by
  refine callsR_run K.spec_LevelCounts rfl ?_
  simp (disch := omega) only [C.spec_LevelCounts, ↓SXd, SXu, slBounds, ↓sop, ↓aop, ↓reduceIte, LV.cells, AOp.dst, LV.I, LV.B, LV.U, LV.S, LV.nil, Nat.reduceEqDiff, Nat.reduceAdd, Nat.reduceMul, Nat.reduceSub, Nat.reduceLeDiff, Nat.reduceBEq, Nat.reduceDiv, Nat.reduceMod, Int.reduceToNat, Int.reduceLT, Int.reduceLE, Int.reduceAdd, Int.reduceSub, Int.reduceMul, Int.reduceEq, Int.reduceNeg, reduceCtorEq, resV, resAll, ARes.ev, LV.flat, ite_true, ite_false, exists_eq_left', exists_eq_left, keyOf, implies_true, fillC, capOf]
  refine callK_of (h_l2Heap h.app hn) ?_
  simp (disch := omega) only [↓SXd, SXu, slBounds, ↓sop, ↓aop, ↓reduceIte, LV.cells, AOp.dst, LV.I, LV.B, LV.U, LV.S, LV.nil, Nat.reduceEqDiff, Nat.reduceAdd, Nat.reduceMul, Nat.reduceSub, Nat.reduceLeDiff, Nat.reduceBEq, Nat.reduceDiv, Nat.reduceMod, Int.reduceToNat, Int.reduceLT, Int.reduceLE, Int.reduceAdd, Int.reduceSub, Int.reduceMul, Int.reduceEq, Int.reduceNeg, reduceCtorEq, resV, resAll, ARes.ev, LV.flat, ite_true, ite_false, exists_eq_left', exists_eq_left, keyOf, implies_true, fillC, capOf]
  by_cases hH : HeapOK x y z cs
  rotate_left
  · rw [show lvsOf x y z cs = [] from if_neg hH, show okB x y z cs = false from decide_eq_false hH]
    simp (disch := omega) only [hH, ↓SXd, SXu, slBounds, ↓sop, ↓aop, ↓reduceIte, LV.cells, AOp.dst, LV.I, LV.B, LV.U, LV.S, LV.nil, Nat.reduceEqDiff, Nat.reduceAdd, Nat.reduceMul, Nat.reduceSub, Nat.reduceLeDiff, Nat.reduceBEq, Nat.reduceDiv, Nat.reduceMod, Int.reduceToNat, Int.reduceLT, Int.reduceLE, Int.reduceAdd, Int.reduceSub, Int.reduceMul, Int.reduceEq, Int.reduceNeg, reduceCtorEq, resV, resAll, ARes.ev, LV.flat, ite_true, ite_false, exists_eq_left', exists_eq_left, keyOf, implies_true, fillC, capOf]
    exact ⟨_, rfl, .inr ⟨_, _, rfl, (Live.newj (j := 1) rfl : Live _ _ (.row (intL []) true 1)).has⟩, Pre.app _ _⟩
  rw [show lvsOf x y z cs = lvL z (topsOf x y cs) from if_pos hH, show okB x y z cs = true from decide_eq_true hH]
  have hS := hH.1
  have htl := topsOf_len x y cs
  have hb := mul_bound hS.1 hS.2.1
  have hlow := topsOf_lowz hH
  obtain ⟨⟨_, _⟩, ⟨_, _⟩, ⟨_, _⟩⟩ := id hS
  simp (disch := omega) only [hH, made_int, ↓SXd, SXu, slBounds, ↓sop, ↓aop, ↓reduceIte, LV.cells, AOp.dst, LV.I, LV.B, LV.U, LV.S, LV.nil, Nat.reduceEqDiff, Nat.reduceAdd, Nat.reduceMul, Nat.reduceSub, Nat.reduceLeDiff, Nat.reduceBEq, Nat.reduceDiv, Nat.reduceMod, Int.reduceToNat, Int.reduceLT, Int.reduceLE, Int.reduceAdd, Int.reduceSub, Int.reduceMul, Int.reduceEq, Int.reduceNeg, reduceCtorEq, resV, resAll, ARes.ev, LV.flat, ite_true, ite_false, exists_eq_left', exists_eq_left, keyOf, implies_true, fillC, capOf]
  refine callK_of (h_l2Tops h.app hn hH) ?_
  simp (disch := omega) only [↓SXd, SXu, slBounds, ↓sop, ↓aop, ↓reduceIte, LV.cells, AOp.dst, LV.I, LV.B, LV.U, LV.S, LV.nil, Nat.reduceEqDiff, Nat.reduceAdd, Nat.reduceMul, Nat.reduceSub, Nat.reduceLeDiff, Nat.reduceBEq, Nat.reduceDiv, Nat.reduceMod, Int.reduceToNat, Int.reduceLT, Int.reduceLE, Int.reduceAdd, Int.reduceSub, Int.reduceMul, Int.reduceEq, Int.reduceNeg, reduceCtorEq, resV, resAll, ARes.ev, LV.flat, ite_true, ite_false, exists_eq_left', exists_eq_left, keyOf, implies_true, fillC, capOf]
  generalize hts : topsOf x y cs = ts at htl hlow ⊢
  refine ev_loop (fun m fr M' => ∃ (p : Nat), p + m = (x * y).toNat ∧ Pre M M' ∧ M.length + 3 ≤ M'.length ∧ Live M' (M.length + 2) (.row (intL ts) true 1) ∧ Live M' (M.length + 1) (.row (intL ((ts.take p).foldl lvStep (List.replicate (z + 1).toNat 0))) true 1) ∧
    fr 4 = .ref (M.length + 1) 0 (z + 1).toNat ∧ fr 5 = .ref (M.length + 2) 0 (x * y).toNat ∧ fr 6 = .I p) (x * y).toNat
    ⟨0, by omega, Pre.app _ _, by simp, Live.newj (j := 2) rfl, Live.newj (j := 1) rfl, rfl, rfl, rfl⟩ ?_
  rintro m fr M' ⟨p, hp, hpre, hM', bt, bl, f4, f5, f6⟩
  simp (disch := omega) only [f4, f5, f6, ↓SXd, SXu, slBounds, ↓sop, ↓aop, ↓reduceIte, LV.cells, AOp.dst, LV.I, LV.B, LV.U, LV.S, LV.nil, Nat.reduceEqDiff, Nat.reduceAdd, Nat.reduceMul, Nat.reduceSub, Nat.reduceLeDiff, Nat.reduceBEq, Nat.reduceDiv, Nat.reduceMod, Int.reduceToNat, Int.reduceLT, Int.reduceLE, Int.reduceAdd, Int.reduceSub, Int.reduceMul, Int.reduceEq, Int.reduceNeg, reduceCtorEq, resV, resAll, ARes.ev, LV.flat, ite_true, ite_false, exists_eq_left', exists_eq_left, keyOf, implies_true, fillC, capOf]
  refine condC_dec (fun hlt => ?_) (fun hlt => ?_)
  · have hpx : p < (x * y).toNat := by omega
    have hcell := bt.cell (o := p)
    rw [intL_get (by omega)] at hcell
    have hst := take_succ_foldl lvStep (List.replicate (z + 1).toNat 0) ts p 0 (by omega)
    have hz : ∀ i, 0 ≤ (List.replicate (z + 1).toNat (0 : Int)).getD i 0 ∧ (List.replicate (z + 1).toNat (0 : Int)).getD i 0 ≤ 0 := fun i => by
      rw [List.getD_eq_getElem?_getD, List.getElem?_replicate]; split <;> simp
    have hbd := lv_bound (ts.take p) _ 0 hz
    have hll := lv_len (ts := ts.take p) (v := List.replicate (z + 1).toNat 0)
    have htp := List.length_take_le p ts
    have hlo := hlow p
    rw [List.length_replicate] at hll
    generalize ts.getD p 0 = hv at hcell hst hlo
    generalize (ts.take p).foldl lvStep (List.replicate (z + 1).toNat 0) = v at bl hst hbd hll
    have hb2 := hbd hv.toNat
    have hcl := bl.cell (o := hv.toNat)
    rw [intL_get (by omega)] at hcl
    simp (disch := omega) only [f4, f5, f6, hcell, hcl, Nat.mul_one, Nat.zero_add, ↓SXd, SXu, slBounds, ↓sop, ↓aop, ↓reduceIte, LV.cells, AOp.dst, LV.I, LV.B, LV.U, LV.S, LV.nil, Nat.reduceEqDiff, Nat.reduceAdd, Nat.reduceMul, Nat.reduceSub, Nat.reduceLeDiff, Nat.reduceBEq, Nat.reduceDiv, Nat.reduceMod, Int.reduceToNat, Int.reduceLT, Int.reduceLE, Int.reduceAdd, Int.reduceSub, Int.reduceMul, Int.reduceEq, Int.reduceNeg, reduceCtorEq, resV, resAll, ARes.ev, LV.flat, ite_true, ite_false, exists_eq_left', exists_eq_left, keyOf, implies_true, fillC, capOf]
    refine memK_int bl (show hv.toNat < v.length by omega) fun N k1 k2 k3 => ?_
    simp (disch := omega) only [f4, f5, f6, ↓SXd, SXu, slBounds, ↓sop, ↓aop, ↓reduceIte, LV.cells, AOp.dst, LV.I, LV.B, LV.U, LV.S, LV.nil, Nat.reduceEqDiff, Nat.reduceAdd, Nat.reduceMul, Nat.reduceSub, Nat.reduceLeDiff, Nat.reduceBEq, Nat.reduceDiv, Nat.reduceMod, Int.reduceToNat, Int.reduceLT, Int.reduceLE, Int.reduceAdd, Int.reduceSub, Int.reduceMul, Int.reduceEq, Int.reduceNeg, reduceCtorEq, resV, resAll, ARes.ev, LV.flat, ite_true, ite_false, exists_eq_left', exists_eq_left, keyOf, implies_true, fillC, capOf]
    rw [show v.set hv.toNat (v.getD hv.toNat 0 + 1) = lvStep v hv from rfl, ← hst] at k2
    exact ⟨m - 1, by omega, p + 1, by omega, pre_step hpre (by omega) (j := 0) k1 k3, by omega, live_step bt (by omega) k3, k2, f4, f5, eqI (natI _)⟩
  · have hpx : p = ts.length := by omega
    subst hpx
    rw [List.take_length] at bl
    simp (disch := omega) only [f4, f5, f6, ↓SXd, SXu, slBounds, ↓sop, ↓aop, ↓reduceIte, LV.cells, AOp.dst, LV.I, LV.B, LV.U, LV.S, LV.nil, Nat.reduceEqDiff, Nat.reduceAdd, Nat.reduceMul, Nat.reduceSub, Nat.reduceLeDiff, Nat.reduceBEq, Nat.reduceDiv, Nat.reduceMod, Int.reduceToNat, Int.reduceLT, Int.reduceLE, Int.reduceAdd, Int.reduceSub, Int.reduceMul, Int.reduceEq, Int.reduceNeg, reduceCtorEq, resV, resAll, ARes.ev, LV.flat, ite_true, ite_false, exists_eq_left', exists_eq_left, keyOf, implies_true, fillC, capOf]
    exact ⟨_, rfl, .inr ⟨_, _, by unfold lvL; rw [lv_len, List.length_replicate], bl.has⟩, hpre⟩
end
end Go.Ab

/- The abstract code of some functions (written by a program of mine from the translation, by way of prepF). -/
namespace Go.Ab.C
open Go.Ab
def spec_CountSights : AFn :=
 ⟨2, 68, [.tmp 4, .tmp 5],
 .seq (.ops [(none, .mv 4 (.c (.I 0))),
 (none, .mv 5 (.c (.B false)))])
 (.seq (.seq (.ops [(none, .mv 10 (.t 0)),
 (none, .call (some 11) F.spec_l1In [(.t 10), (.c (.I 1)), (.c (.I 12))]),
 (none, .un 12 .not (.t 11)),
 (none, .mv 13 (.t 12)),
 (some (13, false), .mv 14 (.t 1)),
 (some (13, false), .mv 15 (.t 0)),
 (some (13, false), .call (some 16) F.spec_l1In [(.t 14), (.c (.I 0)), (.t 15)]),
 (some (13, false), .un 17 .not (.t 16)),
 (none, .pick 18 (.t 13) (.c (.B true)) (.t 17))])
 (.cond (.t 18) (.seq (.ops [(none, .mv 4 (.c (.I 0))),
 (none, .mv 5 (.c (.B false)))])
 (.ret))
 (.skip)))
 (.seq (.ops [(none, .buildSl 19 1 1 [(.I 0)] [(0, 1, (.c (.I 1)))]),
 (none, .mv 6 (.t 19))])
 (.seq (.seq (.ops [(none, .mv 7 (.c (.I 1)))])
 (.block 0 (.loop (.seq (.seq (.ops [(none, .mv 20 (.t 7)),
 (none, .mv 21 (.t 0)),
 (none, .bin 22 .leq (.t 20) (.t 21))])
 (.cond (.t 22) (.skip)
 (.exit 0)))
 (.seq (.block 1 (.seq (.ops [(none, .mv 25 (.t 7)),
 (none, .bin 26 .add (.t 25) (.c (.I 1))),
 (none, .mksl 27 1 8 [(.I 0)] (.t 26) (.t 26)),
 (none, .mv 8 (.t 27))])
 (.seq (.seq (.ops [(none, .mv 9 (.c (.I 0)))])
 (.block 2 (.loop (.seq (.seq (.ops [(none, .mv 28 (.t 9)),
 (none, .mv 29 (.t 6)),
 (none, .len 30 (.t 29)),
 (none, .bin 31 .lss (.t 28) (.t 30))])
 (.cond (.t 31) (.skip)
 (.exit 2)))
 (.seq (.block 3 (.seq (.draw [⟨(none, .mv 34 (.t 8)), [], []⟩,
 ⟨(none, .mv 35 (.t 9)), [], []⟩,
 ⟨(none, .bin 36 .add (.t 35) (.c (.I 1))), [], []⟩,
 ⟨(none, .mv 37 (.t 8)), [], []⟩,
 ⟨(none, .mv 38 (.t 9)), [], []⟩,
 ⟨(none, .bin 39 .add (.t 38) (.c (.I 1))), [], []⟩,
 ⟨(none, .idxS 40 1 (.t 37) (.t 39)), [], []⟩,
 ⟨(none, .load1 41 (.t 40)), [], []⟩,
 ⟨(none, .mv 42 (.t 6)), [], []⟩,
 ⟨(none, .mv 43 (.t 9)), [], []⟩,
 ⟨(none, .idxS 44 1 (.t 42) (.t 43)), [], []⟩,
 ⟨(none, .load1 45 (.t 44)), [], []⟩,
 ⟨(none, .bin 46 .add (.t 41) (.t 45)), [], []⟩,
 ⟨(none, .idxS 47 1 (.t 34) (.t 36)), [], []⟩,
 ⟨(none, .store 1 (.t 47) (.t 46)), [], []⟩])
 (.draw [⟨(none, .mv 48 (.t 8)), [], []⟩,
 ⟨(none, .mv 49 (.t 9)), [], []⟩,
 ⟨(none, .mv 50 (.t 8)), [], []⟩,
 ⟨(none, .mv 51 (.t 9)), [], []⟩,
 ⟨(none, .idxS 52 1 (.t 50) (.t 51)), [], []⟩,
 ⟨(none, .load1 53 (.t 52)), [], []⟩,
 ⟨(none, .mv 54 (.t 7)), [], []⟩,
 ⟨(none, .bin 55 .sub (.t 54) (.c (.I 1))), [], []⟩,
 ⟨(none, .mv 56 (.t 6)), [], []⟩,
 ⟨(none, .mv 57 (.t 9)), [], []⟩,
 ⟨(none, .idxS 58 1 (.t 56) (.t 57)), [], []⟩,
 ⟨(none, .load1 59 (.t 58)), [], []⟩,
 ⟨(none, .bin 60 .mul (.t 55) (.t 59)), [], []⟩,
 ⟨(none, .bin 61 .add (.t 53) (.t 60)), [], []⟩,
 ⟨(none, .idxS 62 1 (.t 48) (.t 49)), [], []⟩,
 ⟨(none, .store 1 (.t 62) (.t 61)), [], []⟩])))
 (.ops [(none, .mv 32 (.t 9)),
 (none, .bin 33 .add (.t 32) (.c (.I 1))),
 (none, .mv 9 (.t 33))]))))))
 (.ops [(none, .mv 63 (.t 8)),
 (none, .mv 6 (.t 63))]))))
 (.ops [(none, .mv 23 (.t 7)),
 (none, .bin 24 .add (.t 23) (.c (.I 1))),
 (none, .mv 7 (.t 24))]))))))
 (.seq (.ops [(none, .mv 64 (.t 6)),
 (none, .mv 65 (.t 1)),
 (none, .idxS 66 1 (.t 64) (.t 65)),
 (none, .load1 67 (.t 66)),
 (none, .mv 4 (.t 67)),
 (none, .mv 5 (.c (.B true)))])
 (.ret)))))⟩
def impl_CountSights : AFn :=
 ⟨2, 57, [.tmp 4, .tmp 5],
 .seq (.ops [(none, .mv 4 (.c (.I 0))),
 (none, .mv 5 (.c (.B false)))])
 (.seq (.seq (.ops [(none, .mv 9 (.t 0)),
 (none, .call (some 10) F.impl_within [(.t 9), (.c (.I 1)), (.c (.I 12))]),
 (none, .un 11 .not (.t 10)),
 (none, .mv 12 (.t 11)),
 (some (12, false), .mv 13 (.t 1)),
 (some (12, false), .mv 14 (.t 0)),
 (some (12, false), .call (some 15) F.impl_within [(.t 13), (.c (.I 0)), (.t 14)]),
 (some (12, false), .un 16 .not (.t 15)),
 (none, .pick 17 (.t 12) (.c (.B true)) (.t 16))])
 (.cond (.t 17) (.seq (.ops [(none, .mv 4 (.c (.I 0))),
 (none, .mv 5 (.c (.B false)))])
 (.ret))
 (.skip)))
 (.seq (.ops [(none, .mv 18 (.t 0)),
 (none, .bin 19 .add (.t 18) (.c (.I 1))),
 (none, .mksl 20 1 8 [(.I 0)] (.t 19) (.t 19)),
 (none, .mv 6 (.t 20))])
 (.seq (.ops [(none, .mv 21 (.t 6)),
 (none, .idxS 22 1 (.t 21) (.c (.I 0))),
 (none, .store 1 (.t 22) (.c (.I 1)))])
 (.seq (.seq (.ops [(none, .mv 23 (.t 0)),
 (none, .mv 24 (.c (.I 0)))])
 (.block 0 (.loop (.seq (.ops [(none, .bin 25 .lss (.t 24) (.t 23))])
 (.seq (.cond (.t 25) (.skip)
 (.exit 0))
 (.seq (.block 1 (.seq (.ops [(none, .mv 26 (.t 24)),
 (none, .mv 7 (.t 26))])
 (.seq (.ops [(none, .mv 27 (.t 0)),
 (none, .mv 8 (.t 27))])
 (.block 2 (.loop (.seq (.seq (.ops [(none, .mv 28 (.t 8)),
 (none, .bin 29 .geq (.t 28) (.c (.I 0)))])
 (.cond (.t 29) (.skip)
 (.exit 2)))
 (.seq (.block 3 (.seq (.ops [(none, .mv 32 (.t 6)),
 (none, .mv 33 (.t 8)),
 (none, .idxS 34 1 (.t 32) (.t 33)),
 (none, .load1 35 (.t 34)),
 (none, .mv 36 (.t 7)),
 (none, .bin 37 .mul (.t 35) (.t 36)),
 (none, .idxS 38 1 (.t 32) (.t 33)),
 (none, .store 1 (.t 38) (.t 37))])
 (.seq (.ops [(none, .mv 39 (.t 8)),
 (none, .bin 40 .gtr (.t 39) (.c (.I 0)))])
 (.cond (.t 40) (.draw [⟨(none, .mv 41 (.t 6)), [], []⟩,
 ⟨(none, .mv 42 (.t 8)), [], []⟩,
 ⟨(none, .idxS 43 1 (.t 41) (.t 42)), [], []⟩,
 ⟨(none, .load1 44 (.t 43)), [], []⟩,
 ⟨(none, .mv 45 (.t 6)), [], []⟩,
 ⟨(none, .mv 46 (.t 8)), [], []⟩,
 ⟨(none, .bin 47 .sub (.t 46) (.c (.I 1))), [], []⟩,
 ⟨(none, .idxS 48 1 (.t 45) (.t 47)), [], []⟩,
 ⟨(none, .load1 49 (.t 48)), [], []⟩,
 ⟨(none, .bin 50 .add (.t 44) (.t 49)), [], []⟩,
 ⟨(none, .idxS 51 1 (.t 41) (.t 42)), [], []⟩,
 ⟨(none, .store 1 (.t 51) (.t 50)), [], []⟩])
 (.skip)))))
 (.ops [(none, .mv 30 (.t 8)),
 (none, .bin 31 .sub (.t 30) (.c (.I 1))),
 (none, .mv 8 (.t 31))]))))))))
 (.ops [(none, .bin 52 .add (.t 24) (.c (.I 1))),
 (none, .mv 24 (.t 52))])))))))
 (.seq (.ops [(none, .mv 53 (.t 6)),
 (none, .mv 54 (.t 1)),
 (none, .idxS 55 1 (.t 53) (.t 54)),
 (none, .load1 56 (.t 55)),
 (none, .mv 4 (.t 56)),
 (none, .mv 5 (.c (.B true)))])
 (.ret))))))⟩
def spec_DrawSightsOf : AFn :=
 ⟨1, 16, [.cellN 2 4, .tmp 3, .tmp 4],
 .seq (.ops [(none, .alloc 2 [(.I 0), (.I 0), (.I 0), .nil]),
 (none, .mv 3 (.c (.I 0))),
 (none, .mv 4 (.c (.B false)))])
 (.seq (.ops [(none, .mv 6 (.t 0)),
 (none, .build 7 [.nil, (.I 0), (.U 0)] [(0, 1, (.t 6))]),
 (none, .box 8 (.t 7)),
 (none, .mv 5 (.t 8))])
 (.seq (.ops [(none, .mv 9 (.t 5)),
 (none, .call (some 10) F.spec_l1Cur_heap [(.t 9)]),
 (none, .mv 11 (.t 5)),
 (none, .buildSl 12 8 1 [(.I 0), (.I 0), (.I 0), (.I 0), (.I 0), (.I 0), (.I 0), (.I 0)] [(0, 1, (.c (.I 0))), (1, 1, (.c (.I 1))), (2, 1, (.c (.I 0))), (3, 1, (.c (.I 1))), (4, 1, (.c (.I 0))), (5, 1, (.c (.I 1))), (6, 1, (.c (.I 2))), (7, 1, (.c (.I (-1))))]),
 (none, .call (some 13) F.spec_l1Cur_among [(.t 11), (.t 12)]),
 (none, .mv 14 (.t 5)),
 (none, .call (some 15) F.spec_l1Cur_one [(.t 14), (.c (.I 2))]),
 (none, .store 4 (.t 2) (.t 10)),
 (none, .mv 3 (.t 13)),
 (none, .mv 4 (.t 15))])
 (.ret)))⟩
def spec_DrawPeaksOf : AFn :=
 ⟨1, 5, [.cellN 2 4],
 .seq (.ops [(none, .alloc 2 [(.I 0), (.I 0), (.I 0), .nil])])
 (.seq (.ops [(none, .mv 3 (.t 0)),
 (none, .call (some 4) F.spec_DrawIsHeap [(.t 3)]),
 (none, .store 4 (.t 2) (.t 4))])
 (.ret))⟩
def spec_DrawIsHeap : AFn :=
 ⟨1, 9, [.cellN 2 4],
 .seq (.ops [(none, .alloc 2 [(.I 0), (.I 0), (.I 0), .nil])])
 (.seq (.ops [(none, .mv 4 (.t 0)),
 (none, .build 5 [.nil, (.I 0), (.U 0)] [(0, 1, (.t 4))]),
 (none, .box 6 (.t 5)),
 (none, .mv 3 (.t 6))])
 (.seq (.ops [(none, .mv 7 (.t 3)),
 (none, .call (some 8) F.spec_l1Cur_heap [(.t 7)]),
 (none, .store 4 (.t 2) (.t 8))])
 (.ret)))⟩
def spec_DrawCountSights : AFn :=
 ⟨1, 14, [.tmp 2, .tmp 3],
 .seq (.ops [(none, .mv 2 (.c (.I 0))),
 (none, .mv 3 (.c (.I 0)))])
 (.seq (.ops [(none, .mv 5 (.t 0)),
 (none, .build 6 [.nil, (.I 0), (.U 0)] [(0, 1, (.t 5))]),
 (none, .box 7 (.t 6)),
 (none, .mv 4 (.t 7))])
 (.seq (.ops [(none, .mv 8 (.t 4)),
 (none, .buildSl 9 9 1 [(.I 0), (.I 0), (.I 0), (.I 0), (.I 0), (.I 0), (.I 0), (.I 0), (.I 0)] [(0, 1, (.c (.I 4))), (1, 1, (.c (.I 3))), (2, 1, (.c (.I 5))), (3, 1, (.c (.I 2))), (4, 1, (.c (.I 1))), (5, 1, (.c (.I 8))), (6, 1, (.c (.I 12))), (7, 1, (.c (.I 13))), (8, 1, (.c (.I 0)))]),
 (none, .call (some 10) F.spec_l1Cur_among [(.t 8), (.t 9)]),
 (none, .mv 11 (.t 4)),
 (none, .buildSl 12 8 1 [(.I 0), (.I 0), (.I 0), (.I 0), (.I 0), (.I 0), (.I 0), (.I 0)] [(0, 1, (.c (.I 1))), (1, 1, (.c (.I 2))), (2, 1, (.c (.I 3))), (3, 1, (.c (.I 0))), (4, 1, (.c (.I 4))), (5, 1, (.c (.I 5))), (6, 1, (.c (.I 12))), (7, 1, (.c (.I (-1))))]),
 (none, .call (some 13) F.spec_l1Cur_among [(.t 11), (.t 12)]),
 (none, .mv 2 (.t 10)),
 (none, .mv 3 (.t 13))])
 (.ret)))⟩
end Go.Ab.C

/- That the program has this code. -/
namespace Go.Ab.K
open Go Go.Ab
theorem spec_CountSights : prepF Go.Proofs.Try.prog F.spec_CountSights = some C.spec_CountSights := by kernel_rfl
theorem impl_CountSights : prepF Go.Proofs.Try.prog F.impl_CountSights = some C.impl_CountSights := by kernel_rfl
theorem spec_DrawSightsOf : prepF Go.Proofs.Try.prog F.spec_DrawSightsOf = some C.spec_DrawSightsOf := by kernel_rfl
theorem spec_DrawPeaksOf : prepF Go.Proofs.Try.prog F.spec_DrawPeaksOf = some C.spec_DrawPeaksOf := by kernel_rfl
theorem spec_DrawIsHeap : prepF Go.Proofs.Try.prog F.spec_DrawIsHeap = some C.spec_DrawIsHeap := by kernel_rfl
theorem spec_DrawCountSights : prepF Go.Proofs.Try.prog F.spec_DrawCountSights = some C.spec_DrawCountSights := by kernel_rfl
end Go.Ab.K

/- The abstract code of some functions (written by a program of mine from the translation, by way of prepF). -/
namespace Go.Ab.C
open Go.Ab
end Go.Ab.C

/- That the program has this code. -/
namespace Go.Ab.K
open Go Go.Ab
end Go.Ab.K

/- Contracts: what the law of heaps' forms draws. -/
namespace Go.Ab
open Go
set_option linter.unusedSimpArgs false
set_option linter.unusedVariables false
set_option maxRecDepth 20000

section
variable {t o : Nat} {bs : List Nat} {M : Mem} (hB : Bytes M t o bs) (h255 : ∀ b ∈ bs, b ≤ 255) (hl : bs.length ≤ 1000000000)
include hB h255 hl
end
end Go.Ab

/- Contracts: orders by sights, both sides; draws of the law of sights. -/
namespace Go.Ab
open Go
set_option linter.unusedSimpArgs false
set_option linter.unusedVariables false
set_option maxRecDepth 20000

theorem stir_zero : ∀ {m i : Nat}, m < i → stir m i = 0
  | 0, i + 1, _ => rfl
  | m + 1, i + 1, h => by
    simp only [stir]
    rw [stir_zero (by omega), stir_zero (by omega)]; rfl
def SgOK (n k : Int) : Prop := (1 ≤ n ∧ n ≤ 12) ∧ 0 ≤ k ∧ k ≤ n
instance (n k : Int) : Decidable (SgOK n k) := by unfold SgOK; exact inferInstance
def sgN (n k : Int) : Int := if SgOK n k then (stir n.toNat k.toNat : Nat) else 0
def sgB (n k : Int) : Bool := decide (SgOK n k)
/-- The counters when k of a round have been done, from the last one on. -/
def cntS (n m k : Nat) : List Int := (List.range (n + 1)).map fun j => if n < j + k then ((stir (m + 1) j : Nat) : Int) else (stir m j : Nat)
theorem cntS_len {n m k : Nat} : (cntS n m k).length = n + 1 := by simp [cntS]
theorem cntS_get {n m k j : Nat} (h : j < n + 1) : (cntS n m k).getD j 0 = if n < j + k then ((stir (m + 1) j : Nat) : Int) else (stir m j : Nat) := by
  unfold cntS
  rw [List.getD_eq_getElem?_getD, List.getElem?_map, List.getElem?_range h]; rfl
theorem cntS_next {n m : Nat} : cntS n m (n + 1) = cntS n (m + 1) 0 := by
  unfold cntS
  refine List.map_congr_left fun j hj => ?_
  have := List.mem_range.1 hj
  rw [if_pos (by omega), if_neg (by omega)]
theorem set_getD {v : List Int} {i q : Nat} {a : Int} (hi : i < v.length) : (v.set i a).getD q 0 = if i = q then a else v.getD q 0 := by
  rw [List.getD_eq_getElem?_getD, List.getElem?_set]
  by_cases e : i = q
  · subst e; simp [hi]
  · simp [e]
theorem cntS_step0 {n m : Nat} : (cntS n m n).set 0 (((stir m 0 : Nat) : Int) * m) = cntS n m (n + 1) := by
  refine ints_same (by simp [cntS_len]) fun j hj => ?_
  rw [List.length_set, cntS_len] at hj
  rw [set_getD (by rw [cntS_len]; omega), cntS_get hj, cntS_get hj]
  by_cases h0 : 0 = j
  · subst h0
    rw [if_pos rfl, if_pos (by omega)]
    simp only [stir]
    rw [Int.natCast_mul, Int.mul_comm]
  · rw [if_neg h0, if_pos (by omega), if_pos (by omega)]
theorem cntS_step {n m k : Nat} (hk : k < n) : (cntS n m k).set (n - k) (((stir m (n - k) : Nat) : Int) * m + (stir m (n - k - 1) : Nat)) = cntS n m (k + 1) := by
  refine ints_same (by simp [cntS_len]) fun j hj => ?_
  rw [List.length_set, cntS_len] at hj
  rw [set_getD (by rw [cntS_len]; omega), cntS_get hj, cntS_get hj]
  by_cases h0 : n - k = j
  · subst h0
    rw [if_pos rfl, if_pos (by omega)]
    obtain ⟨i, hi⟩ : ∃ i, n - k = i + 1 := ⟨n - k - 1, by omega⟩
    rw [hi]
    simp only [stir, Nat.add_sub_cancel]
    rw [Int.natCast_add, Int.natCast_mul, Int.mul_comm]
  · rw [if_neg h0]
    by_cases h1 : n < j + k
    · rw [if_pos h1, if_pos (by omega)]
    · rw [if_neg h1, if_neg (by omega)]
theorem g_CountSights {n k : Int} {M : Mem} : CallsTo PG F.impl_CountSights [.I n, .I k] M (.tup [.I (sgN n k), .B (sgB n k)]) M := by
  refine calls_run K.impl_CountSights rfl ?_
  simp (disch := omega) only [C.impl_CountSights, ↓SXd, SXu, slBounds, ↓sop, ↓aop, ↓reduceIte, LV.cells, AOp.dst, LV.I, LV.B, LV.U, LV.S, LV.nil, Nat.reduceEqDiff, Nat.reduceAdd, Nat.reduceMul, Nat.reduceSub, Nat.reduceLeDiff, Nat.reduceBEq, Nat.reduceDiv, Nat.reduceMod, Int.reduceToNat, Int.reduceLT, Int.reduceLE, Int.reduceAdd, Int.reduceSub, Int.reduceMul, Int.reduceEq, Int.reduceNeg, reduceCtorEq, resV, resAll, ARes.ev, LV.flat, ite_true, ite_false, exists_eq_left', exists_eq_left, keyOf, implies_true, fillC, capOf]
  refine callK_of (g_within) ?_
  simp (disch := omega) only [↓SXd, SXu, slBounds, ↓sop, ↓aop, ↓reduceIte, LV.cells, AOp.dst, LV.I, LV.B, LV.U, LV.S, LV.nil, Nat.reduceEqDiff, Nat.reduceAdd, Nat.reduceMul, Nat.reduceSub, Nat.reduceLeDiff, Nat.reduceBEq, Nat.reduceDiv, Nat.reduceMod, Int.reduceToNat, Int.reduceLT, Int.reduceLE, Int.reduceAdd, Int.reduceSub, Int.reduceMul, Int.reduceEq, Int.reduceNeg, reduceCtorEq, resV, resAll, ARes.ev, LV.flat, ite_true, ite_false, exists_eq_left', exists_eq_left, keyOf, implies_true, fillC, capOf]
  have hno : ¬ SgOK n k → sgN n k = 0 ∧ sgB n k = false := fun e => ⟨if_neg e, decide_eq_false e⟩
  by_cases h1 : 1 ≤ n ∧ n ≤ 12
  rotate_left
  · rw [(hno fun e => h1 e.1).1, (hno fun e => h1 e.1).2, decide_eq_false h1]
    simp (disch := omega) only [↓SXd, SXu, slBounds, ↓sop, ↓aop, ↓reduceIte, LV.cells, AOp.dst, LV.I, LV.B, LV.U, LV.S, LV.nil, Nat.reduceEqDiff, Nat.reduceAdd, Nat.reduceMul, Nat.reduceSub, Nat.reduceLeDiff, Nat.reduceBEq, Nat.reduceDiv, Nat.reduceMod, Int.reduceToNat, Int.reduceLT, Int.reduceLE, Int.reduceAdd, Int.reduceSub, Int.reduceMul, Int.reduceEq, Int.reduceNeg, reduceCtorEq, resV, resAll, ARes.ev, LV.flat, ite_true, ite_false, exists_eq_left', exists_eq_left, keyOf, implies_true, fillC, capOf]
    exact cmp_drop0 rfl
  rw [decide_eq_true h1]
  simp (disch := omega) only [↓SXd, SXu, slBounds, ↓sop, ↓aop, ↓reduceIte, LV.cells, AOp.dst, LV.I, LV.B, LV.U, LV.S, LV.nil, Nat.reduceEqDiff, Nat.reduceAdd, Nat.reduceMul, Nat.reduceSub, Nat.reduceLeDiff, Nat.reduceBEq, Nat.reduceDiv, Nat.reduceMod, Int.reduceToNat, Int.reduceLT, Int.reduceLE, Int.reduceAdd, Int.reduceSub, Int.reduceMul, Int.reduceEq, Int.reduceNeg, reduceCtorEq, resV, resAll, ARes.ev, LV.flat, ite_true, ite_false, exists_eq_left', exists_eq_left, keyOf, implies_true, fillC, capOf]
  refine callK_of (g_within) ?_
  simp (disch := omega) only [↓SXd, SXu, slBounds, ↓sop, ↓aop, ↓reduceIte, LV.cells, AOp.dst, LV.I, LV.B, LV.U, LV.S, LV.nil, Nat.reduceEqDiff, Nat.reduceAdd, Nat.reduceMul, Nat.reduceSub, Nat.reduceLeDiff, Nat.reduceBEq, Nat.reduceDiv, Nat.reduceMod, Int.reduceToNat, Int.reduceLT, Int.reduceLE, Int.reduceAdd, Int.reduceSub, Int.reduceMul, Int.reduceEq, Int.reduceNeg, reduceCtorEq, resV, resAll, ARes.ev, LV.flat, ite_true, ite_false, exists_eq_left', exists_eq_left, keyOf, implies_true, fillC, capOf]
  by_cases h2 : 0 ≤ k ∧ k ≤ n
  rotate_left
  · rw [(hno fun e => h2 e.2).1, (hno fun e => h2 e.2).2, decide_eq_false h2]
    simp (disch := omega) only [↓SXd, SXu, slBounds, ↓sop, ↓aop, ↓reduceIte, LV.cells, AOp.dst, LV.I, LV.B, LV.U, LV.S, LV.nil, Nat.reduceEqDiff, Nat.reduceAdd, Nat.reduceMul, Nat.reduceSub, Nat.reduceLeDiff, Nat.reduceBEq, Nat.reduceDiv, Nat.reduceMod, Int.reduceToNat, Int.reduceLT, Int.reduceLE, Int.reduceAdd, Int.reduceSub, Int.reduceMul, Int.reduceEq, Int.reduceNeg, reduceCtorEq, resV, resAll, ARes.ev, LV.flat, ite_true, ite_false, exists_eq_left', exists_eq_left, keyOf, implies_true, fillC, capOf]
    exact cmp_drop0 rfl
  rw [show sgN n k = (stir n.toNat k.toNat : Nat) from if_pos ⟨h1, h2⟩, show sgB n k = true from decide_eq_true ⟨h1, h2⟩, decide_eq_true h2]
  clear hno
  obtain ⟨a, rfl⟩ : ∃ a : Nat, n = a := ⟨n.toNat, by omega⟩
  obtain ⟨b, rfl⟩ : ∃ b : Nat, k = b := ⟨k.toNat, by omega⟩
  rw [Int.toNat_natCast, Int.toNat_natCast]
  have hrep : (((a : Int) + 1).toNat) = a + 1 := by omega
  have hini : (List.replicate (a + 1) (0 : Int)).set 0 1 = cntS a 0 0 := by
    refine ints_same (by simp [cntS_len]) fun j hj => ?_
    rw [List.length_set, List.length_replicate] at hj
    rw [set_getD (by simp), cntS_get hj, if_neg (show ¬ a < j + 0 by omega)]
    by_cases h0 : 0 = j
    · subst h0; rfl
    · rw [if_neg h0]
      obtain ⟨i, rfl⟩ : ∃ i, j = i + 1 := ⟨j - 1, by omega⟩
      rw [List.getD_eq_getElem?_getD, List.getElem?_replicate]
      simp [hj, stir]
  have hspl : splice (intL (List.replicate (a + 1) 0)) 0 [LV.val (Value.int IntKind.i64 1)] = intL (cntS a 0 0) := by rw [splice_int (by simp), hini]
  have hle1 : 1 ≤ (intL (List.replicate (a + 1) (0 : Int))).length := by rw [intL_len]; simp
  simp (disch := omega) only [made_int, hrep, hspl, hle1, ↓SXd, SXu, slBounds, ↓sop, ↓aop, ↓reduceIte, LV.cells, AOp.dst, LV.I, LV.B, LV.U, LV.S, LV.nil, Nat.reduceEqDiff, Nat.reduceAdd, Nat.reduceMul, Nat.reduceSub, Nat.reduceLeDiff, Nat.reduceBEq, Nat.reduceDiv, Nat.reduceMod, Int.reduceToNat, Int.reduceLT, Int.reduceLE, Int.reduceAdd, Int.reduceSub, Int.reduceMul, Int.reduceEq, Int.reduceNeg, reduceCtorEq, resV, resAll, ARes.ev, LV.flat, ite_true, ite_false, exists_eq_left', exists_eq_left, keyOf, implies_true, fillC, capOf]
  refine ev_loop (fun mm fr M' => ∃ m : Nat, m + mm = a ∧ Pre M M' ∧ M.length < M'.length ∧ Live M' M.length (.row (intL (cntS a m 0)) true 1) ∧ fr 0 = .I a ∧ fr 1 = .I b ∧ fr 6 = .ref M.length 0 (a + 1) ∧ fr 23 = .I a ∧ fr 24 = .I m) a
    ⟨0, by omega, Pre.app _ _, by simp, Live.new, rfl, rfl, rfl, rfl, rfl⟩ ?_
  rintro mm fr M' ⟨m, hm, hpre, hM', bl, f0, f1, f6, f23, f24⟩
  simp (disch := omega) only [f0, f1, f6, f23, f24, ↓SXd, SXu, slBounds, ↓sop, ↓aop, ↓reduceIte, LV.cells, AOp.dst, LV.I, LV.B, LV.U, LV.S, LV.nil, Nat.reduceEqDiff, Nat.reduceAdd, Nat.reduceMul, Nat.reduceSub, Nat.reduceLeDiff, Nat.reduceBEq, Nat.reduceDiv, Nat.reduceMod, Int.reduceToNat, Int.reduceLT, Int.reduceLE, Int.reduceAdd, Int.reduceSub, Int.reduceMul, Int.reduceEq, Int.reduceNeg, reduceCtorEq, resV, resAll, ARes.ev, LV.flat, ite_true, ite_false, exists_eq_left', exists_eq_left, keyOf, implies_true, fillC, capOf]
  refine condC_dec (fun hlt => ?_) (fun hlt => ?_)
  · have hma : m < a := by omega
    simp (disch := omega) only [f0, f1, f6, f23, f24, ↓SXd, SXu, slBounds, ↓sop, ↓aop, ↓reduceIte, LV.cells, AOp.dst, LV.I, LV.B, LV.U, LV.S, LV.nil, Nat.reduceEqDiff, Nat.reduceAdd, Nat.reduceMul, Nat.reduceSub, Nat.reduceLeDiff, Nat.reduceBEq, Nat.reduceDiv, Nat.reduceMod, Int.reduceToNat, Int.reduceLT, Int.reduceLE, Int.reduceAdd, Int.reduceSub, Int.reduceMul, Int.reduceEq, Int.reduceNeg, reduceCtorEq, resV, resAll, ARes.ev, LV.flat, ite_true, ite_false, exists_eq_left', exists_eq_left, keyOf, implies_true, fillC, capOf]
    refine ev_loop (fun m2 fr N => ∃ k : Nat, k + m2 = a + 1 ∧ Pre M N ∧ M.length < N.length ∧ Live N M.length (.row (intL (cntS a m k)) true 1) ∧ fr 0 = .I a ∧ fr 1 = .I b ∧ fr 6 = .ref M.length 0 (a + 1) ∧ fr 23 = .I a ∧ fr 24 = .I m ∧ fr 7 = .I m ∧ fr 8 = .I ((a : Int) - k)) (a + 1)
      ⟨0, by omega, hpre, hM', bl, f0, f1, f6, f23, f24, rfl, eqI (by omega)⟩ ?_
    clear f0 f1 f6 f23 f24 bl hpre
    rintro m2 fr N ⟨k, hk, hpre, hN, bl, f0, f1, f6, f23, f24, f7, f8⟩
    simp (disch := omega) only [f0, f1, f6, f23, f24, f7, f8, ↓SXd, SXu, slBounds, ↓sop, ↓aop, ↓reduceIte, LV.cells, AOp.dst, LV.I, LV.B, LV.U, LV.S, LV.nil, Nat.reduceEqDiff, Nat.reduceAdd, Nat.reduceMul, Nat.reduceSub, Nat.reduceLeDiff, Nat.reduceBEq, Nat.reduceDiv, Nat.reduceMod, Int.reduceToNat, Int.reduceLT, Int.reduceLE, Int.reduceAdd, Int.reduceSub, Int.reduceMul, Int.reduceEq, Int.reduceNeg, reduceCtorEq, resV, resAll, ARes.ev, LV.flat, ite_true, ite_false, exists_eq_left', exists_eq_left, keyOf, implies_true, fillC, capOf]
    refine condC_dec (fun hlt2 => ?_) (fun hlt2 => ?_)
    · have hka : k ≤ a := by omega
      have hki : (a : Int) - k = ((a - k : Nat) : Int) := by omega
      have hg := bl.cell (o := a - k)
      rw [intL_get (by rw [cntS_len]; omega), cntS_get (by omega), if_neg (by omega)] at hg
      have hsl := stir_le (m := m) (i := a - k) (by omega) (by omega)
      have hmul : 0 ≤ ((stir m (a - k) : Nat) : Int) * m ∧ ((stir m (a - k) : Nat) : Int) * m ≤ 479001600 * 12 := ⟨Int.mul_nonneg (by omega) (by omega), Int.mul_le_mul (by omega) (by omega) (by omega) (by omega)⟩
      rw [hki] at f8 hlt2
      simp (disch := omega) only [f0, f1, f6, f23, f24, f7, f8, hg, Nat.mul_one, Nat.zero_add, ↓SXd, SXu, slBounds, ↓sop, ↓aop, ↓reduceIte, LV.cells, AOp.dst, LV.I, LV.B, LV.U, LV.S, LV.nil, Nat.reduceEqDiff, Nat.reduceAdd, Nat.reduceMul, Nat.reduceSub, Nat.reduceLeDiff, Nat.reduceBEq, Nat.reduceDiv, Nat.reduceMod, Int.reduceToNat, Int.reduceLT, Int.reduceLE, Int.reduceAdd, Int.reduceSub, Int.reduceMul, Int.reduceEq, Int.reduceNeg, reduceCtorEq, resV, resAll, ARes.ev, LV.flat, ite_true, ite_false, exists_eq_left', exists_eq_left, keyOf, implies_true, fillC, capOf]
      refine memK_int bl (show a - k < (cntS a m k).length by rw [cntS_len]; omega) fun N1 k1 k2 k3 => ?_
      have hp1 := pre_step hpre (Nat.le_refl _) (j := 0) k1 k3
      have hg1 := k2.cell (o := a - k)
      rw [intL_get (by rw [List.length_set, cntS_len]; omega), set_getD (by rw [cntS_len]; omega), if_pos rfl] at hg1
      by_cases hz : a - k = 0
      · have hka2 : k = a := by omega
        subst hka2
        rw [hz, cntS_step0] at k2
        have hz2 : ¬ (((k - k : Nat) : Int) > 0) := by omega
        simp (disch := omega) only [f0, f1, f6, f23, f24, f7, f8, hz2, ↓SXd, SXu, slBounds, ↓sop, ↓aop, ↓reduceIte, LV.cells, AOp.dst, LV.I, LV.B, LV.U, LV.S, LV.nil, Nat.reduceEqDiff, Nat.reduceAdd, Nat.reduceMul, Nat.reduceSub, Nat.reduceLeDiff, Nat.reduceBEq, Nat.reduceDiv, Nat.reduceMod, Int.reduceToNat, Int.reduceLT, Int.reduceLE, Int.reduceAdd, Int.reduceSub, Int.reduceMul, Int.reduceEq, Int.reduceNeg, reduceCtorEq, resV, resAll, ARes.ev, LV.flat, ite_true, ite_false, exists_eq_left', exists_eq_left, keyOf, implies_true, fillC, capOf]
        exact ⟨m2 - 1, by omega, k + 1, by omega, hp1, by omega, k2, f0, f1, f6, f23, f24, f7, eqI (by omega)⟩
      · have hz2 : ((a - k : Nat) : Int) > 0 := by omega
        have hki2 : ((a - k : Nat) : Int) - 1 = ((a - k - 1 : Nat) : Int) := by omega
        have hg2 := k2.cell (o := a - k - 1)
        rw [intL_get (by rw [List.length_set, cntS_len]; omega), set_getD (by rw [cntS_len]; omega), if_neg (by omega), cntS_get (by omega), if_neg (by omega)] at hg2
        have hsl2 := stir_le (m := m) (i := a - k - 1) (by omega) (by omega)
        have hstep := cntS_step (n := a) (m := m) (k := k) (by omega)
        generalize ((stir m (a - k) : Nat) : Int) * m = w at hg1 hmul hstep k2
        simp (disch := omega) only [f0, f1, f6, f23, f24, f7, f8, hz2, hki2, hg1, hg2, Nat.mul_one, Nat.zero_add, ↓SXd, SXu, slBounds, ↓sop, ↓aop, ↓reduceIte, LV.cells, AOp.dst, LV.I, LV.B, LV.U, LV.S, LV.nil, Nat.reduceEqDiff, Nat.reduceAdd, Nat.reduceMul, Nat.reduceSub, Nat.reduceLeDiff, Nat.reduceBEq, Nat.reduceDiv, Nat.reduceMod, Int.reduceToNat, Int.reduceLT, Int.reduceLE, Int.reduceAdd, Int.reduceSub, Int.reduceMul, Int.reduceEq, Int.reduceNeg, reduceCtorEq, resV, resAll, ARes.ev, LV.flat, ite_true, ite_false, exists_eq_left', exists_eq_left, keyOf, implies_true, fillC, capOf]
        refine memK_int k2 (show a - k < ((cntS a m k).set (a - k) w).length by rw [List.length_set, cntS_len]; omega) fun N2 w1 w2 w3 => ?_
        rw [List.set_set, hstep] at w2
        simp (disch := omega) only [f0, f1, f6, f23, f24, f7, f8, ↓SXd, SXu, slBounds, ↓sop, ↓aop, ↓reduceIte, LV.cells, AOp.dst, LV.I, LV.B, LV.U, LV.S, LV.nil, Nat.reduceEqDiff, Nat.reduceAdd, Nat.reduceMul, Nat.reduceSub, Nat.reduceLeDiff, Nat.reduceBEq, Nat.reduceDiv, Nat.reduceMod, Int.reduceToNat, Int.reduceLT, Int.reduceLE, Int.reduceAdd, Int.reduceSub, Int.reduceMul, Int.reduceEq, Int.reduceNeg, reduceCtorEq, resV, resAll, ARes.ev, LV.flat, ite_true, ite_false, exists_eq_left', exists_eq_left, keyOf, implies_true, fillC, capOf]
        exact ⟨m2 - 1, by omega, k + 1, by omega, pre_step hp1 (Nat.le_refl _) (j := 0) w1 w3, by omega, w2, f0, f1, f6, f23, f24, f7, eqI (by omega)⟩
    · have hka : k = a + 1 := by omega
      subst hka
      rw [cntS_next] at bl
      simp (disch := omega) only [f0, f1, f6, f23, f24, f7, f8, ↓SXd, SXu, slBounds, ↓sop, ↓aop, ↓reduceIte, LV.cells, AOp.dst, LV.I, LV.B, LV.U, LV.S, LV.nil, Nat.reduceEqDiff, Nat.reduceAdd, Nat.reduceMul, Nat.reduceSub, Nat.reduceLeDiff, Nat.reduceBEq, Nat.reduceDiv, Nat.reduceMod, Int.reduceToNat, Int.reduceLT, Int.reduceLE, Int.reduceAdd, Int.reduceSub, Int.reduceMul, Int.reduceEq, Int.reduceNeg, reduceCtorEq, resV, resAll, ARes.ev, LV.flat, ite_true, ite_false, exists_eq_left', exists_eq_left, keyOf, implies_true, fillC, capOf]
      exact ⟨mm - 1, by omega, m + 1, by omega, hpre, hN, bl, f0, f1, f6, f23, eqI (natI _)⟩
  · have hma : m = a := by omega
    subst hma
    have hg := bl.cell (o := b)
    rw [intL_get (by rw [cntS_len]; omega), cntS_get (by omega), if_neg (by omega)] at hg
    simp (disch := omega) only [f0, f1, f6, f23, f24, hg, Nat.mul_one, Nat.zero_add, ↓SXd, SXu, slBounds, ↓sop, ↓aop, ↓reduceIte, LV.cells, AOp.dst, LV.I, LV.B, LV.U, LV.S, LV.nil, Nat.reduceEqDiff, Nat.reduceAdd, Nat.reduceMul, Nat.reduceSub, Nat.reduceLeDiff, Nat.reduceBEq, Nat.reduceDiv, Nat.reduceMod, Int.reduceToNat, Int.reduceLT, Int.reduceLE, Int.reduceAdd, Int.reduceSub, Int.reduceMul, Int.reduceEq, Int.reduceNeg, reduceCtorEq, resV, resAll, ARes.ev, LV.flat, ite_true, ite_false, exists_eq_left', exists_eq_left, keyOf, implies_true, fillC, capOf]
    exact cmp_pre hpre rfl
def rowS (m : Nat) : List Int := (List.range (m + 1)).map fun j => ((stir m j : Nat) : Int)
theorem rowS_len {m : Nat} : (rowS m).length = m + 1 := by simp [rowS]
theorem rowS_get {m j : Nat} (h : j < m + 1) : (rowS m).getD j 0 = (stir m j : Nat) := by
  unfold rowS
  rw [List.getD_eq_getElem?_getD, List.getElem?_map, List.getElem?_range h]; rfl
def nxtS (q i : Nat) : List Int := (List.range (q + 2)).map fun j => if j < i then ((stir (q + 1) j : Nat) : Int) else if j = i then (if i = 0 then 0 else (stir q (i - 1) : Nat)) else 0
theorem nxtS_len {q i : Nat} : (nxtS q i).length = q + 2 := by simp [nxtS]
theorem nxtS_get {q i j : Nat} (h : j < q + 2) : (nxtS q i).getD j 0 = if j < i then ((stir (q + 1) j : Nat) : Int) else if j = i then (if i = 0 then 0 else (stir q (i - 1) : Nat)) else 0 := by
  unfold nxtS
  rw [List.getD_eq_getElem?_getD, List.getElem?_map, List.getElem?_range h]; rfl
theorem nxtS_zero {q : Nat} : List.replicate (q + 2) (0 : Int) = nxtS q 0 := by
  refine ints_same (by simp [nxtS_len]) fun j hj => ?_
  rw [List.length_replicate] at hj
  rw [nxtS_get hj, List.getD_eq_getElem?_getD, List.getElem?_replicate, if_pos hj, Option.getD_some]
  split
  · omega
  · split <;> rfl
theorem nxtS_end {q : Nat} : nxtS q (q + 1) = rowS (q + 1) := by
  refine ints_same (by simp [nxtS_len, rowS_len]) fun j hj => ?_
  rw [nxtS_len] at hj
  rw [nxtS_get hj, rowS_get (by omega)]
  by_cases h1 : j < q + 1
  · rw [if_pos h1]
  · have : j = q + 1 := by omega
    subst this
    rw [if_neg h1, if_pos rfl, if_neg (by omega), Nat.add_sub_cancel]
    simp only [stir]
    rw [stir_zero (show q < q + 1 by omega)]
    simp
theorem nxtS_step {q i : Nat} (hi : i ≤ q) : ((nxtS q i).set (i + 1) (stir q i : Nat)).set i ((nxtS q i).getD i 0 + (q : Int) * (stir q i : Nat)) = nxtS q (i + 1) := by
  refine ints_same (by simp [nxtS_len]) fun j hj => ?_
  rw [List.length_set, List.length_set, nxtS_len] at hj
  rw [set_getD (by rw [List.length_set, nxtS_len]; omega), set_getD (by rw [nxtS_len]; omega), nxtS_get (show i < q + 2 by omega), nxtS_get hj, nxtS_get hj]
  by_cases h1 : i = j
  · subst h1
    simp only [if_true, Nat.lt_irrefl, if_false, Nat.lt_succ_self]
    cases i with
    | zero =>
      simp only [stir, if_true]
      rw [Int.natCast_mul, Int.zero_add]
    | succ i =>
      simp only [stir, Nat.add_sub_cancel, Nat.succ_ne_zero, if_false]
      rw [Int.natCast_add, Int.natCast_mul, Int.add_comm]
  · rw [if_neg h1]
    by_cases h2 : i + 1 = j
    · subst h2
      rw [if_pos rfl, if_neg (by omega), if_pos rfl, if_neg (by omega), Nat.add_sub_cancel]
    · rw [if_neg h2]
      by_cases h3 : j < i
      · rw [if_pos h3, if_pos (by omega)]
      · rw [if_neg h3, if_neg (fun e => h1 e.symm), if_neg (by omega), if_neg (fun e => h2 e.symm)]
theorem h_sCountSights {n k : Int} {M : Mem} : CallsTo PG F.spec_CountSights [.I n, .I k] M (.tup [.I (sgN n k), .B (sgB n k)]) M := by
  refine calls_run K.spec_CountSights rfl ?_
  simp (disch := omega) only [C.spec_CountSights, ↓SXd, SXu, slBounds, ↓sop, ↓aop, ↓reduceIte, LV.cells, AOp.dst, LV.I, LV.B, LV.U, LV.S, LV.nil, Nat.reduceEqDiff, Nat.reduceAdd, Nat.reduceMul, Nat.reduceSub, Nat.reduceLeDiff, Nat.reduceBEq, Nat.reduceDiv, Nat.reduceMod, Int.reduceToNat, Int.reduceLT, Int.reduceLE, Int.reduceAdd, Int.reduceSub, Int.reduceMul, Int.reduceEq, Int.reduceNeg, reduceCtorEq, resV, resAll, ARes.ev, LV.flat, ite_true, ite_false, exists_eq_left', exists_eq_left, keyOf, implies_true, fillC, capOf]
  refine callK_of (h_l1In) ?_
  simp (disch := omega) only [↓SXd, SXu, slBounds, ↓sop, ↓aop, ↓reduceIte, LV.cells, AOp.dst, LV.I, LV.B, LV.U, LV.S, LV.nil, Nat.reduceEqDiff, Nat.reduceAdd, Nat.reduceMul, Nat.reduceSub, Nat.reduceLeDiff, Nat.reduceBEq, Nat.reduceDiv, Nat.reduceMod, Int.reduceToNat, Int.reduceLT, Int.reduceLE, Int.reduceAdd, Int.reduceSub, Int.reduceMul, Int.reduceEq, Int.reduceNeg, reduceCtorEq, resV, resAll, ARes.ev, LV.flat, ite_true, ite_false, exists_eq_left', exists_eq_left, keyOf, implies_true, fillC, capOf]
  have hno : ¬ SgOK n k → sgN n k = 0 ∧ sgB n k = false := fun e => ⟨if_neg e, decide_eq_false e⟩
  by_cases h1 : 1 ≤ n ∧ n ≤ 12
  rotate_left
  · rw [(hno fun e => h1 e.1).1, (hno fun e => h1 e.1).2, decide_eq_false h1]
    simp (disch := omega) only [↓SXd, SXu, slBounds, ↓sop, ↓aop, ↓reduceIte, LV.cells, AOp.dst, LV.I, LV.B, LV.U, LV.S, LV.nil, Nat.reduceEqDiff, Nat.reduceAdd, Nat.reduceMul, Nat.reduceSub, Nat.reduceLeDiff, Nat.reduceBEq, Nat.reduceDiv, Nat.reduceMod, Int.reduceToNat, Int.reduceLT, Int.reduceLE, Int.reduceAdd, Int.reduceSub, Int.reduceMul, Int.reduceEq, Int.reduceNeg, reduceCtorEq, resV, resAll, ARes.ev, LV.flat, ite_true, ite_false, exists_eq_left', exists_eq_left, keyOf, implies_true, fillC, capOf]
    exact cmp_drop0 rfl
  rw [decide_eq_true h1]
  simp (disch := omega) only [↓SXd, SXu, slBounds, ↓sop, ↓aop, ↓reduceIte, LV.cells, AOp.dst, LV.I, LV.B, LV.U, LV.S, LV.nil, Nat.reduceEqDiff, Nat.reduceAdd, Nat.reduceMul, Nat.reduceSub, Nat.reduceLeDiff, Nat.reduceBEq, Nat.reduceDiv, Nat.reduceMod, Int.reduceToNat, Int.reduceLT, Int.reduceLE, Int.reduceAdd, Int.reduceSub, Int.reduceMul, Int.reduceEq, Int.reduceNeg, reduceCtorEq, resV, resAll, ARes.ev, LV.flat, ite_true, ite_false, exists_eq_left', exists_eq_left, keyOf, implies_true, fillC, capOf]
  refine callK_of (h_l1In) ?_
  simp (disch := omega) only [↓SXd, SXu, slBounds, ↓sop, ↓aop, ↓reduceIte, LV.cells, AOp.dst, LV.I, LV.B, LV.U, LV.S, LV.nil, Nat.reduceEqDiff, Nat.reduceAdd, Nat.reduceMul, Nat.reduceSub, Nat.reduceLeDiff, Nat.reduceBEq, Nat.reduceDiv, Nat.reduceMod, Int.reduceToNat, Int.reduceLT, Int.reduceLE, Int.reduceAdd, Int.reduceSub, Int.reduceMul, Int.reduceEq, Int.reduceNeg, reduceCtorEq, resV, resAll, ARes.ev, LV.flat, ite_true, ite_false, exists_eq_left', exists_eq_left, keyOf, implies_true, fillC, capOf]
  by_cases h2 : 0 ≤ k ∧ k ≤ n
  rotate_left
  · rw [(hno fun e => h2 e.2).1, (hno fun e => h2 e.2).2, decide_eq_false h2]
    simp (disch := omega) only [↓SXd, SXu, slBounds, ↓sop, ↓aop, ↓reduceIte, LV.cells, AOp.dst, LV.I, LV.B, LV.U, LV.S, LV.nil, Nat.reduceEqDiff, Nat.reduceAdd, Nat.reduceMul, Nat.reduceSub, Nat.reduceLeDiff, Nat.reduceBEq, Nat.reduceDiv, Nat.reduceMod, Int.reduceToNat, Int.reduceLT, Int.reduceLE, Int.reduceAdd, Int.reduceSub, Int.reduceMul, Int.reduceEq, Int.reduceNeg, reduceCtorEq, resV, resAll, ARes.ev, LV.flat, ite_true, ite_false, exists_eq_left', exists_eq_left, keyOf, implies_true, fillC, capOf]
    exact cmp_drop0 rfl
  rw [show sgN n k = (stir n.toNat k.toNat : Nat) from if_pos ⟨h1, h2⟩, show sgB n k = true from decide_eq_true ⟨h1, h2⟩, decide_eq_true h2]
  clear hno
  obtain ⟨a, rfl⟩ : ∃ a : Nat, n = a := ⟨n.toNat, by omega⟩
  obtain ⟨b, rfl⟩ : ∃ b : Nat, k = b := ⟨k.toNat, by omega⟩
  rw [Int.toNat_natCast, Int.toNat_natCast]
  simp (disch := omega) only [↓SXd, SXu, slBounds, ↓sop, ↓aop, ↓reduceIte, LV.cells, AOp.dst, LV.I, LV.B, LV.U, LV.S, LV.nil, Nat.reduceEqDiff, Nat.reduceAdd, Nat.reduceMul, Nat.reduceSub, Nat.reduceLeDiff, Nat.reduceBEq, Nat.reduceDiv, Nat.reduceMod, Int.reduceToNat, Int.reduceLT, Int.reduceLE, Int.reduceAdd, Int.reduceSub, Int.reduceMul, Int.reduceEq, Int.reduceNeg, reduceCtorEq, resV, resAll, ARes.ev, LV.flat, ite_true, ite_false, exists_eq_left', exists_eq_left, keyOf, implies_true, fillC, capOf]
  refine ev_loop (fun mm fr M' => ∃ q u : Nat, q + mm = a ∧ Pre M M' ∧ M.length ≤ u ∧ Live M' u (.row (intL (rowS q)) true 1) ∧ fr 0 = .I a ∧ fr 1 = .I b ∧ fr 6 = .ref u 0 (q + 1) ∧ fr 7 = .I ((q + 1 : Nat) : Int)) a
    ⟨0, M.length, by omega, Pre.app _ _, Nat.le_refl _, Live.new, rfl, rfl, rfl, rfl⟩ ?_
  rintro mm fr M' ⟨q, u, hq, hpre, hu, bu, f0, f1, f6, f7⟩
  simp (disch := omega) only [f0, f1, f6, f7, ↓SXd, SXu, slBounds, ↓sop, ↓aop, ↓reduceIte, LV.cells, AOp.dst, LV.I, LV.B, LV.U, LV.S, LV.nil, Nat.reduceEqDiff, Nat.reduceAdd, Nat.reduceMul, Nat.reduceSub, Nat.reduceLeDiff, Nat.reduceBEq, Nat.reduceDiv, Nat.reduceMod, Int.reduceToNat, Int.reduceLT, Int.reduceLE, Int.reduceAdd, Int.reduceSub, Int.reduceMul, Int.reduceEq, Int.reduceNeg, reduceCtorEq, resV, resAll, ARes.ev, LV.flat, ite_true, ite_false, exists_eq_left', exists_eq_left, keyOf, implies_true, fillC, capOf]
  refine condC_dec (fun hlt => ?_) (fun hlt => ?_)
  · have hqa : q < a := by omega
    have hrep : (((q + 1 : Nat) : Int) + 1).toNat = q + 2 := by omega
    have hz := nxtS_zero (q := q)
    have bn : Live (M' ++ [some (.row (intL (nxtS q 0)) true 1)]) M'.length (.row (intL (nxtS q 0)) true 1) := Live.new
    have hpN : Pre M' (M' ++ [some (.row (intL (nxtS q 0)) true 1)]) := Pre.app _ _
    have hbul := bu.lt
    simp (disch := omega) only [f0, f1, f6, f7, hrep, made_int, hz, ↓SXd, SXu, slBounds, ↓sop, ↓aop, ↓reduceIte, LV.cells, AOp.dst, LV.I, LV.B, LV.U, LV.S, LV.nil, Nat.reduceEqDiff, Nat.reduceAdd, Nat.reduceMul, Nat.reduceSub, Nat.reduceLeDiff, Nat.reduceBEq, Nat.reduceDiv, Nat.reduceMod, Int.reduceToNat, Int.reduceLT, Int.reduceLE, Int.reduceAdd, Int.reduceSub, Int.reduceMul, Int.reduceEq, Int.reduceNeg, reduceCtorEq, resV, resAll, ARes.ev, LV.flat, ite_true, ite_false, exists_eq_left', exists_eq_left, keyOf, implies_true, fillC, capOf]
    refine ev_loop (fun m2 fr N => ∃ i : Nat, i + m2 = q + 1 ∧ Pre M N ∧ Live N u (.row (intL (rowS q)) true 1) ∧ Live N M'.length (.row (intL (nxtS q i)) true 1) ∧ fr 0 = .I a ∧ fr 1 = .I b ∧ fr 6 = .ref u 0 (q + 1) ∧ fr 7 = .I ((q + 1 : Nat) : Int) ∧ fr 8 = .ref M'.length 0 (q + 2) ∧ fr 9 = .I i) (q + 1)
      ⟨0, by omega, hpre.trans hpN, bu.pre hpN, bn, f0, f1, f6, f7, rfl, rfl⟩ ?_
    clear f0 f1 f6 f7 bu bn hpN
    rintro m2 fr N ⟨i, hi, hp, bu, bn, f0, f1, f6, f7, f8, f9⟩
    simp (disch := omega) only [f0, f1, f6, f7, f8, f9, ↓SXd, SXu, slBounds, ↓sop, ↓aop, ↓reduceIte, LV.cells, AOp.dst, LV.I, LV.B, LV.U, LV.S, LV.nil, Nat.reduceEqDiff, Nat.reduceAdd, Nat.reduceMul, Nat.reduceSub, Nat.reduceLeDiff, Nat.reduceBEq, Nat.reduceDiv, Nat.reduceMod, Int.reduceToNat, Int.reduceLT, Int.reduceLE, Int.reduceAdd, Int.reduceSub, Int.reduceMul, Int.reduceEq, Int.reduceNeg, reduceCtorEq, resV, resAll, ARes.ev, LV.flat, ite_true, ite_false, exists_eq_left', exists_eq_left, keyOf, implies_true, fillC, capOf]
    refine condC_dec (fun hlt2 => ?_) (fun hlt2 => ?_)
    · have hiq : i ≤ q := by omega
      have hix : (i : Int) + 1 = ((i + 1 : Nat) : Int) := by omega
      have hq1 : ((q + 1 : Nat) : Int) - 1 = (q : Nat) := by omega
      have hr := bu.cell (o := i)
      rw [intL_get (by rw [rowS_len]; omega), rowS_get (by omega)] at hr
      have hn1 := bn.cell (o := i + 1)
      rw [intL_get (by rw [nxtS_len]; omega), nxtS_get (by omega), if_neg (by omega), if_neg (by omega)] at hn1
      have hsl := stir_le (m := q) (i := i) (by omega) (by omega)
      have hmpl := hpre.1
      simp (disch := omega) only [f0, f1, f6, f7, f8, f9, hix, hn1, hr, Nat.mul_one, Nat.zero_add, Int.zero_add, ↓SXd, SXu, slBounds, ↓sop, ↓aop, ↓reduceIte, LV.cells, AOp.dst, LV.I, LV.B, LV.U, LV.S, LV.nil, Nat.reduceEqDiff, Nat.reduceAdd, Nat.reduceMul, Nat.reduceSub, Nat.reduceLeDiff, Nat.reduceBEq, Nat.reduceDiv, Nat.reduceMod, Int.reduceToNat, Int.reduceLT, Int.reduceLE, Int.reduceAdd, Int.reduceSub, Int.reduceMul, Int.reduceEq, Int.reduceNeg, reduceCtorEq, resV, resAll, ARes.ev, LV.flat, ite_true, ite_false, exists_eq_left', exists_eq_left, keyOf, implies_true, fillC, capOf]
      refine memK_int bn (show i + 1 < (nxtS q i).length by rw [nxtS_len]; omega) fun N1 k1 k2 k3 => ?_
      have hp1 := pre_step hp hmpl (j := 0) k1 k3
      have cu := live_step bu (by omega) k3
      have hr2 := cu.cell (o := i)
      rw [intL_get (by rw [rowS_len]; omega), rowS_get (by omega)] at hr2
      have hn2 := k2.cell (o := i)
      rw [intL_get (by rw [List.length_set, nxtS_len]; omega), set_getD (by rw [nxtS_len]; omega), if_neg (by omega)] at hn2
      have hstep := nxtS_step hiq
      have hnb : 0 ≤ (nxtS q i).getD i 0 ∧ (nxtS q i).getD i 0 ≤ 479001600 := by
        rw [nxtS_get (by omega), if_neg (by omega), if_pos rfl]
        split
        · omega
        · have := stir_le (m := q) (i := i - 1) (by omega) (by omega)
          omega
      have hmul : 0 ≤ (q : Int) * (stir q i : Nat) ∧ (q : Int) * (stir q i : Nat) ≤ 12 * 479001600 := ⟨Int.mul_nonneg (by omega) (by omega), Int.mul_le_mul (by omega) (by omega) (by omega) (by omega)⟩
      generalize (nxtS q i).getD i 0 = w at hn2 hstep hnb
      simp (disch := omega) only [f0, f1, f6, f7, f8, f9, hq1, hn2, hr2, Nat.mul_one, Nat.zero_add, ↓SXd, SXu, slBounds, ↓sop, ↓aop, ↓reduceIte, LV.cells, AOp.dst, LV.I, LV.B, LV.U, LV.S, LV.nil, Nat.reduceEqDiff, Nat.reduceAdd, Nat.reduceMul, Nat.reduceSub, Nat.reduceLeDiff, Nat.reduceBEq, Nat.reduceDiv, Nat.reduceMod, Int.reduceToNat, Int.reduceLT, Int.reduceLE, Int.reduceAdd, Int.reduceSub, Int.reduceMul, Int.reduceEq, Int.reduceNeg, reduceCtorEq, resV, resAll, ARes.ev, LV.flat, ite_true, ite_false, exists_eq_left', exists_eq_left, keyOf, implies_true, fillC, capOf]
      refine memK_int k2 (show i < ((nxtS q i).set (i + 1) ((stir q i : Nat) : Int)).length by rw [List.length_set, nxtS_len]; omega) fun N2 w1 w2 w3 => ?_
      rw [hstep] at w2
      simp (disch := omega) only [f0, f1, f6, f7, f8, f9, ↓SXd, SXu, slBounds, ↓sop, ↓aop, ↓reduceIte, LV.cells, AOp.dst, LV.I, LV.B, LV.U, LV.S, LV.nil, Nat.reduceEqDiff, Nat.reduceAdd, Nat.reduceMul, Nat.reduceSub, Nat.reduceLeDiff, Nat.reduceBEq, Nat.reduceDiv, Nat.reduceMod, Int.reduceToNat, Int.reduceLT, Int.reduceLE, Int.reduceAdd, Int.reduceSub, Int.reduceMul, Int.reduceEq, Int.reduceNeg, reduceCtorEq, resV, resAll, ARes.ev, LV.flat, ite_true, ite_false, exists_eq_left', exists_eq_left, keyOf, implies_true, fillC, capOf]
      exact ⟨m2 - 1, by omega, i + 1, by omega, pre_step hp1 hmpl (j := 0) w1 w3, live_step cu (by omega) w3, w2, f0, f1, f6, f7, f8, eqI (natI _)⟩
    · have hiq : i = q + 1 := by omega
      subst hiq
      rw [nxtS_end] at bn
      have hmpl := hpre.1
      simp (disch := omega) only [f0, f1, f6, f7, f8, f9, ↓SXd, SXu, slBounds, ↓sop, ↓aop, ↓reduceIte, LV.cells, AOp.dst, LV.I, LV.B, LV.U, LV.S, LV.nil, Nat.reduceEqDiff, Nat.reduceAdd, Nat.reduceMul, Nat.reduceSub, Nat.reduceLeDiff, Nat.reduceBEq, Nat.reduceDiv, Nat.reduceMod, Int.reduceToNat, Int.reduceLT, Int.reduceLE, Int.reduceAdd, Int.reduceSub, Int.reduceMul, Int.reduceEq, Int.reduceNeg, reduceCtorEq, resV, resAll, ARes.ev, LV.flat, ite_true, ite_false, exists_eq_left', exists_eq_left, keyOf, implies_true, fillC, capOf]
      exact ⟨mm - 1, by omega, q + 1, M'.length, by omega, hp, hmpl, bn, f0, f1, rfl, eqI (by omega)⟩
  · have hqa : q = a := by omega
    subst hqa
    have hg := bu.cell (o := b)
    rw [intL_get (by rw [rowS_len]; omega), rowS_get (by omega)] at hg
    simp (disch := omega) only [f0, f1, f6, f7, hg, Nat.mul_one, Nat.zero_add, ↓SXd, SXu, slBounds, ↓sop, ↓aop, ↓reduceIte, LV.cells, AOp.dst, LV.I, LV.B, LV.U, LV.S, LV.nil, Nat.reduceEqDiff, Nat.reduceAdd, Nat.reduceMul, Nat.reduceSub, Nat.reduceLeDiff, Nat.reduceBEq, Nat.reduceDiv, Nat.reduceMod, Int.reduceToNat, Int.reduceLT, Int.reduceLE, Int.reduceAdd, Int.reduceSub, Int.reduceMul, Int.reduceEq, Int.reduceNeg, reduceCtorEq, resV, resAll, ARes.ev, LV.flat, ite_true, ite_false, exists_eq_left', exists_eq_left, keyOf, implies_true, fillC, capOf]
    exact cmp_pre hpre rfl
section
variable {t o : Nat} {bs : List Nat} {M : Mem} (hB : Bytes M t o bs) (h255 : ∀ b ∈ bs, b ≤ 255) (hl : bs.length ≤ 1000000000)
include hB h255 hl
theorem d_DrawSightsOf : CallsR PG F.spec_DrawSightsOf [.ref t o bs.length] M fun v N => (∃ (hv : LV) (k : Int) (b : Bool), v = .tup [hv, .I k, .B b] ∧ HeapE M hv N) ∧ Pre M N := by
  have htM := hB.lt
  refine callsR_run K.spec_DrawSightsOf rfl ?_
  simp (disch := omega) only [C.spec_DrawSightsOf, splice, ↓SXd, SXu, slBounds, ↓sop, ↓aop, ↓reduceIte, LV.cells, AOp.dst, LV.I, LV.B, LV.U, LV.S, LV.nil, Nat.reduceEqDiff, Nat.reduceAdd, Nat.reduceMul, Nat.reduceSub, Nat.reduceLeDiff, Nat.reduceBEq, Nat.reduceDiv, Nat.reduceMod, Int.reduceToNat, Int.reduceLT, Int.reduceLE, Int.reduceAdd, Int.reduceSub, Int.reduceMul, Int.reduceEq, Int.reduceNeg, reduceCtorEq, resV, resAll, ARes.ev, LV.flat, ite_true, ite_false, exists_eq_left', exists_eq_left, keyOf, implies_true, fillC, capOf]
  have hc := CurAt.new2 (b := some (.row [.I 0, .I 0, .I 0, .nil] true 0)) hB h255 hl
  refine callR_of (d_heapE hc (by omega)) ?_
  rintro _ N1 ⟨⟨x, y, z, cs, u, rfl, hu, hul, hcl⟩, hd1⟩
  rw [List.length_append] at hul
  simp only [List.length_cons, List.length_nil] at hul
  have b2 : Live N1 M.length (.row [.I 0, .I 0, .I 0, .nil] true 0) := hd1.live Live.new (by omega)
  have hP1 : Pre M N1 := hd1.pre (Pre.app _ _) (by omega)
  have hlN := hd1.2.1
  rw [List.length_append] at hlN
  simp only [List.length_cons, List.length_nil] at hlN
  simp (disch := omega) only [↓SXd, SXu, slBounds, ↓sop, ↓aop, ↓reduceIte, LV.cells, AOp.dst, LV.I, LV.B, LV.U, LV.S, LV.nil, Nat.reduceEqDiff, Nat.reduceAdd, Nat.reduceMul, Nat.reduceSub, Nat.reduceLeDiff, Nat.reduceBEq, Nat.reduceDiv, Nat.reduceMod, Int.reduceToNat, Int.reduceLT, Int.reduceLE, Int.reduceAdd, Int.reduceSub, Int.reduceMul, Int.reduceEq, Int.reduceNeg, reduceCtorEq, resV, resAll, ARes.ev, LV.flat, ite_true, ite_false, exists_eq_left', exists_eq_left, keyOf, implies_true, fillC, capOf]
  refine callR_of (d_amongNew (xs := [0, 1, 0, 1, 0, 1, 2, -1]) hd1.1 (by omega) (by simp) (by simp)) ?_
  rintro _ N2 ⟨⟨k, rfl, _⟩, hd2⟩
  have c2 := hd2.live b2 (by omega)
  have cu := hd2.live hu (by omega)
  have hP2 : Pre M N2 := hd2.pre hP1 (by omega)
  simp (disch := omega) only [↓SXd, SXu, slBounds, ↓sop, ↓aop, ↓reduceIte, LV.cells, AOp.dst, LV.I, LV.B, LV.U, LV.S, LV.nil, Nat.reduceEqDiff, Nat.reduceAdd, Nat.reduceMul, Nat.reduceSub, Nat.reduceLeDiff, Nat.reduceBEq, Nat.reduceDiv, Nat.reduceMod, Int.reduceToNat, Int.reduceLT, Int.reduceLE, Int.reduceAdd, Int.reduceSub, Int.reduceMul, Int.reduceEq, Int.reduceNeg, reduceCtorEq, resV, resAll, ARes.ev, LV.flat, ite_true, ite_false, exists_eq_left', exists_eq_left, keyOf, implies_true, fillC, capOf]
  refine callR_of (d_one hd2.1 (by omega)) ?_
  rintro _ N3 ⟨⟨b, rfl⟩, hd3⟩
  have e2 := hd3.live c2 (by omega)
  have eu := hd3.live cu (by omega)
  have hP3 : Pre M N3 := hd3.pre hP2 (by omega)
  simp (disch := omega) only [↓SXd, SXu, slBounds, ↓sop, ↓aop, ↓reduceIte, LV.cells, AOp.dst, LV.I, LV.B, LV.U, LV.S, LV.nil, Nat.reduceEqDiff, Nat.reduceAdd, Nat.reduceMul, Nat.reduceSub, Nat.reduceLeDiff, Nat.reduceBEq, Nat.reduceDiv, Nat.reduceMod, Int.reduceToNat, Int.reduceLT, Int.reduceLE, Int.reduceAdd, Int.reduceSub, Int.reduceMul, Int.reduceEq, Int.reduceNeg, reduceCtorEq, resV, resAll, ARes.ev, LV.flat, ite_true, ite_false, exists_eq_left', exists_eq_left, keyOf, implies_true, fillC, capOf]
  refine memK_box e2 (by simp) fun N5 i1 i2 i3 => ?_
  simp (disch := omega) only [i2.cells, ↓SXd, SXu, slBounds, ↓sop, ↓aop, ↓reduceIte, LV.cells, AOp.dst, LV.I, LV.B, LV.U, LV.S, LV.nil, Nat.reduceEqDiff, Nat.reduceAdd, Nat.reduceMul, Nat.reduceSub, Nat.reduceLeDiff, Nat.reduceBEq, Nat.reduceDiv, Nat.reduceMod, Int.reduceToNat, Int.reduceLT, Int.reduceLE, Int.reduceAdd, Int.reduceSub, Int.reduceMul, Int.reduceEq, Int.reduceNeg, reduceCtorEq, resV, resAll, ARes.ev, LV.flat, ite_true, ite_false, exists_eq_left', exists_eq_left, keyOf, implies_true, fillC, capOf]
  exact ⟨⟨_, k, b, rfl, x, y, z, cs, u, rfl, live_step eu (by omega) i3, by omega, hcl⟩, pre_step hP3 (by omega) (j := 0) i1 i3⟩
theorem d_DrawIsHeap : CallsR PG F.spec_DrawIsHeap [.ref t o bs.length] M fun v N => HeapE M v N ∧ Pre M N := by
  have htM := hB.lt
  refine callsR_run K.spec_DrawIsHeap rfl ?_
  simp (disch := omega) only [C.spec_DrawIsHeap, splice, ↓SXd, SXu, slBounds, ↓sop, ↓aop, ↓reduceIte, LV.cells, AOp.dst, LV.I, LV.B, LV.U, LV.S, LV.nil, Nat.reduceEqDiff, Nat.reduceAdd, Nat.reduceMul, Nat.reduceSub, Nat.reduceLeDiff, Nat.reduceBEq, Nat.reduceDiv, Nat.reduceMod, Int.reduceToNat, Int.reduceLT, Int.reduceLE, Int.reduceAdd, Int.reduceSub, Int.reduceMul, Int.reduceEq, Int.reduceNeg, reduceCtorEq, resV, resAll, ARes.ev, LV.flat, ite_true, ite_false, exists_eq_left', exists_eq_left, keyOf, implies_true, fillC, capOf]
  have hc := CurAt.new2 (b := some (.row [.I 0, .I 0, .I 0, .nil] true 0)) hB h255 hl
  refine callR_of (d_heapE hc (by omega)) ?_
  rintro _ N1 ⟨⟨x, y, z, cs, u, rfl, hu, hul, hcl⟩, hd1⟩
  rw [List.length_append] at hul
  simp only [List.length_cons, List.length_nil] at hul
  have b2 : Live N1 M.length (.row [.I 0, .I 0, .I 0, .nil] true 0) := hd1.live Live.new (by omega)
  have hP1 : Pre M N1 := hd1.pre (Pre.app _ _) (by omega)
  simp (disch := omega) only [↓SXd, SXu, slBounds, ↓sop, ↓aop, ↓reduceIte, LV.cells, AOp.dst, LV.I, LV.B, LV.U, LV.S, LV.nil, Nat.reduceEqDiff, Nat.reduceAdd, Nat.reduceMul, Nat.reduceSub, Nat.reduceLeDiff, Nat.reduceBEq, Nat.reduceDiv, Nat.reduceMod, Int.reduceToNat, Int.reduceLT, Int.reduceLE, Int.reduceAdd, Int.reduceSub, Int.reduceMul, Int.reduceEq, Int.reduceNeg, reduceCtorEq, resV, resAll, ARes.ev, LV.flat, ite_true, ite_false, exists_eq_left', exists_eq_left, keyOf, implies_true, fillC, capOf]
  refine memK_box b2 (by simp) fun N5 i1 i2 i3 => ?_
  simp (disch := omega) only [i2.cells, ↓SXd, SXu, slBounds, ↓sop, ↓aop, ↓reduceIte, LV.cells, AOp.dst, LV.I, LV.B, LV.U, LV.S, LV.nil, Nat.reduceEqDiff, Nat.reduceAdd, Nat.reduceMul, Nat.reduceSub, Nat.reduceLeDiff, Nat.reduceBEq, Nat.reduceDiv, Nat.reduceMod, Int.reduceToNat, Int.reduceLT, Int.reduceLE, Int.reduceAdd, Int.reduceSub, Int.reduceMul, Int.reduceEq, Int.reduceNeg, reduceCtorEq, resV, resAll, ARes.ev, LV.flat, ite_true, ite_false, exists_eq_left', exists_eq_left, keyOf, implies_true, fillC, capOf]
  exact ⟨⟨x, y, z, cs, u, rfl, live_step hu (by omega) i3, by omega, hcl⟩, pre_step hP1 (by omega) (j := 0) i1 i3⟩
theorem d_DrawPeaksOf : CallsR PG F.spec_DrawPeaksOf [.ref t o bs.length] M fun v N => HeapE M v N ∧ Pre M N := by
  refine callsR_run K.spec_DrawPeaksOf rfl ?_
  simp (disch := omega) only [C.spec_DrawPeaksOf, splice, ↓SXd, SXu, slBounds, ↓sop, ↓aop, ↓reduceIte, LV.cells, AOp.dst, LV.I, LV.B, LV.U, LV.S, LV.nil, Nat.reduceEqDiff, Nat.reduceAdd, Nat.reduceMul, Nat.reduceSub, Nat.reduceLeDiff, Nat.reduceBEq, Nat.reduceDiv, Nat.reduceMod, Int.reduceToNat, Int.reduceLT, Int.reduceLE, Int.reduceAdd, Int.reduceSub, Int.reduceMul, Int.reduceEq, Int.reduceNeg, reduceCtorEq, resV, resAll, ARes.ev, LV.flat, ite_true, ite_false, exists_eq_left', exists_eq_left, keyOf, implies_true, fillC, capOf]
  refine callR_of (d_DrawIsHeap (M := M ++ [some (.row [.I 0, .I 0, .I 0, .nil] true 0)]) (Has.app hB) h255 hl) ?_
  rintro _ N1 ⟨⟨x, y, z, cs, u, rfl, hu, hul, hcl⟩, hp1⟩
  rw [List.length_append] at hul
  simp only [List.length_cons, List.length_nil] at hul
  have b2 : Live N1 M.length (.row [.I 0, .I 0, .I 0, .nil] true 0) := Live.new.pre hp1
  have hP1 : Pre M N1 := (Pre.app _ _).trans hp1
  simp (disch := omega) only [↓SXd, SXu, slBounds, ↓sop, ↓aop, ↓reduceIte, LV.cells, AOp.dst, LV.I, LV.B, LV.U, LV.S, LV.nil, Nat.reduceEqDiff, Nat.reduceAdd, Nat.reduceMul, Nat.reduceSub, Nat.reduceLeDiff, Nat.reduceBEq, Nat.reduceDiv, Nat.reduceMod, Int.reduceToNat, Int.reduceLT, Int.reduceLE, Int.reduceAdd, Int.reduceSub, Int.reduceMul, Int.reduceEq, Int.reduceNeg, reduceCtorEq, resV, resAll, ARes.ev, LV.flat, ite_true, ite_false, exists_eq_left', exists_eq_left, keyOf, implies_true, fillC, capOf]
  refine memK_box b2 (by simp) fun N5 i1 i2 i3 => ?_
  simp (disch := omega) only [i2.cells, ↓SXd, SXu, slBounds, ↓sop, ↓aop, ↓reduceIte, LV.cells, AOp.dst, LV.I, LV.B, LV.U, LV.S, LV.nil, Nat.reduceEqDiff, Nat.reduceAdd, Nat.reduceMul, Nat.reduceSub, Nat.reduceLeDiff, Nat.reduceBEq, Nat.reduceDiv, Nat.reduceMod, Int.reduceToNat, Int.reduceLT, Int.reduceLE, Int.reduceAdd, Int.reduceSub, Int.reduceMul, Int.reduceEq, Int.reduceNeg, reduceCtorEq, resV, resAll, ARes.ev, LV.flat, ite_true, ite_false, exists_eq_left', exists_eq_left, keyOf, implies_true, fillC, capOf]
  exact ⟨⟨x, y, z, cs, u, rfl, live_step hu (by omega) i3, by omega, hcl⟩, pre_step hP1 (by omega) (j := 0) i1 i3⟩
theorem d_DrawCountSights : CallsR PG F.spec_DrawCountSights [.ref t o bs.length] M fun v N => (∃ n k : Int, v = .tup [.I n, .I k]) ∧ Pre M N := by
  refine callsR_run K.spec_DrawCountSights rfl ?_
  simp (disch := omega) only [C.spec_DrawCountSights, splice, ↓SXd, SXu, slBounds, ↓sop, ↓aop, ↓reduceIte, LV.cells, AOp.dst, LV.I, LV.B, LV.U, LV.S, LV.nil, Nat.reduceEqDiff, Nat.reduceAdd, Nat.reduceMul, Nat.reduceSub, Nat.reduceLeDiff, Nat.reduceBEq, Nat.reduceDiv, Nat.reduceMod, Int.reduceToNat, Int.reduceLT, Int.reduceLE, Int.reduceAdd, Int.reduceSub, Int.reduceMul, Int.reduceEq, Int.reduceNeg, reduceCtorEq, resV, resAll, ARes.ev, LV.flat, ite_true, ite_false, exists_eq_left', exists_eq_left, keyOf, implies_true, fillC, capOf]
  have hd := d_amongNew (M := M ++ [some (.row [.ref t o bs.length, .I 0, .val (.int .u64 0)] true 0)]) (xs := [4, 3, 5, 2, 1, 8, 12, 13, 0]) (CurAt.new hB h255 hl) (by omega) (by simp) (by simp)
  rw [List.append_assoc, List.length_append] at hd
  refine callR_of hd ?_
  rintro _ N1 ⟨⟨n, rfl, _⟩, hd1⟩
  have hP1 : Pre M N1 := hd1.pre (Pre.app _ _) (Nat.le_refl _)
  simp (disch := omega) only [↓SXd, SXu, slBounds, ↓sop, ↓aop, ↓reduceIte, LV.cells, AOp.dst, LV.I, LV.B, LV.U, LV.S, LV.nil, Nat.reduceEqDiff, Nat.reduceAdd, Nat.reduceMul, Nat.reduceSub, Nat.reduceLeDiff, Nat.reduceBEq, Nat.reduceDiv, Nat.reduceMod, Int.reduceToNat, Int.reduceLT, Int.reduceLE, Int.reduceAdd, Int.reduceSub, Int.reduceMul, Int.reduceEq, Int.reduceNeg, reduceCtorEq, resV, resAll, ARes.ev, LV.flat, ite_true, ite_false, exists_eq_left', exists_eq_left, keyOf, implies_true, fillC, capOf]
  refine callR_of (d_amongNew (xs := [1, 2, 3, 0, 4, 5, 12, -1]) hd1.1 (by omega) (by simp) (by simp)) ?_
  rintro _ N2 ⟨⟨k, rfl, _⟩, hd2⟩
  have hP2 : Pre M N2 := hd2.pre hP1 (Nat.le_refl _)
  simp (disch := omega) only [↓SXd, SXu, slBounds, ↓sop, ↓aop, ↓reduceIte, LV.cells, AOp.dst, LV.I, LV.B, LV.U, LV.S, LV.nil, Nat.reduceEqDiff, Nat.reduceAdd, Nat.reduceMul, Nat.reduceSub, Nat.reduceLeDiff, Nat.reduceBEq, Nat.reduceDiv, Nat.reduceMod, Int.reduceToNat, Int.reduceLT, Int.reduceLE, Int.reduceAdd, Int.reduceSub, Int.reduceMul, Int.reduceEq, Int.reduceNeg, reduceCtorEq, resV, resAll, ARes.ev, LV.flat, ite_true, ite_false, exists_eq_left', exists_eq_left, keyOf, implies_true, fillC, capOf]
  exact ⟨⟨n, k, rfl⟩, hP2⟩
end
end Go.Ab
