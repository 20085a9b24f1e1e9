/- Parts of the proof of FnTopWalksSaid: Df Dg Dh Eg Me Mf Ec2 Ed2 Mh C_Gb K_Gb C_Ga K_Ga Ga C_Da K_Da Da Gb Gd. -/
import Derived.Test.YthgljdbfkojpeaaA6
import Derived.Test.YthgljdbfkojpeaaA4
import Derived.Test.YthgljdbfkojpeaaA5
import Derived.Test.YthgljdbfkojpeaaA3
import Derived.Test.YthgljdbfkojpeaaProg
import Derived.KernelRfl
set_option linter.all false
/- Contracts: the reference's steps. -/
namespace Go.Ab
open Go
set_option linter.unusedSimpArgs false
set_option linter.unusedVariables false

def Low (ts : List Int) : Prop := ∀ k, k < ts.length → -100 ≤ ts.getD k 0 ∧ ts.getD k 0 ≤ 100

theorem h_l10Steps {x y z p s : Int} {v : LV} {t o : Nat} {ts : List Int} {M : Mem} (hS : Sides x y z) (hp : 0 ≤ p ∧ p ≤ x * y - 1) (h : Ints M t o ts) (hl : ts.length = (x * y).toNat) (hlow : Low ts) :
    CallsTo PG F.spec_l10Steps [.agg [.I x, .I y, .I z, v], .ref t o (x * y).toNat, .I p, .I s] M (.ref M.length 0 (stepsOf x y ts p s).length) (M ++ [some (.row (intL (stepsOf x y ts p s)) true 1)]) := by
  have hb := mul_bound hS.1 hS.2.1
  have hnl := nexts_len (x := x) (y := y) (p := p) hb.2
  refine calls_run K.spec_l10Steps rfl ?_
  simp (disch := omega) only [C.spec_l10Steps, fillC, ↓SXd, SXu, slBounds, ↓sop, ↓aop, ↓reduceIte, LV.cells, AOp.dst, LV.I, LV.B, LV.U, LV.S, LV.nil, Nat.reduceEqDiff, Nat.reduceAdd, Nat.reduceMul, Nat.reduceSub, Nat.reduceLeDiff, Nat.reduceBEq, Nat.reduceDiv, Nat.reduceMod, Int.reduceToNat, Int.reduceLT, Int.reduceLE, Int.reduceAdd, Int.reduceSub, Int.reduceMul, Int.reduceEq, Int.reduceNeg, reduceCtorEq, resV, resAll, ARes.ev, LV.flat, ite_true, ite_false, exists_eq_left', exists_eq_left, keyOf, implies_true, fillC, capOf]
  refine callK_of (h_l10Next hS hp) ?_
  simp (disch := omega) only [↓SXd, SXu, slBounds, ↓sop, ↓aop, ↓reduceIte, LV.cells, AOp.dst, LV.I, LV.B, LV.U, LV.S, LV.nil, Nat.reduceEqDiff, Nat.reduceAdd, Nat.reduceMul, Nat.reduceSub, Nat.reduceLeDiff, Nat.reduceBEq, Nat.reduceDiv, Nat.reduceMod, Int.reduceToNat, Int.reduceLT, Int.reduceLE, Int.reduceAdd, Int.reduceSub, Int.reduceMul, Int.reduceEq, Int.reduceNeg, reduceCtorEq, resV, resAll, ARes.ev, LV.flat, ite_true, ite_false, exists_eq_left', exists_eq_left, keyOf, implies_true, fillC, capOf]
  refine ev_loop (fun m fr M' => ∃ (k u : Nat) (acc : List Int), k + m = (nexts x y p).length ∧ Pre M M' ∧ Live M' (M.length + 2) (.row (intL (nexts x y p)) true 1) ∧ M.length ≤ u ∧ u ≠ M.length + 2 ∧ Live M' u (.row (intL acc) true 1) ∧
    fr 1 = .ref t o (x * y).toNat ∧ fr 2 = .I p ∧ fr 3 = .I s ∧ fr 9 = .ref u 0 acc.length ∧ fr 10 = .ref (M.length + 2) 0 (nexts x y p).length ∧ fr 11 = .I k ∧
    acc = ((nexts x y p).take k).filter (fun q => decide (gap (ts.getD q.toNat 0) (ts.getD p.toNat 0) ≤ s))) (nexts x y p).length
    ⟨0, M.length + 1, [], by omega, Pre.app _ _, Live.newj rfl, by omega, by omega, Live.newj rfl, rfl, rfl, rfl, rfl, rfl, rfl, rfl⟩ ?_
  rintro m fr M' ⟨k, u, acc, hk, hpre, hnx, hu, hun, hout, h1, h2, h3, h9, h10, h11, hacc⟩
  have ht := h.pre hpre
  have hnx' : Ints M' (M.length + 2) 0 (nexts x y p) := hnx.has
  simp (disch := omega) only [h1, h2, h3, h9, h10, h11, ↓SXd, SXu, slBounds, ↓sop, ↓aop, ↓reduceIte, LV.cells, AOp.dst, LV.I, LV.B, LV.U, LV.S, LV.nil, Nat.reduceEqDiff, Nat.reduceAdd, Nat.reduceMul, Nat.reduceSub, Nat.reduceLeDiff, Nat.reduceBEq, Nat.reduceDiv, Nat.reduceMod, Int.reduceToNat, Int.reduceLT, Int.reduceLE, Int.reduceAdd, Int.reduceSub, Int.reduceMul, Int.reduceEq, Int.reduceNeg, reduceCtorEq, resV, resAll, ARes.ev, LV.flat, ite_true, ite_false, exists_eq_left', exists_eq_left, keyOf, implies_true, fillC, capOf]
  refine condC_dec (fun hlt => ?_) (fun hlt => ?_)
  · have hal : acc.length ≤ 1000 := by
      rw [hacc]
      have := List.length_filter_le (fun q => decide (gap (ts.getD q.toNat 0) (ts.getD p.toNat 0) ≤ s)) ((nexts x y p).take k)
      simp only [List.length_take] at this
      omega
    have hq := nexts_mem (getD_mem (d := 0) (show k < (nexts x y p).length by omega))
    have hv1 := hlow ((nexts x y p).getD k 0).toNat (by omega)
    have hv2 := hlow p.toNat (by omega)
    have hne : (nexts x y p)[k]? = some ((nexts x y p).getD k 0) := by simp [show k < (nexts x y p).length by omega]
    simp (disch := omega) only [h1, h2, h3, h9, h10, h11, hnx.cell, intL_get, Ints.get ht, ↓SXd, SXu, slBounds, ↓sop, ↓aop, ↓reduceIte, LV.cells, AOp.dst, LV.I, LV.B, LV.U, LV.S, LV.nil, Nat.reduceEqDiff, Nat.reduceAdd, Nat.reduceMul, Nat.reduceSub, Nat.reduceLeDiff, Nat.reduceBEq, Nat.reduceDiv, Nat.reduceMod, Int.reduceToNat, Int.reduceLT, Int.reduceLE, Int.reduceAdd, Int.reduceSub, Int.reduceMul, Int.reduceEq, Int.reduceNeg, reduceCtorEq, resV, resAll, ARes.ev, LV.flat, ite_true, ite_false, exists_eq_left', exists_eq_left, keyOf, implies_true, fillC, capOf]
    refine callK_of (h_l10Up (by omega) (by omega)) ?_
    simp (disch := omega) only [h1, h2, h3, h9, h10, h11, ↓SXd, SXu, slBounds, ↓sop, ↓aop, ↓reduceIte, LV.cells, AOp.dst, LV.I, LV.B, LV.U, LV.S, LV.nil, Nat.reduceEqDiff, Nat.reduceAdd, Nat.reduceMul, Nat.reduceSub, Nat.reduceLeDiff, Nat.reduceBEq, Nat.reduceDiv, Nat.reduceMod, Int.reduceToNat, Int.reduceLT, Int.reduceLE, Int.reduceAdd, Int.reduceSub, Int.reduceMul, Int.reduceEq, Int.reduceNeg, reduceCtorEq, resV, resAll, ARes.ev, LV.flat, ite_true, ite_false, exists_eq_left', exists_eq_left, keyOf, implies_true, fillC, capOf]
    refine condC_dec (fun he => ?_) (fun he => ?_)
    · simp (disch := omega) only [h1, h2, h3, h9, h10, h11, hnx.cell, intL_get, fillC, splice, ↓SXd, SXu, slBounds, ↓sop, ↓aop, ↓reduceIte, LV.cells, AOp.dst, LV.I, LV.B, LV.U, LV.S, LV.nil, Nat.reduceEqDiff, Nat.reduceAdd, Nat.reduceMul, Nat.reduceSub, Nat.reduceLeDiff, Nat.reduceBEq, Nat.reduceDiv, Nat.reduceMod, Int.reduceToNat, Int.reduceLT, Int.reduceLE, Int.reduceAdd, Int.reduceSub, Int.reduceMul, Int.reduceEq, Int.reduceNeg, reduceCtorEq, resV, resAll, ARes.ev, LV.flat, ite_true, ite_false, exists_eq_left', exists_eq_left, keyOf, implies_true, fillC, capOf]
      refine appendK_int hout (by omega) fun M'' l1 l2 l3 => ?_
      simp (disch := omega) only [h1, h2, h3, h9, h10, h11, ↓SXd, SXu, slBounds, ↓sop, ↓aop, ↓reduceIte, LV.cells, AOp.dst, LV.I, LV.B, LV.U, LV.S, LV.nil, Nat.reduceEqDiff, Nat.reduceAdd, Nat.reduceMul, Nat.reduceSub, Nat.reduceLeDiff, Nat.reduceBEq, Nat.reduceDiv, Nat.reduceMod, Int.reduceToNat, Int.reduceLT, Int.reduceLE, Int.reduceAdd, Int.reduceSub, Int.reduceMul, Int.reduceEq, Int.reduceNeg, reduceCtorEq, resV, resAll, ARes.ev, LV.flat, ite_true, ite_false, exists_eq_left', exists_eq_left, keyOf, implies_true, fillC, capOf]
      refine ⟨m - 1, by omega, k + 1, _, _, by omega, pre_step hpre hu l1 l3, live_step hnx (by omega) l3, ?_, ?_, l2, h1, h2, h3, rfl, h10, eqI (natI _), ?_⟩
      · have := hpre.1; omega
      · have := hnx.lt; omega
      · rw [List.take_add_one, List.filter_append, ← hacc, hne]
        congr 1
        simp only [Option.toList]
        rw [List.filter_cons_of_pos (by simpa using he)]; rfl
    · simp (disch := omega) only [h1, h2, h3, h9, h10, h11, ↓SXd, SXu, slBounds, ↓sop, ↓aop, ↓reduceIte, LV.cells, AOp.dst, LV.I, LV.B, LV.U, LV.S, LV.nil, Nat.reduceEqDiff, Nat.reduceAdd, Nat.reduceMul, Nat.reduceSub, Nat.reduceLeDiff, Nat.reduceBEq, Nat.reduceDiv, Nat.reduceMod, Int.reduceToNat, Int.reduceLT, Int.reduceLE, Int.reduceAdd, Int.reduceSub, Int.reduceMul, Int.reduceEq, Int.reduceNeg, reduceCtorEq, resV, resAll, ARes.ev, LV.flat, ite_true, ite_false, exists_eq_left', exists_eq_left, keyOf, implies_true, fillC, capOf]
      refine ⟨m - 1, by omega, k + 1, u, acc, by omega, hpre, hnx, hu, hun, hout, h1, h2, h3, h9, h10, eqI (natI _), ?_⟩
      rw [List.take_add_one, List.filter_append, ← hacc, hne]
      simp only [Option.toList]
      rw [List.filter_cons_of_neg (by simpa using he)]; simp
  · simp (disch := omega) only [h1, h2, h3, h9, h10, h11, ↓SXd, SXu, slBounds, ↓sop, ↓aop, ↓reduceIte, LV.cells, AOp.dst, LV.I, LV.B, LV.U, LV.S, LV.nil, Nat.reduceEqDiff, Nat.reduceAdd, Nat.reduceMul, Nat.reduceSub, Nat.reduceLeDiff, Nat.reduceBEq, Nat.reduceDiv, Nat.reduceMod, Int.reduceToNat, Int.reduceLT, Int.reduceLE, Int.reduceAdd, Int.reduceSub, Int.reduceMul, Int.reduceEq, Int.reduceNeg, reduceCtorEq, resV, resAll, ARes.ev, LV.flat, ite_true, ite_false, exists_eq_left', exists_eq_left, keyOf, implies_true, fillC, capOf]
    have : k = (nexts x y p).length := by omega
    subst this
    rw [List.take_length] at hacc
    rw [show stepsOf x y ts p s = acc from hacc.symm]
    exact cmp_keepL hpre hu hout (intL_lo acc) (by simp [rn, rn0, rn1])
end Go.Ab

/- Contracts: the reference's spread. -/
namespace Go.Ab
open Go
set_option linter.unusedSimpArgs false
set_option linter.unusedVariables false

theorem topsOf_low {x y z : Int} {cs : List Cell} (hH : HeapOK x y z cs) : Low (topsOf x y cs) := by
  have hz := hH.1.2.2
  have key : ∀ k, k ≤ cs.length → ∀ j, 0 ≤ ((cs.take k).foldl (topStep y) (List.replicate (x * y).toNat 0)).getD j 0 ∧ ((cs.take k).foldl (topStep y) (List.replicate (x * y).toNat 0)).getD j 0 ≤ 4 := by
    intro k
    induction k with
    | zero =>
      intro _ j
      simp only [List.take_zero, List.foldl_nil, List.getD_eq_getElem?_getD, List.getElem?_replicate]
      split <;> simp
    | succ k ih =>
      intro hk j
      rw [take_succ_foldl _ _ _ _ default (by omega)]
      have h1 := ih (by omega)
      obtain ⟨_, _, hc⟩ := hH.cell (k := k) (by omega)
      generalize (cs.take k).foldl (topStep y) (List.replicate (x * y).toNat 0) = out at h1 ⊢
      unfold topStep
      rw [getD_set]
      have h2 := h1 ((cs.getD k default).a * y + (cs.getD k default).b).toNat
      have h3 := h1 j
      split <;> omega
  intro k hk
  have := key cs.length (Nat.le_refl _) k
  rw [List.take_length] at this
  unfold topsOf
  omega

theorem h_l10Spread {x y z p s : Int} {t o : Nat} {cs : List Cell} {M : Mem} (h : Tri M t o cs) (hn : cs.length ≤ 1000000000) (hH : HeapOK x y z cs) (hp : 0 ≤ p ∧ p ≤ x * y - 1) :
    CallsTo PG F.spec_l10Spread [.agg [.I x, .I y, .I z, .ref t o cs.length], .I p, .I s] M (.ref M.length 0 (x * y).toNat) (M ++ [some (.row (intL (spreadOf x y cs p s)) true 1)]) := by
  have hb := mul_bound hH.1.1 hH.1.2.1
  refine calls_run K.spec_l10Spread rfl ?_
  simp (disch := omega) only [C.spec_l10Spread, made_int, fillC, ↓SXd, SXu, slBounds, ↓sop, ↓aop, ↓reduceIte, LV.cells, AOp.dst, LV.I, LV.B, LV.U, LV.S, LV.nil, Nat.reduceEqDiff, Nat.reduceAdd, Nat.reduceMul, Nat.reduceSub, Nat.reduceLeDiff, Nat.reduceBEq, Nat.reduceDiv, Nat.reduceMod, Int.reduceToNat, Int.reduceLT, Int.reduceLE, Int.reduceAdd, Int.reduceSub, Int.reduceMul, Int.reduceEq, Int.reduceNeg, reduceCtorEq, resV, resAll, ARes.ev, LV.flat, ite_true, ite_false, exists_eq_left', exists_eq_left, keyOf, implies_true, fillC, capOf]
  refine callK_of (h_l2Tops h.app hn hH) ?_
  simp (disch := omega) only [↓SXd, SXu, slBounds, ↓sop, ↓aop, ↓reduceIte, LV.cells, AOp.dst, LV.I, LV.B, LV.U, LV.S, LV.nil, Nat.reduceEqDiff, Nat.reduceAdd, Nat.reduceMul, Nat.reduceSub, Nat.reduceLeDiff, Nat.reduceBEq, Nat.reduceDiv, Nat.reduceMod, Int.reduceToNat, Int.reduceLT, Int.reduceLE, Int.reduceAdd, Int.reduceSub, Int.reduceMul, Int.reduceEq, Int.reduceNeg, reduceCtorEq, resV, resAll, ARes.ev, LV.flat, ite_true, ite_false, exists_eq_left', exists_eq_left, keyOf, implies_true, fillC, capOf]
  refine ev_loop (fun m fr M' => ∃ k : Nat, k + m = (x * y).toNat ∧ M' = M ++ [some (Blk.row [.I x, .I y, .I z, .ref t o cs.length] true 0), some (.row (intL (List.replicate k (-1) ++ List.replicate ((x * y).toNat - k) 0)) true 1), some (.row (intL (topsOf x y cs)) true 1)] ∧
    fr 1 = .I p ∧ fr 2 = .I s ∧ fr 3 = .ptr M.length 0 ∧ fr 7 = .ref (M.length + 1) 0 (x * y).toNat ∧ fr 8 = .ref (M.length + 2) 0 (x * y).toNat ∧ fr 9 = .I k) (x * y).toNat
    ⟨0, by omega, rfl, rfl, rfl, rfl, rfl, rfl, rfl⟩ ?_
  rintro m fr M' ⟨k, hk, rfl, h1, h2, h3, h7, h8, h9⟩
  have hlen : (List.replicate k (-1 : Int) ++ List.replicate ((x * y).toNat - k) 0).length = (x * y).toNat := by simp; omega
  simp (disch := omega) only [h1, h2, h3, h7, h8, h9, ↓SXd, SXu, slBounds, ↓sop, ↓aop, ↓reduceIte, LV.cells, AOp.dst, LV.I, LV.B, LV.U, LV.S, LV.nil, Nat.reduceEqDiff, Nat.reduceAdd, Nat.reduceMul, Nat.reduceSub, Nat.reduceLeDiff, Nat.reduceBEq, Nat.reduceDiv, Nat.reduceMod, Int.reduceToNat, Int.reduceLT, Int.reduceLE, Int.reduceAdd, Int.reduceSub, Int.reduceMul, Int.reduceEq, Int.reduceNeg, reduceCtorEq, resV, resAll, ARes.ev, LV.flat, ite_true, ite_false, exists_eq_left', exists_eq_left, keyOf, implies_true, fillC, capOf]
  refine condC_dec (fun hlt => ?_) (fun hlt => ?_)
  · simp (disch := omega) only [h1, h2, h3, h7, h8, h9, intL_len, hlen, splice_int, ↓SXd, SXu, slBounds, ↓sop, ↓aop, ↓reduceIte, LV.cells, AOp.dst, LV.I, LV.B, LV.U, LV.S, LV.nil, Nat.reduceEqDiff, Nat.reduceAdd, Nat.reduceMul, Nat.reduceSub, Nat.reduceLeDiff, Nat.reduceBEq, Nat.reduceDiv, Nat.reduceMod, Int.reduceToNat, Int.reduceLT, Int.reduceLE, Int.reduceAdd, Int.reduceSub, Int.reduceMul, Int.reduceEq, Int.reduceNeg, reduceCtorEq, resV, resAll, ARes.ev, LV.flat, ite_true, ite_false, exists_eq_left', exists_eq_left, keyOf, implies_true, fillC, capOf]
    refine ⟨m - 1, by omega, k + 1, by omega, ?_, h1, h2, h3, h7, h8, eqI (natI _)⟩
    rw [← fill_rep (by omega)]
  · have hk' : k = (x * y).toNat := by omega
    subst hk'
    have hCl : (List.replicate (x * y).toNat (-1 : Int)).length = (x * y).toNat := by simp
    simp (disch := omega) only [h1, h2, h3, h7, h8, h9, intL_len, hCl, hlen, splice_int, Nat.sub_self, List.replicate_zero, List.append_nil, ↓SXd, SXu, slBounds, ↓sop, ↓aop, ↓reduceIte, LV.cells, AOp.dst, LV.I, LV.B, LV.U, LV.S, LV.nil, Nat.reduceEqDiff, Nat.reduceAdd, Nat.reduceMul, Nat.reduceSub, Nat.reduceLeDiff, Nat.reduceBEq, Nat.reduceDiv, Nat.reduceMod, Int.reduceToNat, Int.reduceLT, Int.reduceLE, Int.reduceAdd, Int.reduceSub, Int.reduceMul, Int.reduceEq, Int.reduceNeg, reduceCtorEq, resV, resAll, ARes.ev, LV.flat, ite_true, ite_false, exists_eq_left', exists_eq_left, keyOf, implies_true, fillC, capOf]
    have hN : ∀ q r, r ∈ stepsOf x y (topsOf x y cs) q s → 0 ≤ r ∧ r < (((x * y).toNat : Nat) : Int) := fun q r hr => by
      have := stepsOf_mem hr; omega
    refine ev_loop (fun m fr M' => ∃ (n u : Nat) (st : List Int × List Int), n + m = (x * y).toNat ∧ Pre M M' ∧ Live M' M.length (.row [.I x, .I y, .I z, .ref t o cs.length] true 0) ∧ Live M' (M.length + 1) (.row (intL st.1) true 1) ∧
      Live M' (M.length + 2) (.row (intL (topsOf x y cs)) true 1) ∧ M.length + 3 ≤ u ∧ Live M' u (.row (intL st.2) true 1) ∧ BInv (x * y).toNat st ∧ n ≤ st.2.length ∧
      bfs (fun q => stepsOf x y (topsOf x y cs) q s) m n st = spreadOf x y cs p s ∧
      fr 2 = .I s ∧ fr 3 = .ptr M.length 0 ∧ fr 7 = .ref (M.length + 1) 0 (x * y).toNat ∧ fr 8 = .ref (M.length + 2) 0 (x * y).toNat ∧ fr 10 = .ref u 0 st.2.length ∧ fr 11 = .I n) (x * y).toNat
      ⟨0, M.length + 3, _, by omega, Pre.app _ _, Live.new, Live.newj rfl, Live.newj rfl, by omega, Live.newj rfl, BInv.start (by omega), by omega, rfl, h2, h3, h7, h8, rfl, rfl⟩ ?_
    clear hlen hk h1 h2 h3 h7 h8 h9 hlt
    rintro m fr M' ⟨n, u, st, hnm, hpre, hbox, hout, htop, hu, hlist, hinv, hnl, hbfs, h2, h3, h7, h8, h10, h11⟩
    have hle := hinv.le
    have hol := hinv.len
    simp (disch := omega) only [h2, h3, h7, h8, h10, h11, ↓SXd, SXu, slBounds, ↓sop, ↓aop, ↓reduceIte, LV.cells, AOp.dst, LV.I, LV.B, LV.U, LV.S, LV.nil, Nat.reduceEqDiff, Nat.reduceAdd, Nat.reduceMul, Nat.reduceSub, Nat.reduceLeDiff, Nat.reduceBEq, Nat.reduceDiv, Nat.reduceMod, Int.reduceToNat, Int.reduceLT, Int.reduceLE, Int.reduceAdd, Int.reduceSub, Int.reduceMul, Int.reduceEq, Int.reduceNeg, reduceCtorEq, resV, resAll, ARes.ev, LV.flat, ite_true, ite_false, exists_eq_left', exists_eq_left, keyOf, implies_true, fillC, capOf]
    refine condC_dec (fun hlt => ?_) (fun hlt => ?_)
    · have hpn := hinv.mem _ (getD_mem (d := 0) (show n < st.2.length by omega))
      simp (disch := omega) only [h2, h3, h7, h8, h10, h11, hbox.cells, hlist.cell, intL_get, ↓SXd, SXu, slBounds, ↓sop, ↓aop, ↓reduceIte, LV.cells, AOp.dst, LV.I, LV.B, LV.U, LV.S, LV.nil, Nat.reduceEqDiff, Nat.reduceAdd, Nat.reduceMul, Nat.reduceSub, Nat.reduceLeDiff, Nat.reduceBEq, Nat.reduceDiv, Nat.reduceMod, Int.reduceToNat, Int.reduceLT, Int.reduceLE, Int.reduceAdd, Int.reduceSub, Int.reduceMul, Int.reduceEq, Int.reduceNeg, reduceCtorEq, resV, resAll, ARes.ev, LV.flat, ite_true, ite_false, exists_eq_left', exists_eq_left, keyOf, implies_true, fillC, capOf]
      refine callK_of (h_l10Steps hH.1 (by omega) htop.has (topsOf_len x y cs) (topsOf_low hH)) ?_
      simp (disch := omega) only [h2, h3, h7, h8, h10, h11, ↓SXd, SXu, slBounds, ↓sop, ↓aop, ↓reduceIte, LV.cells, AOp.dst, LV.I, LV.B, LV.U, LV.S, LV.nil, Nat.reduceEqDiff, Nat.reduceAdd, Nat.reduceMul, Nat.reduceSub, Nat.reduceLeDiff, Nat.reduceBEq, Nat.reduceDiv, Nat.reduceMod, Int.reduceToNat, Int.reduceLT, Int.reduceLE, Int.reduceAdd, Int.reduceSub, Int.reduceMul, Int.reduceEq, Int.reduceNeg, reduceCtorEq, resV, resAll, ARes.ev, LV.flat, ite_true, ite_false, exists_eq_left', exists_eq_left, keyOf, implies_true, fillC, capOf]
      have hpn' : 0 ≤ st.2.getD n 0 ∧ st.2.getD n 0 ≤ x * y - 1 := by omega
      generalize hpd : st.2.getD n 0 = pn at hpn hpn' hbfs ⊢
      have hnxm : ∀ k, k < (stepsOf x y (topsOf x y cs) pn s).length → 0 ≤ (stepsOf x y (topsOf x y cs) pn s).getD k 0 ∧ (stepsOf x y (topsOf x y cs) pn s).getD k 0 < (((x * y).toNat : Nat) : Int) := fun k hk => hN pn _ (getD_mem hk)
      have hnxl := stepsOf_len (p := pn) (s := s) (ts := topsOf x y cs) hb.2
      have hbfs' : bfs (fun q => stepsOf x y (topsOf x y cs) q s) (m - 1) (n + 1) ((stepsOf x y (topsOf x y cs) pn s).foldl (visit pn) st) = spreadOf x y cs p s := by
        obtain ⟨m', rfl⟩ : ∃ m', m = m' + 1 := ⟨m - 1, by omega⟩
        rw [← hbfs]
        simp only [bfs, if_pos (show n < st.2.length by omega), hpd, Nat.add_sub_cancel]
      generalize hnx : stepsOf x y (topsOf x y cs) pn s = nx at hnxm hnxl hbfs' ⊢
      refine ev_loop (fun m2 fr N => ∃ (i u : Nat) (st' : List Int × List Int), i + m2 = nx.length ∧ st' = (nx.take i).foldl (visit pn) st ∧ BInv (x * y).toNat st' ∧ Pre M N ∧ Live N M.length (.row [.I x, .I y, .I z, .ref t o cs.length] true 0) ∧
        Live N (M.length + 1) (.row (intL st'.1) true 1) ∧ Live N (M.length + 2) (.row (intL (topsOf x y cs)) true 1) ∧ M.length + 3 ≤ u ∧ u ≠ M'.length ∧ Live N u (.row (intL st'.2) true 1) ∧ Live N M'.length (.row (intL nx) true 1) ∧
        n < st'.2.length ∧ st'.2.getD n 0 = pn ∧
        fr 2 = .I s ∧ fr 3 = .ptr M.length 0 ∧ fr 7 = .ref (M.length + 1) 0 (x * y).toNat ∧ fr 8 = .ref (M.length + 2) 0 (x * y).toNat ∧ fr 10 = .ref u 0 st'.2.length ∧ fr 11 = .I n ∧ fr 12 = .ref M'.length 0 nx.length ∧ fr 13 = .I i) nx.length
        ⟨0, u, st, by omega, rfl, hinv, Pre.app' hpre, hbox.app, hout.app, htop.app, hu, by have := hlist.lt; omega, hlist.app, Live.new, by omega, hpd, h2, h3, h7, h8, h10, h11, rfl, rfl⟩ ?_
      have hw3 : M.length + 3 ≤ M'.length := by have := htop.lt; omega
      clear hinv hbox hout htop hlist h2 h3 h7 h8 h10 h11 hle hol hbfs hpd
      rintro m2 fr N ⟨i, u', st', him, hst', hinv, hpre', hbox, hout, htop, hu', hun, hlist, hnxL, hnl', hpd, h2, h3, h7, h8, h10, h11, h12, h13⟩
      have hle := hinv.le
      have hol := hinv.len
      simp (disch := omega) only [h2, h3, h7, h8, h10, h11, h12, h13, ↓SXd, SXu, slBounds, ↓sop, ↓aop, ↓reduceIte, LV.cells, AOp.dst, LV.I, LV.B, LV.U, LV.S, LV.nil, Nat.reduceEqDiff, Nat.reduceAdd, Nat.reduceMul, Nat.reduceSub, Nat.reduceLeDiff, Nat.reduceBEq, Nat.reduceDiv, Nat.reduceMod, Int.reduceToNat, Int.reduceLT, Int.reduceLE, Int.reduceAdd, Int.reduceSub, Int.reduceMul, Int.reduceEq, Int.reduceNeg, reduceCtorEq, resV, resAll, ARes.ev, LV.flat, ite_true, ite_false, exists_eq_left', exists_eq_left, keyOf, implies_true, fillC, capOf]
      refine condC_dec (fun hi => ?_) (fun hi => ?_)
      · have hq := hnxm i (by omega)
        have hvp := hinv.val pn.toNat (by omega)
        have hstep : (nx.take (i + 1)).foldl (visit pn) st = visit pn st' (nx.getD i 0) := by
          rw [take_succ_foldl _ _ _ _ 0 (by omega), ← hst']
        have hkeep := visit_keep (p := pn) (q := nx.getD i 0) hnl'
        have hinv' := hinv.visit hpn hq
        simp (disch := omega) only [h2, h3, h7, h8, h10, h11, h12, h13, hnxL.cell, hout.cell, intL_get, ↓SXd, SXu, slBounds, ↓sop, ↓aop, ↓reduceIte, LV.cells, AOp.dst, LV.I, LV.B, LV.U, LV.S, LV.nil, Nat.reduceEqDiff, Nat.reduceAdd, Nat.reduceMul, Nat.reduceSub, Nat.reduceLeDiff, Nat.reduceBEq, Nat.reduceDiv, Nat.reduceMod, Int.reduceToNat, Int.reduceLT, Int.reduceLE, Int.reduceAdd, Int.reduceSub, Int.reduceMul, Int.reduceEq, Int.reduceNeg, reduceCtorEq, resV, resAll, ARes.ev, LV.flat, ite_true, ite_false, exists_eq_left', exists_eq_left, keyOf, implies_true, fillC, capOf]
        refine condC_dec (fun hneg => ?_) (fun hneg => ?_)
        · simp (disch := omega) only [h2, h3, h7, h8, h10, h11, h12, h13, hnxL.cell, hout.cell, hlist.cell, intL_get, hpd, ↓SXd, SXu, slBounds, ↓sop, ↓aop, ↓reduceIte, LV.cells, AOp.dst, LV.I, LV.B, LV.U, LV.S, LV.nil, Nat.reduceEqDiff, Nat.reduceAdd, Nat.reduceMul, Nat.reduceSub, Nat.reduceLeDiff, Nat.reduceBEq, Nat.reduceDiv, Nat.reduceMod, Int.reduceToNat, Int.reduceLT, Int.reduceLE, Int.reduceAdd, Int.reduceSub, Int.reduceMul, Int.reduceEq, Int.reduceNeg, reduceCtorEq, resV, resAll, ARes.ev, LV.flat, ite_true, ite_false, exists_eq_left', exists_eq_left, keyOf, implies_true, fillC, capOf]
          refine memK_int hout (by omega) fun N1 l1 l2 l3 => ?_
          have hnxL1 := live_step hnxL (by have := hpre.1; have := hbox.lt; omega) l3
          have hlist1 := live_step hlist (by omega) l3
          simp (disch := omega) only [h2, h3, h7, h8, h10, h11, h12, h13, hnxL1.cell, intL_get, ↓SXd, SXu, slBounds, ↓sop, ↓aop, ↓reduceIte, LV.cells, AOp.dst, LV.I, LV.B, LV.U, LV.S, LV.nil, Nat.reduceEqDiff, Nat.reduceAdd, Nat.reduceMul, Nat.reduceSub, Nat.reduceLeDiff, Nat.reduceBEq, Nat.reduceDiv, Nat.reduceMod, Int.reduceToNat, Int.reduceLT, Int.reduceLE, Int.reduceAdd, Int.reduceSub, Int.reduceMul, Int.reduceEq, Int.reduceNeg, reduceCtorEq, resV, resAll, ARes.ev, LV.flat, ite_true, ite_false, exists_eq_left', exists_eq_left, keyOf, implies_true, fillC, capOf]
          refine appendK_int hlist1 (by omega) fun N2 k1 k2 k3 => ?_
          simp (disch := omega) only [h2, h3, h7, h8, h10, h11, h12, h13, ↓SXd, SXu, slBounds, ↓sop, ↓aop, ↓reduceIte, LV.cells, AOp.dst, LV.I, LV.B, LV.U, LV.S, LV.nil, Nat.reduceEqDiff, Nat.reduceAdd, Nat.reduceMul, Nat.reduceSub, Nat.reduceLeDiff, Nat.reduceBEq, Nat.reduceDiv, Nat.reduceMod, Int.reduceToNat, Int.reduceLT, Int.reduceLE, Int.reduceAdd, Int.reduceSub, Int.reduceMul, Int.reduceEq, Int.reduceNeg, reduceCtorEq, resV, resAll, ARes.ev, LV.flat, ite_true, ite_false, exists_eq_left', exists_eq_left, keyOf, implies_true, fillC, capOf]
          have hv : visit pn st' (nx.getD i 0) = (st'.1.set (nx.getD i 0).toNat (st'.1.getD pn.toNat 0 + 1), st'.2 ++ [nx.getD i 0]) := by unfold visit; rw [if_pos hneg]
          rw [hv] at hstep hkeep hinv'
          refine ⟨m2 - 1, by omega, i + 1, _, _, by omega, hstep.symm, hinv', pre_step (pre_step hpre' (by omega) (j := 0) l1 l3) (by omega) k1 k3, live_step (live_step hbox (by omega) l3) (by omega) k3, live_step l2 (by omega) k3,
            live_step (live_step htop (by omega) l3) (by omega) k3, ?_, ?_, k2, live_step hnxL1 (by omega) k3, hkeep.1, hkeep.2.trans hpd, h2, h3, h7, h8, rfl, h11, h12, eqI (natI _)⟩
          · have := hpre'.1; have := hlist.lt; omega
          · have := hnxL1.lt; omega
        · simp (disch := omega) only [h2, h3, h7, h8, h10, h11, h12, h13, ↓SXd, SXu, slBounds, ↓sop, ↓aop, ↓reduceIte, LV.cells, AOp.dst, LV.I, LV.B, LV.U, LV.S, LV.nil, Nat.reduceEqDiff, Nat.reduceAdd, Nat.reduceMul, Nat.reduceSub, Nat.reduceLeDiff, Nat.reduceBEq, Nat.reduceDiv, Nat.reduceMod, Int.reduceToNat, Int.reduceLT, Int.reduceLE, Int.reduceAdd, Int.reduceSub, Int.reduceMul, Int.reduceEq, Int.reduceNeg, reduceCtorEq, resV, resAll, ARes.ev, LV.flat, ite_true, ite_false, exists_eq_left', exists_eq_left, keyOf, implies_true, fillC, capOf]
          have hv : visit pn st' (nx.getD i 0) = st' := by unfold visit; rw [if_neg hneg]
          rw [hv] at hstep
          exact ⟨m2 - 1, by omega, i + 1, u', st', by omega, hstep.symm, hinv, hpre', hbox, hout, htop, hu', hun, hlist, hnxL, hnl', hpd, h2, h3, h7, h8, h10, h11, h12, eqI (natI _)⟩
      · simp (disch := omega) only [h2, h3, h7, h8, h10, h11, h12, h13, ↓SXd, SXu, slBounds, ↓sop, ↓aop, ↓reduceIte, LV.cells, AOp.dst, LV.I, LV.B, LV.U, LV.S, LV.nil, Nat.reduceEqDiff, Nat.reduceAdd, Nat.reduceMul, Nat.reduceSub, Nat.reduceLeDiff, Nat.reduceBEq, Nat.reduceDiv, Nat.reduceMod, Int.reduceToNat, Int.reduceLT, Int.reduceLE, Int.reduceAdd, Int.reduceSub, Int.reduceMul, Int.reduceEq, Int.reduceNeg, reduceCtorEq, resV, resAll, ARes.ev, LV.flat, ite_true, ite_false, exists_eq_left', exists_eq_left, keyOf, implies_true, fillC, capOf]
        have : i = nx.length := by omega
        subst this
        rw [List.take_length] at hst'
        rw [← hst'] at hbfs'
        exact ⟨m - 1, by omega, n + 1, u', st', by omega, hpre', hbox, hout, htop, hu', hlist, hinv, by omega, hbfs', h2, h3, h7, h8, h10, eqI (natI _)⟩
    · simp (disch := omega) only [h2, h3, h7, h8, h10, h11, ↓SXd, SXu, slBounds, ↓sop, ↓aop, ↓reduceIte, LV.cells, AOp.dst, LV.I, LV.B, LV.U, LV.S, LV.nil, Nat.reduceEqDiff, Nat.reduceAdd, Nat.reduceMul, Nat.reduceSub, Nat.reduceLeDiff, Nat.reduceBEq, Nat.reduceDiv, Nat.reduceMod, Int.reduceToNat, Int.reduceLT, Int.reduceLE, Int.reduceAdd, Int.reduceSub, Int.reduceMul, Int.reduceEq, Int.reduceNeg, reduceCtorEq, resV, resAll, ARes.ev, LV.flat, ite_true, ite_false, exists_eq_left', exists_eq_left, keyOf, implies_true, fillC, capOf]
      have e : spreadOf x y cs p s = st.1 := by
        rw [← hbfs]
        cases m with
        | zero => rfl
        | succ m => simp only [bfs, if_neg (show ¬ n < st.2.length by omega)]
      rw [e]
      exact cmp_keepL hpre (by omega) hout (intL_lo _) (by simp [rn, rn0, rn1])
end Go.Ab

/- Contracts: the reference's regions. -/
namespace Go.Ab
open Go
set_option linter.unusedSimpArgs false
set_option linter.unusedVariables false

theorem h_l10Region {x y z p s : Int} {t o : Nat} {cs : List Cell} {M : Mem} (h : Tri M t o cs) (hn : cs.length ≤ 1000000000) (hH : HeapOK x y z cs) (hp : 0 ≤ p ∧ p ≤ x * y - 1) :
    CallsTo PG F.spec_l10Region [.agg [.I x, .I y, .I z, .ref t o cs.length], .I p, .I s] M (.ref M.length 0 (regionOf x y cs p s).length) (M ++ [some (.row (intL (regionOf x y cs p s)) true 1)]) := by
  have hb := mul_bound hH.1.1 hH.1.2.1
  have hsl := spreadOf_len (cs := cs) (s := s) hp
  refine calls_run K.spec_l10Region rfl ?_
  simp (disch := omega) only [C.spec_l10Region, ↓SXd, SXu, slBounds, ↓sop, ↓aop, ↓reduceIte, LV.cells, AOp.dst, LV.I, LV.B, LV.U, LV.S, LV.nil, Nat.reduceEqDiff, Nat.reduceAdd, Nat.reduceMul, Nat.reduceSub, Nat.reduceLeDiff, Nat.reduceBEq, Nat.reduceDiv, Nat.reduceMod, Int.reduceToNat, Int.reduceLT, Int.reduceLE, Int.reduceAdd, Int.reduceSub, Int.reduceMul, Int.reduceEq, Int.reduceNeg, reduceCtorEq, resV, resAll, ARes.ev, LV.flat, ite_true, ite_false, exists_eq_left', exists_eq_left, keyOf, implies_true, fillC, capOf]
  refine callK_of (h_l10Spread h.app hn hH hp) ?_
  simp (disch := omega) only [↓SXd, SXu, slBounds, ↓sop, ↓aop, ↓reduceIte, LV.cells, AOp.dst, LV.I, LV.B, LV.U, LV.S, LV.nil, Nat.reduceEqDiff, Nat.reduceAdd, Nat.reduceMul, Nat.reduceSub, Nat.reduceLeDiff, Nat.reduceBEq, Nat.reduceDiv, Nat.reduceMod, Int.reduceToNat, Int.reduceLT, Int.reduceLE, Int.reduceAdd, Int.reduceSub, Int.reduceMul, Int.reduceEq, Int.reduceNeg, reduceCtorEq, resV, resAll, ARes.ev, LV.flat, ite_true, ite_false, exists_eq_left', exists_eq_left, keyOf, implies_true, fillC, capOf]
  refine ev_loop (fun m fr M' => ∃ (k u : Nat) (acc : List Int), k + m = (x * y).toNat ∧ Pre M M' ∧ Live M' (M.length + 2) (.row (intL (spreadOf x y cs p s)) true 1) ∧ M.length ≤ u ∧ u ≠ M.length + 2 ∧ Live M' u (.row (intL acc) true 1) ∧
    fr 7 = .ref u 0 acc.length ∧ fr 8 = .ref (M.length + 2) 0 (x * y).toNat ∧ fr 9 = .I k ∧ acc = (nums k).filter (fun q => decide (0 ≤ (spreadOf x y cs p s).getD q.toNat 0))) (x * y).toNat
    ⟨0, M.length + 1, [], by omega, Pre.app _ _, Live.newj rfl, by omega, by omega, Live.newj rfl, rfl, rfl, rfl, rfl⟩ ?_
  rintro m fr M' ⟨k, u, acc, hk, hpre, hsp, hu, hun, hout, h7, h8, h9, hacc⟩
  simp (disch := omega) only [h7, h8, h9, ↓SXd, SXu, slBounds, ↓sop, ↓aop, ↓reduceIte, LV.cells, AOp.dst, LV.I, LV.B, LV.U, LV.S, LV.nil, Nat.reduceEqDiff, Nat.reduceAdd, Nat.reduceMul, Nat.reduceSub, Nat.reduceLeDiff, Nat.reduceBEq, Nat.reduceDiv, Nat.reduceMod, Int.reduceToNat, Int.reduceLT, Int.reduceLE, Int.reduceAdd, Int.reduceSub, Int.reduceMul, Int.reduceEq, Int.reduceNeg, reduceCtorEq, resV, resAll, ARes.ev, LV.flat, ite_true, ite_false, exists_eq_left', exists_eq_left, keyOf, implies_true, fillC, capOf]
  refine condC_dec (fun hlt => ?_) (fun hlt => ?_)
  · have hal : acc.length ≤ 1000 := by
      rw [hacc]
      have := List.length_filter_le (fun q => decide (0 ≤ (spreadOf x y cs p s).getD q.toNat 0)) (nums k)
      rw [nums_len] at this
      omega
    simp (disch := omega) only [h7, h8, h9, hsp.cell, intL_get, ↓SXd, SXu, slBounds, ↓sop, ↓aop, ↓reduceIte, LV.cells, AOp.dst, LV.I, LV.B, LV.U, LV.S, LV.nil, Nat.reduceEqDiff, Nat.reduceAdd, Nat.reduceMul, Nat.reduceSub, Nat.reduceLeDiff, Nat.reduceBEq, Nat.reduceDiv, Nat.reduceMod, Int.reduceToNat, Int.reduceLT, Int.reduceLE, Int.reduceAdd, Int.reduceSub, Int.reduceMul, Int.reduceEq, Int.reduceNeg, reduceCtorEq, resV, resAll, ARes.ev, LV.flat, ite_true, ite_false, exists_eq_left', exists_eq_left, keyOf, implies_true, fillC, capOf]
    refine condC_dec (fun he => ?_) (fun he => ?_)
    · simp (disch := omega) only [h7, h8, h9, ↓SXd, SXu, slBounds, ↓sop, ↓aop, ↓reduceIte, LV.cells, AOp.dst, LV.I, LV.B, LV.U, LV.S, LV.nil, Nat.reduceEqDiff, Nat.reduceAdd, Nat.reduceMul, Nat.reduceSub, Nat.reduceLeDiff, Nat.reduceBEq, Nat.reduceDiv, Nat.reduceMod, Int.reduceToNat, Int.reduceLT, Int.reduceLE, Int.reduceAdd, Int.reduceSub, Int.reduceMul, Int.reduceEq, Int.reduceNeg, reduceCtorEq, resV, resAll, ARes.ev, LV.flat, ite_true, ite_false, exists_eq_left', exists_eq_left, keyOf, implies_true, fillC, capOf]
      refine appendK_int hout (by omega) fun M'' l1 l2 l3 => ?_
      simp (disch := omega) only [h7, h8, h9, ↓SXd, SXu, slBounds, ↓sop, ↓aop, ↓reduceIte, LV.cells, AOp.dst, LV.I, LV.B, LV.U, LV.S, LV.nil, Nat.reduceEqDiff, Nat.reduceAdd, Nat.reduceMul, Nat.reduceSub, Nat.reduceLeDiff, Nat.reduceBEq, Nat.reduceDiv, Nat.reduceMod, Int.reduceToNat, Int.reduceLT, Int.reduceLE, Int.reduceAdd, Int.reduceSub, Int.reduceMul, Int.reduceEq, Int.reduceNeg, reduceCtorEq, resV, resAll, ARes.ev, LV.flat, ite_true, ite_false, exists_eq_left', exists_eq_left, keyOf, implies_true, fillC, capOf]
      refine ⟨m - 1, by omega, k + 1, _, _, by omega, pre_step hpre hu l1 l3, live_step hsp (by omega) l3, ?_, ?_, l2, rfl, h8, eqI (natI _), ?_⟩
      · have := hpre.1; omega
      · have := hsp.lt; omega
      · rw [nums_succ, List.filter_append, ← hacc]
        congr 1
        rw [List.filter_cons_of_pos (by simpa using he)]; rfl
    · simp (disch := omega) only [h7, h8, h9, ↓SXd, SXu, slBounds, ↓sop, ↓aop, ↓reduceIte, LV.cells, AOp.dst, LV.I, LV.B, LV.U, LV.S, LV.nil, Nat.reduceEqDiff, Nat.reduceAdd, Nat.reduceMul, Nat.reduceSub, Nat.reduceLeDiff, Nat.reduceBEq, Nat.reduceDiv, Nat.reduceMod, Int.reduceToNat, Int.reduceLT, Int.reduceLE, Int.reduceAdd, Int.reduceSub, Int.reduceMul, Int.reduceEq, Int.reduceNeg, reduceCtorEq, resV, resAll, ARes.ev, LV.flat, ite_true, ite_false, exists_eq_left', exists_eq_left, keyOf, implies_true, fillC, capOf]
      refine ⟨m - 1, by omega, k + 1, u, acc, by omega, hpre, hsp, hu, hun, hout, h7, h8, eqI (natI _), ?_⟩
      rw [nums_succ, List.filter_append, ← hacc, List.filter_cons_of_neg (by simpa using he)]; simp
  · simp (disch := omega) only [h7, h8, h9, ↓SXd, SXu, slBounds, ↓sop, ↓aop, ↓reduceIte, LV.cells, AOp.dst, LV.I, LV.B, LV.U, LV.S, LV.nil, Nat.reduceEqDiff, Nat.reduceAdd, Nat.reduceMul, Nat.reduceSub, Nat.reduceLeDiff, Nat.reduceBEq, Nat.reduceDiv, Nat.reduceMod, Int.reduceToNat, Int.reduceLT, Int.reduceLE, Int.reduceAdd, Int.reduceSub, Int.reduceMul, Int.reduceEq, Int.reduceNeg, reduceCtorEq, resV, resAll, ARes.ev, LV.flat, ite_true, ite_false, exists_eq_left', exists_eq_left, keyOf, implies_true, fillC, capOf]
    have : k = (x * y).toNat := by omega
    subst this
    rw [show regionOf x y cs p s = acc from hacc.symm]
    exact cmp_keepL hpre hu hout (intL_lo acc) (by simp [rn, rn0, rn1])

/-- What TopRegion answers. -/
noncomputable def topRegionOf (x y z : Int) (cs : List Cell) (p s : Int) : Option (List Int) := if HeapOK x y z cs ∧ (0 ≤ p ∧ p ≤ x * y - 1) ∧ 0 ≤ s then some (regionOf x y cs p s) else none

theorem h_sTopRegion {x y z p s : Int} {t o : Nat} {cs : List Cell} {M : Mem} (h : Tri M t o cs) (hn : cs.length ≤ 1000000000) :
    CallsTo PG F.spec_TopRegion [.agg [.I x, .I y, .I z, .ref t o cs.length], .I p, .I s] M
      (.tup [.ref M.length 0 ((topRegionOf x y z cs p s).getD []).length, .B (topRegionOf x y z cs p s).isSome]) (M ++ [some (.row (intL ((topRegionOf x y z cs p s).getD [])) true 1)]) := by
  refine calls_run K.spec_TopRegion rfl ?_
  simp (disch := omega) only [C.spec_TopRegion, ↓SXd, SXu, slBounds, ↓sop, ↓aop, ↓reduceIte, LV.cells, AOp.dst, LV.I, LV.B, LV.U, LV.S, LV.nil, Nat.reduceEqDiff, Nat.reduceAdd, Nat.reduceMul, Nat.reduceSub, Nat.reduceLeDiff, Nat.reduceBEq, Nat.reduceDiv, Nat.reduceMod, Int.reduceToNat, Int.reduceLT, Int.reduceLE, Int.reduceAdd, Int.reduceSub, Int.reduceMul, Int.reduceEq, Int.reduceNeg, reduceCtorEq, resV, resAll, ARes.ev, LV.flat, ite_true, ite_false, exists_eq_left', exists_eq_left, keyOf, implies_true, fillC, capOf]
  refine callK_of (h_l10Column h.app hn) ?_
  unfold topRegionOf
  by_cases hH : HeapOK x y z cs ∧ (0 ≤ p ∧ p ≤ x * y - 1)
  · by_cases hs : 0 ≤ s
    · have hs' : ¬ s < 0 := by omega
      rw [if_pos ⟨hH.1, hH.2, hs⟩]
      simp (disch := omega) only [hH, hs', ↓SXd, SXu, slBounds, ↓sop, ↓aop, ↓reduceIte, LV.cells, AOp.dst, LV.I, LV.B, LV.U, LV.S, LV.nil, Nat.reduceEqDiff, Nat.reduceAdd, Nat.reduceMul, Nat.reduceSub, Nat.reduceLeDiff, Nat.reduceBEq, Nat.reduceDiv, Nat.reduceMod, Int.reduceToNat, Int.reduceLT, Int.reduceLE, Int.reduceAdd, Int.reduceSub, Int.reduceMul, Int.reduceEq, Int.reduceNeg, reduceCtorEq, resV, resAll, ARes.ev, LV.flat, ite_true, ite_false, exists_eq_left', exists_eq_left, keyOf, implies_true, fillC, capOf]
      refine callK_of (h_l10Region h.app hn hH.1 hH.2) ?_
      simp (disch := omega) only [↓SXd, SXu, slBounds, ↓sop, ↓aop, ↓reduceIte, LV.cells, AOp.dst, LV.I, LV.B, LV.U, LV.S, LV.nil, Nat.reduceEqDiff, Nat.reduceAdd, Nat.reduceMul, Nat.reduceSub, Nat.reduceLeDiff, Nat.reduceBEq, Nat.reduceDiv, Nat.reduceMod, Int.reduceToNat, Int.reduceLT, Int.reduceLE, Int.reduceAdd, Int.reduceSub, Int.reduceMul, Int.reduceEq, Int.reduceNeg, reduceCtorEq, resV, resAll, ARes.ev, LV.flat, ite_true, ite_false, exists_eq_left', exists_eq_left, keyOf, implies_true, fillC, capOf]
      exact cmp_keep1 (j := 1) rfl (intL_lo _) (by simp [rn, rn0, rn1, keepR_n])
    · have hs' : s < 0 := by omega
      rw [if_neg (fun e => hs e.2.2)]
      simp (disch := omega) only [hH, hs', ↓SXd, SXu, slBounds, ↓sop, ↓aop, ↓reduceIte, LV.cells, AOp.dst, LV.I, LV.B, LV.U, LV.S, LV.nil, Nat.reduceEqDiff, Nat.reduceAdd, Nat.reduceMul, Nat.reduceSub, Nat.reduceLeDiff, Nat.reduceBEq, Nat.reduceDiv, Nat.reduceMod, Int.reduceToNat, Int.reduceLT, Int.reduceLE, Int.reduceAdd, Int.reduceSub, Int.reduceMul, Int.reduceEq, Int.reduceNeg, reduceCtorEq, resV, resAll, ARes.ev, LV.flat, ite_true, ite_false, exists_eq_left', exists_eq_left, keyOf, implies_true, fillC, capOf]
      exact cmp_keep1 (j := 1) rfl rfl (by simp [rn, rn0, rn1, keepR_n])
  · rw [if_neg (fun e => hH ⟨e.1, e.2.1⟩)]
    simp (disch := omega) only [hH, ↓SXd, SXu, slBounds, ↓sop, ↓aop, ↓reduceIte, LV.cells, AOp.dst, LV.I, LV.B, LV.U, LV.S, LV.nil, Nat.reduceEqDiff, Nat.reduceAdd, Nat.reduceMul, Nat.reduceSub, Nat.reduceLeDiff, Nat.reduceBEq, Nat.reduceDiv, Nat.reduceMod, Int.reduceToNat, Int.reduceLT, Int.reduceLE, Int.reduceAdd, Int.reduceSub, Int.reduceMul, Int.reduceEq, Int.reduceNeg, reduceCtorEq, resV, resAll, ARes.ev, LV.flat, ite_true, ite_false, exists_eq_left', exists_eq_left, keyOf, implies_true, fillC, capOf]
    exact cmp_keep1 (j := 1) rfl rfl (by simp [rn, rn0, rn1, keepR_n])

/-- What CountRegions answers. -/
noncomputable def rcOf (x y z : Int) (cs : List Cell) (s : Int) : Option Int := if HeapOK x y z cs ∧ 0 ≤ s then some (countRegions x y cs s) else none

theorem h_sCountRegions {x y z s : Int} {t o : Nat} {cs : List Cell} {M : Mem} (h : Tri M t o cs) (hn : cs.length ≤ 1000000000) :
    CallsTo PG F.spec_CountRegions [.agg [.I x, .I y, .I z, .ref t o cs.length], .I s] M (.tup [.I ((rcOf x y z cs s).getD 0), .B (rcOf x y z cs s).isSome]) M := by
  refine calls_run K.spec_CountRegions rfl ?_
  simp (disch := omega) only [C.spec_CountRegions, ↓SXd, SXu, slBounds, ↓sop, ↓aop, ↓reduceIte, LV.cells, AOp.dst, LV.I, LV.B, LV.U, LV.S, LV.nil, Nat.reduceEqDiff, Nat.reduceAdd, Nat.reduceMul, Nat.reduceSub, Nat.reduceLeDiff, Nat.reduceBEq, Nat.reduceDiv, Nat.reduceMod, Int.reduceToNat, Int.reduceLT, Int.reduceLE, Int.reduceAdd, Int.reduceSub, Int.reduceMul, Int.reduceEq, Int.reduceNeg, reduceCtorEq, resV, resAll, ARes.ev, LV.flat, ite_true, ite_false, exists_eq_left', exists_eq_left, keyOf, implies_true, fillC, capOf]
  refine callK_of (h_l2Heap h.app hn) ?_
  unfold rcOf
  by_cases hH : HeapOK x y z cs
  · by_cases hs : 0 ≤ s
    · have hs' : ¬ s < 0 := by omega
      have hb := mul_bound hH.1.1 hH.1.2.1
      rw [if_pos ⟨hH, hs⟩]
      simp (disch := omega) only [hH, hs', ↓SXd, SXu, slBounds, ↓sop, ↓aop, ↓reduceIte, LV.cells, AOp.dst, LV.I, LV.B, LV.U, LV.S, LV.nil, Nat.reduceEqDiff, Nat.reduceAdd, Nat.reduceMul, Nat.reduceSub, Nat.reduceLeDiff, Nat.reduceBEq, Nat.reduceDiv, Nat.reduceMod, Int.reduceToNat, Int.reduceLT, Int.reduceLE, Int.reduceAdd, Int.reduceSub, Int.reduceMul, Int.reduceEq, Int.reduceNeg, reduceCtorEq, resV, resAll, ARes.ev, LV.flat, ite_true, ite_false, exists_eq_left', exists_eq_left, keyOf, implies_true, fillC, capOf]
      refine ev_loop (fun m fr M' => ∃ k : Nat, k + m = (x * y).toNat ∧ Pre M M' ∧ Live M' M.length (.row [.I x, .I y, .I z, .ref t o cs.length] true 0) ∧ fr 1 = .I s ∧ fr 2 = .ptr M.length 0 ∧ fr 7 = .I k ∧
        fr 6 = .I (((nums k).filter fun p => decide ((regionOf x y cs p s).getD 0 0 = p)).length : Nat)) (x * y).toNat ⟨0, by omega, Pre.app _ _, Live.new, rfl, rfl, rfl, rfl⟩ ?_
      rintro m fr M' ⟨k, hk, hpre, hbox, h1, h2, h7, h6⟩
      simp (disch := omega) only [h1, h2, h6, h7, hbox.cell, ↓SXd, SXu, slBounds, ↓sop, ↓aop, ↓reduceIte, LV.cells, AOp.dst, LV.I, LV.B, LV.U, LV.S, LV.nil, Nat.reduceEqDiff, Nat.reduceAdd, Nat.reduceMul, Nat.reduceSub, Nat.reduceLeDiff, Nat.reduceBEq, Nat.reduceDiv, Nat.reduceMod, Int.reduceToNat, Int.reduceLT, Int.reduceLE, Int.reduceAdd, Int.reduceSub, Int.reduceMul, Int.reduceEq, Int.reduceNeg, reduceCtorEq, resV, resAll, ARes.ev, LV.flat, ite_true, ite_false, exists_eq_left', exists_eq_left, keyOf, implies_true, fillC, capOf]
      refine condC_dec (fun hlt => ?_) (fun hlt => ?_)
      · have hr := regionOf_self (cs := cs) (s := s) (x := x) (y := y) (p := (k : Int)) (by omega)
        have hr0 : 0 < (regionOf x y cs (k : Int) s).length := List.length_pos_of_mem hr
        have hcl := List.length_filter_le (fun p => decide ((regionOf x y cs p s).getD 0 0 = p)) (nums k)
        rw [nums_len] at hcl
        simp (disch := omega) only [h1, h2, h6, h7, hbox.cells, ↓SXd, SXu, slBounds, ↓sop, ↓aop, ↓reduceIte, LV.cells, AOp.dst, LV.I, LV.B, LV.U, LV.S, LV.nil, Nat.reduceEqDiff, Nat.reduceAdd, Nat.reduceMul, Nat.reduceSub, Nat.reduceLeDiff, Nat.reduceBEq, Nat.reduceDiv, Nat.reduceMod, Int.reduceToNat, Int.reduceLT, Int.reduceLE, Int.reduceAdd, Int.reduceSub, Int.reduceMul, Int.reduceEq, Int.reduceNeg, reduceCtorEq, resV, resAll, ARes.ev, LV.flat, ite_true, ite_false, exists_eq_left', exists_eq_left, keyOf, implies_true, fillC, capOf]
        refine callK_of (h_l10Region (h.pre hpre) hn hH (by omega)) ?_
        simp (disch := omega) only [h1, h2, h6, h7, intL_get, ↓SXd, SXu, slBounds, ↓sop, ↓aop, ↓reduceIte, LV.cells, AOp.dst, LV.I, LV.B, LV.U, LV.S, LV.nil, Nat.reduceEqDiff, Nat.reduceAdd, Nat.reduceMul, Nat.reduceSub, Nat.reduceLeDiff, Nat.reduceBEq, Nat.reduceDiv, Nat.reduceMod, Int.reduceToNat, Int.reduceLT, Int.reduceLE, Int.reduceAdd, Int.reduceSub, Int.reduceMul, Int.reduceEq, Int.reduceNeg, reduceCtorEq, resV, resAll, ARes.ev, LV.flat, ite_true, ite_false, exists_eq_left', exists_eq_left, keyOf, implies_true, fillC, capOf]
        refine condC_dec (fun he => ?_) (fun he => ?_)
        · simp (disch := omega) only [h1, h2, h6, h7, ↓SXd, SXu, slBounds, ↓sop, ↓aop, ↓reduceIte, LV.cells, AOp.dst, LV.I, LV.B, LV.U, LV.S, LV.nil, Nat.reduceEqDiff, Nat.reduceAdd, Nat.reduceMul, Nat.reduceSub, Nat.reduceLeDiff, Nat.reduceBEq, Nat.reduceDiv, Nat.reduceMod, Int.reduceToNat, Int.reduceLT, Int.reduceLE, Int.reduceAdd, Int.reduceSub, Int.reduceMul, Int.reduceEq, Int.reduceNeg, reduceCtorEq, resV, resAll, ARes.ev, LV.flat, ite_true, ite_false, exists_eq_left', exists_eq_left, keyOf, implies_true, fillC, capOf]
          refine ⟨m - 1, by omega, k + 1, by omega, Pre.app' hpre, hbox.app, h1, h2, eqI (natI _), eqI ?_⟩
          rw [nums_succ, List.filter_append, List.filter_cons_of_pos (by simpa using he), List.length_append]
          rfl
        · simp (disch := omega) only [h1, h2, h6, h7, ↓SXd, SXu, slBounds, ↓sop, ↓aop, ↓reduceIte, LV.cells, AOp.dst, LV.I, LV.B, LV.U, LV.S, LV.nil, Nat.reduceEqDiff, Nat.reduceAdd, Nat.reduceMul, Nat.reduceSub, Nat.reduceLeDiff, Nat.reduceBEq, Nat.reduceDiv, Nat.reduceMod, Int.reduceToNat, Int.reduceLT, Int.reduceLE, Int.reduceAdd, Int.reduceSub, Int.reduceMul, Int.reduceEq, Int.reduceNeg, reduceCtorEq, resV, resAll, ARes.ev, LV.flat, ite_true, ite_false, exists_eq_left', exists_eq_left, keyOf, implies_true, fillC, capOf]
          refine ⟨m - 1, by omega, k + 1, by omega, Pre.app' hpre, hbox.app, h1, h2, eqI (natI _), ?_⟩
          rw [nums_succ, List.filter_append, List.filter_cons_of_neg (by simpa using he), List.filter_nil, List.append_nil]
          exact h6
      · simp (disch := omega) only [h1, h2, h6, h7, ↓SXd, SXu, slBounds, ↓sop, ↓aop, ↓reduceIte, LV.cells, AOp.dst, LV.I, LV.B, LV.U, LV.S, LV.nil, Nat.reduceEqDiff, Nat.reduceAdd, Nat.reduceMul, Nat.reduceSub, Nat.reduceLeDiff, Nat.reduceBEq, Nat.reduceDiv, Nat.reduceMod, Int.reduceToNat, Int.reduceLT, Int.reduceLE, Int.reduceAdd, Int.reduceSub, Int.reduceMul, Int.reduceEq, Int.reduceNeg, reduceCtorEq, resV, resAll, ARes.ev, LV.flat, ite_true, ite_false, exists_eq_left', exists_eq_left, keyOf, implies_true, fillC, capOf]
        have : k = (x * y).toNat := by omega
        subst this
        exact cmp_pre hpre rfl
    · have hs' : s < 0 := by omega
      rw [if_neg (fun e => hs e.2)]
      simp (disch := omega) only [hH, hs', ↓SXd, SXu, slBounds, ↓sop, ↓aop, ↓reduceIte, LV.cells, AOp.dst, LV.I, LV.B, LV.U, LV.S, LV.nil, Nat.reduceEqDiff, Nat.reduceAdd, Nat.reduceMul, Nat.reduceSub, Nat.reduceLeDiff, Nat.reduceBEq, Nat.reduceDiv, Nat.reduceMod, Int.reduceToNat, Int.reduceLT, Int.reduceLE, Int.reduceAdd, Int.reduceSub, Int.reduceMul, Int.reduceEq, Int.reduceNeg, reduceCtorEq, resV, resAll, ARes.ev, LV.flat, ite_true, ite_false, exists_eq_left', exists_eq_left, keyOf, implies_true, fillC, capOf]
      exact cmp_drop rfl
  · rw [if_neg (fun e => hH e.1)]
    simp (disch := omega) only [hH, ↓SXd, SXu, slBounds, ↓sop, ↓aop, ↓reduceIte, LV.cells, AOp.dst, LV.I, LV.B, LV.U, LV.S, LV.nil, Nat.reduceEqDiff, Nat.reduceAdd, Nat.reduceMul, Nat.reduceSub, Nat.reduceLeDiff, Nat.reduceBEq, Nat.reduceDiv, Nat.reduceMod, Int.reduceToNat, Int.reduceLT, Int.reduceLE, Int.reduceAdd, Int.reduceSub, Int.reduceMul, Int.reduceEq, Int.reduceNeg, reduceCtorEq, resV, resAll, ARes.ev, LV.flat, ite_true, ite_false, exists_eq_left', exists_eq_left, keyOf, implies_true, fillC, capOf]
    exact cmp_drop rfl
end Go.Ab

/- Contracts: the program's regions. -/
namespace Go.Ab
open Go
set_option linter.unusedSimpArgs false
set_option linter.unusedVariables false

theorem g_TopRegion_no {x y z p s : Int} {t o : Nat} {cs : List Cell} {M : Mem} (h : Tri M t o cs) (hn : cs.length ≤ 1000000000) (hno : ¬ (HeapOK x y z cs ∧ (0 ≤ p ∧ p ≤ x * y - 1) ∧ 0 ≤ s)) :
    CallsTo PG F.impl_TopRegion [.agg [.I x, .I y, .I z, .ref t o cs.length], .I p, .I s] M (.tup [.nil, .B false]) M := by
  refine calls_run K.impl_TopRegion rfl ?_
  simp (disch := omega) only [C.impl_TopRegion, ↓SXd, SXu, slBounds, ↓sop, ↓aop, ↓reduceIte, LV.cells, AOp.dst, LV.I, LV.B, LV.U, LV.S, LV.nil, Nat.reduceEqDiff, Nat.reduceAdd, Nat.reduceMul, Nat.reduceSub, Nat.reduceLeDiff, Nat.reduceBEq, Nat.reduceDiv, Nat.reduceMod, Int.reduceToNat, Int.reduceLT, Int.reduceLE, Int.reduceAdd, Int.reduceSub, Int.reduceMul, Int.reduceEq, Int.reduceNeg, reduceCtorEq, resV, resAll, ARes.ev, LV.flat, ite_true, ite_false, exists_eq_left', exists_eq_left, keyOf, implies_true, fillC, capOf]
  refine callK_of (g_isTop (xs := [p]) (o' := 0) h.app hn (Live.newj (j := 1) (b := .row (intL [p]) true 1) rfl).has (by simp)) ?_
  have e : ¬ (HeapOK x y z cs ∧ 0 ≤ s ∧ ∀ k, k < [p].length → 0 ≤ [p].getD k 0 ∧ [p].getD k 0 ≤ x * y - 1) := fun hh => hno ⟨hh.1, hh.2.2 0 (by simp), hh.2.1⟩
  simp (disch := omega) only [e, ↓SXd, SXu, slBounds, ↓sop, ↓aop, ↓reduceIte, LV.cells, AOp.dst, LV.I, LV.B, LV.U, LV.S, LV.nil, Nat.reduceEqDiff, Nat.reduceAdd, Nat.reduceMul, Nat.reduceSub, Nat.reduceLeDiff, Nat.reduceBEq, Nat.reduceDiv, Nat.reduceMod, Int.reduceToNat, Int.reduceLT, Int.reduceLE, Int.reduceAdd, Int.reduceSub, Int.reduceMul, Int.reduceEq, Int.reduceNeg, reduceCtorEq, resV, resAll, ARes.ev, LV.flat, ite_true, ite_false, exists_eq_left', exists_eq_left, keyOf, implies_true, fillC, capOf]
  exact cmp_drop rfl

theorem g_isTop_ok {x y z s : Int} {t o t' o' : Nat} {cs : List Cell} {xs : List Int} {M : Mem} (h : Tri M t o cs) (hn : cs.length ≤ 1000000000) (h' : Ints M t' o' xs) (hn' : xs.length ≤ 1000000000)
    (e : HeapOK x y z cs ∧ 0 ≤ s ∧ ∀ k, k < xs.length → 0 ≤ xs.getD k 0 ∧ xs.getD k 0 ≤ x * y - 1) :
    CallsTo PG F.impl_isTop [.agg [.I x, .I y, .I z, .ref t o cs.length], .I s, .ref t' o' xs.length] M (.B true) M := by
  have := g_isTop (z := z) h hn h' hn' (x := x) (y := y) (s := s)
  rwa [decide_eq_true e] at this
theorem g_TopRegion_ok {x y z p s : Int} {t o : Nat} {cs : List Cell} {M : Mem} (h : Tri M t o cs) (hn : cs.length ≤ 1000000000) (hH : HeapOK x y z cs) (hp : 0 ≤ p ∧ p ≤ x * y - 1) (hs : 0 ≤ s) :
    CallsTo PG F.impl_TopRegion [.agg [.I x, .I y, .I z, .ref t o cs.length], .I p, .I s] M (.tup [.ref M.length 0 (regionOf x y cs p s).length, .B true]) (M ++ [some (.row (intL (regionOf x y cs p s)) true 1)]) := by
  have hb := mul_bound hH.1.1 hH.1.2.1
  have hsl := spreadOf_len (cs := cs) (s := s) hp
  have htl := topsOf_len x y cs
  refine calls_run K.impl_TopRegion rfl ?_
  simp (disch := omega) only [C.impl_TopRegion, ↓SXd, SXu, slBounds, ↓sop, ↓aop, ↓reduceIte, LV.cells, AOp.dst, LV.I, LV.B, LV.U, LV.S, LV.nil, Nat.reduceEqDiff, Nat.reduceAdd, Nat.reduceMul, Nat.reduceSub, Nat.reduceLeDiff, Nat.reduceBEq, Nat.reduceDiv, Nat.reduceMod, Int.reduceToNat, Int.reduceLT, Int.reduceLE, Int.reduceAdd, Int.reduceSub, Int.reduceMul, Int.reduceEq, Int.reduceNeg, reduceCtorEq, resV, resAll, ARes.ev, LV.flat, ite_true, ite_false, exists_eq_left', exists_eq_left, keyOf, implies_true, fillC, capOf]
  have e : HeapOK x y z cs ∧ 0 ≤ s ∧ ∀ k, k < [p].length → 0 ≤ [p].getD k 0 ∧ [p].getD k 0 ≤ x * y - 1 := ⟨hH, hs, fun k hk => by
    have : k = 0 := by simpa using hk
    subst this; exact hp⟩
  refine callK_of (g_isTop_ok (xs := [p]) (o' := 0) h.app hn (Live.newj (j := 1) (b := .row (intL [p]) true 1) rfl).has (by simp) e) ?_
  simp (disch := omega) only [↓SXd, SXu, slBounds, ↓sop, ↓aop, ↓reduceIte, LV.cells, AOp.dst, LV.I, LV.B, LV.U, LV.S, LV.nil, Nat.reduceEqDiff, Nat.reduceAdd, Nat.reduceMul, Nat.reduceSub, Nat.reduceLeDiff, Nat.reduceBEq, Nat.reduceDiv, Nat.reduceMod, Int.reduceToNat, Int.reduceLT, Int.reduceLE, Int.reduceAdd, Int.reduceSub, Int.reduceMul, Int.reduceEq, Int.reduceNeg, reduceCtorEq, resV, resAll, ARes.ev, LV.flat, ite_true, ite_false, exists_eq_left', exists_eq_left, keyOf, implies_true, fillC, capOf]
  refine callK_of (g_top h.app hn hH) ?_
  simp (disch := omega) only [↓SXd, SXu, slBounds, ↓sop, ↓aop, ↓reduceIte, LV.cells, AOp.dst, LV.I, LV.B, LV.U, LV.S, LV.nil, Nat.reduceEqDiff, Nat.reduceAdd, Nat.reduceMul, Nat.reduceSub, Nat.reduceLeDiff, Nat.reduceBEq, Nat.reduceDiv, Nat.reduceMod, Int.reduceToNat, Int.reduceLT, Int.reduceLE, Int.reduceAdd, Int.reduceSub, Int.reduceMul, Int.reduceEq, Int.reduceNeg, reduceCtorEq, resV, resAll, ARes.ev, LV.flat, ite_true, ite_false, exists_eq_left', exists_eq_left, keyOf, implies_true, fillC, capOf]
  refine callK_of (g_distances hH.1.1 hH.1.2.1 hp (Live.newj (j := 3) (b := .row (intL (topsOf x y cs)) true 1) rfl).has htl (topsOf_low hH)) ?_
  rw [show farFrom (x * y).toNat (fun q => stepsOf x y (topsOf x y cs) q s) p = spreadOf x y cs p s from rfl]
  simp (disch := omega) only [↓SXd, SXu, slBounds, ↓sop, ↓aop, ↓reduceIte, LV.cells, AOp.dst, LV.I, LV.B, LV.U, LV.S, LV.nil, Nat.reduceEqDiff, Nat.reduceAdd, Nat.reduceMul, Nat.reduceSub, Nat.reduceLeDiff, Nat.reduceBEq, Nat.reduceDiv, Nat.reduceMod, Int.reduceToNat, Int.reduceLT, Int.reduceLE, Int.reduceAdd, Int.reduceSub, Int.reduceMul, Int.reduceEq, Int.reduceNeg, reduceCtorEq, resV, resAll, ARes.ev, LV.flat, ite_true, ite_false, exists_eq_left', exists_eq_left, keyOf, implies_true, fillC, capOf]
  refine ev_loop (fun m fr M' => ∃ (k u : Nat) (acc : List Int), k + m = (x * y).toNat ∧ Pre M M' ∧ Live M' (M.length + 4) (.row (intL (spreadOf x y cs p s)) true 1) ∧ M.length ≤ u ∧ u ≠ M.length + 4 ∧ Live M' u (.row (intL acc) true 1) ∧
    fr 8 = .ref u 0 acc.length ∧ fr 22 = .ref (M.length + 4) 0 (x * y).toNat ∧ fr 23 = .I ((x * y).toNat : Nat) ∧ fr 24 = .I k ∧ acc = (nums k).filter (fun q => decide (0 ≤ (spreadOf x y cs p s).getD q.toNat 0))) (x * y).toNat
    ⟨0, M.length + 2, [], by omega, Pre.app _ _, Live.newj rfl, by omega, by omega, Live.newj rfl, rfl, rfl, rfl, rfl, rfl⟩ ?_
  rintro m fr M' ⟨k, u, acc, hk, hpre, hsp, hu, hun, hout, h8, h22, h23, h24, hacc⟩
  simp (disch := omega) only [h8, h22, h23, h24, ↓SXd, SXu, slBounds, ↓sop, ↓aop, ↓reduceIte, LV.cells, AOp.dst, LV.I, LV.B, LV.U, LV.S, LV.nil, Nat.reduceEqDiff, Nat.reduceAdd, Nat.reduceMul, Nat.reduceSub, Nat.reduceLeDiff, Nat.reduceBEq, Nat.reduceDiv, Nat.reduceMod, Int.reduceToNat, Int.reduceLT, Int.reduceLE, Int.reduceAdd, Int.reduceSub, Int.reduceMul, Int.reduceEq, Int.reduceNeg, reduceCtorEq, resV, resAll, ARes.ev, LV.flat, ite_true, ite_false, exists_eq_left', exists_eq_left, keyOf, implies_true, fillC, capOf]
  refine condC_dec (fun hlt => ?_) (fun hlt => ?_)
  · have hal : acc.length ≤ 1000 := by
      rw [hacc]
      have := List.length_filter_le (fun q => decide (0 ≤ (spreadOf x y cs p s).getD q.toNat 0)) (nums k)
      rw [nums_len] at this
      omega
    simp (disch := omega) only [h8, h22, h23, h24, hsp.cell, intL_get, ↓SXd, SXu, slBounds, ↓sop, ↓aop, ↓reduceIte, LV.cells, AOp.dst, LV.I, LV.B, LV.U, LV.S, LV.nil, Nat.reduceEqDiff, Nat.reduceAdd, Nat.reduceMul, Nat.reduceSub, Nat.reduceLeDiff, Nat.reduceBEq, Nat.reduceDiv, Nat.reduceMod, Int.reduceToNat, Int.reduceLT, Int.reduceLE, Int.reduceAdd, Int.reduceSub, Int.reduceMul, Int.reduceEq, Int.reduceNeg, reduceCtorEq, resV, resAll, ARes.ev, LV.flat, ite_true, ite_false, exists_eq_left', exists_eq_left, keyOf, implies_true, fillC, capOf]
    refine condC_dec (fun he => ?_) (fun he => ?_)
    · simp (disch := omega) only [h8, h22, h23, h24, ↓SXd, SXu, slBounds, ↓sop, ↓aop, ↓reduceIte, LV.cells, AOp.dst, LV.I, LV.B, LV.U, LV.S, LV.nil, Nat.reduceEqDiff, Nat.reduceAdd, Nat.reduceMul, Nat.reduceSub, Nat.reduceLeDiff, Nat.reduceBEq, Nat.reduceDiv, Nat.reduceMod, Int.reduceToNat, Int.reduceLT, Int.reduceLE, Int.reduceAdd, Int.reduceSub, Int.reduceMul, Int.reduceEq, Int.reduceNeg, reduceCtorEq, resV, resAll, ARes.ev, LV.flat, ite_true, ite_false, exists_eq_left', exists_eq_left, keyOf, implies_true, fillC, capOf]
      refine appendK_int hout (by omega) fun M'' l1 l2 l3 => ?_
      simp (disch := omega) only [h8, h22, h23, h24, ↓SXd, SXu, slBounds, ↓sop, ↓aop, ↓reduceIte, LV.cells, AOp.dst, LV.I, LV.B, LV.U, LV.S, LV.nil, Nat.reduceEqDiff, Nat.reduceAdd, Nat.reduceMul, Nat.reduceSub, Nat.reduceLeDiff, Nat.reduceBEq, Nat.reduceDiv, Nat.reduceMod, Int.reduceToNat, Int.reduceLT, Int.reduceLE, Int.reduceAdd, Int.reduceSub, Int.reduceMul, Int.reduceEq, Int.reduceNeg, reduceCtorEq, resV, resAll, ARes.ev, LV.flat, ite_true, ite_false, exists_eq_left', exists_eq_left, keyOf, implies_true, fillC, capOf]
      refine ⟨m - 1, by omega, k + 1, _, _, by omega, pre_step hpre hu l1 l3, live_step hsp (by omega) l3, ?_, ?_, l2, rfl, h22, h23, eqI (natI _), ?_⟩
      · have := hpre.1; omega
      · have := hsp.lt; omega
      · rw [nums_succ, List.filter_append, ← hacc]
        congr 1
        rw [List.filter_cons_of_pos (by simpa using he)]; rfl
    · simp (disch := omega) only [h8, h22, h23, h24, ↓SXd, SXu, slBounds, ↓sop, ↓aop, ↓reduceIte, LV.cells, AOp.dst, LV.I, LV.B, LV.U, LV.S, LV.nil, Nat.reduceEqDiff, Nat.reduceAdd, Nat.reduceMul, Nat.reduceSub, Nat.reduceLeDiff, Nat.reduceBEq, Nat.reduceDiv, Nat.reduceMod, Int.reduceToNat, Int.reduceLT, Int.reduceLE, Int.reduceAdd, Int.reduceSub, Int.reduceMul, Int.reduceEq, Int.reduceNeg, reduceCtorEq, resV, resAll, ARes.ev, LV.flat, ite_true, ite_false, exists_eq_left', exists_eq_left, keyOf, implies_true, fillC, capOf]
      refine ⟨m - 1, by omega, k + 1, u, acc, by omega, hpre, hsp, hu, hun, hout, h8, h22, h23, eqI (natI _), ?_⟩
      rw [nums_succ, List.filter_append, ← hacc, List.filter_cons_of_neg (by simpa using he)]; simp
  · simp (disch := omega) only [h8, h22, h23, h24, ↓SXd, SXu, slBounds, ↓sop, ↓aop, ↓reduceIte, LV.cells, AOp.dst, LV.I, LV.B, LV.U, LV.S, LV.nil, Nat.reduceEqDiff, Nat.reduceAdd, Nat.reduceMul, Nat.reduceSub, Nat.reduceLeDiff, Nat.reduceBEq, Nat.reduceDiv, Nat.reduceMod, Int.reduceToNat, Int.reduceLT, Int.reduceLE, Int.reduceAdd, Int.reduceSub, Int.reduceMul, Int.reduceEq, Int.reduceNeg, reduceCtorEq, resV, resAll, ARes.ev, LV.flat, ite_true, ite_false, exists_eq_left', exists_eq_left, keyOf, implies_true, fillC, capOf]
    have : k = (x * y).toNat := by omega
    subst this
    rw [show regionOf x y cs p s = acc from hacc.symm]
    exact cmp_keepL hpre hu hout (intL_lo acc) (by simp [rn, rn0, rn1])

/-- The closure of CountRegions. -/
theorem g_count1 {d : Int} {M : Mem} : CallsTo PG F.impl_CountRegions_1 [.I d] M (.B (decide (0 ≤ d))) M := by
  refine calls_run K.impl_CountRegions_1 rfl ?_
  simp (disch := omega) only [C.impl_CountRegions_1, ↓SXd, SXu, slBounds, ↓sop, ↓aop, ↓reduceIte, LV.cells, AOp.dst, LV.I, LV.B, LV.U, LV.S, LV.nil, Nat.reduceEqDiff, Nat.reduceAdd, Nat.reduceMul, Nat.reduceSub, Nat.reduceLeDiff, Nat.reduceBEq, Nat.reduceDiv, Nat.reduceMod, Int.reduceToNat, Int.reduceLT, Int.reduceLE, Int.reduceAdd, Int.reduceSub, Int.reduceMul, Int.reduceEq, Int.reduceNeg, reduceCtorEq, resV, resAll, ARes.ev, LV.flat, ite_true, ite_false, exists_eq_left', exists_eq_left, keyOf, implies_true, fillC, capOf]
  exact cmp_drop0 rfl

/-- The first column of a region is the first that can be come to. -/
theorem first_region {x y : Int} {cs : List Cell} {p s : Int} (hp : 0 ≤ p ∧ p ≤ x * y - 1) : idxF (fun d => decide (0 ≤ d)) (spreadOf x y cs p s) = (regionOf x y cs p s).getD 0 0 := by
  have hsl := spreadOf_len (cs := cs) (s := s) hp
  have hr := regionOf_self (cs := cs) (s := s) hp
  rcases idxF_cases (fun d => decide (0 ≤ d)) (spreadOf x y cs p s) with ⟨_, hall⟩ | ⟨k, hk, he, hbef, hat⟩
  · exfalso
    unfold regionOf at hr
    rw [List.mem_filter] at hr
    have := hall p.toNat (by omega)
    rw [this] at hr
    cases hr.2
  · rw [he]
    unfold regionOf
    have hsplit : nums (x * y).toNat = nums k ++ (k : Int) :: ((List.range' (k + 1) ((x * y).toNat - (k + 1))).map Int.ofNat) := by
      unfold nums
      have : List.range (x * y).toNat = List.range k ++ k :: List.range' (k + 1) ((x * y).toNat - (k + 1)) := by
        rw [List.range_eq_range', List.range_eq_range']
        obtain ⟨m, hm⟩ : ∃ m, (x * y).toNat = k + (m + 1) := ⟨(x * y).toNat - k - 1, by omega⟩
        rw [hm, ← List.range'_append_1, List.range'_succ]
        simp
        congr 2
        omega
      rw [this]; simp
    rw [hsplit, List.filter_append, List.filter_cons_of_pos (by simpa using hat)]
    have : (nums k).filter (fun q => decide (0 ≤ (spreadOf x y cs p s).getD q.toNat 0)) = [] := by
      rw [List.filter_eq_nil_iff]
      intro q hq
      obtain ⟨j, hj, rfl⟩ := List.mem_map.1 hq
      have := hbef j (List.mem_range.1 hj)
      simpa using this
    rw [this]; rfl

theorem g_CountRegions {x y z s : Int} {t o : Nat} {cs : List Cell} {M : Mem} (h : Tri M t o cs) (hn : cs.length ≤ 1000000000) :
    CallsTo PG F.impl_CountRegions [.agg [.I x, .I y, .I z, .ref t o cs.length], .I s] M (.tup [.I ((rcOf x y z cs s).getD 0), .B (rcOf x y z cs s).isSome]) M := by
  refine calls_run K.impl_CountRegions rfl ?_
  simp (disch := omega) only [C.impl_CountRegions, ↓SXd, SXu, slBounds, ↓sop, ↓aop, ↓reduceIte, LV.cells, AOp.dst, LV.I, LV.B, LV.U, LV.S, LV.nil, Nat.reduceEqDiff, Nat.reduceAdd, Nat.reduceMul, Nat.reduceSub, Nat.reduceLeDiff, Nat.reduceBEq, Nat.reduceDiv, Nat.reduceMod, Int.reduceToNat, Int.reduceLT, Int.reduceLE, Int.reduceAdd, Int.reduceSub, Int.reduceMul, Int.reduceEq, Int.reduceNeg, reduceCtorEq, resV, resAll, ARes.ev, LV.flat, ite_true, ite_false, exists_eq_left', exists_eq_left, keyOf, implies_true, fillC, capOf]
  refine callK_of (g_isTop_nil h.app hn) ?_
  unfold rcOf
  by_cases hH : HeapOK x y z cs ∧ 0 ≤ s
  · have hb := mul_bound hH.1.1.1 hH.1.1.2.1
    have htl := topsOf_len x y cs
    rw [if_pos hH]
    simp (disch := omega) only [hH, ↓SXd, SXu, slBounds, ↓sop, ↓aop, ↓reduceIte, LV.cells, AOp.dst, LV.I, LV.B, LV.U, LV.S, LV.nil, Nat.reduceEqDiff, Nat.reduceAdd, Nat.reduceMul, Nat.reduceSub, Nat.reduceLeDiff, Nat.reduceBEq, Nat.reduceDiv, Nat.reduceMod, Int.reduceToNat, Int.reduceLT, Int.reduceLE, Int.reduceAdd, Int.reduceSub, Int.reduceMul, Int.reduceEq, Int.reduceNeg, reduceCtorEq, resV, resAll, ARes.ev, LV.flat, ite_true, ite_false, exists_eq_left', exists_eq_left, keyOf, implies_true, fillC, capOf]
    refine callK_of (g_top h.app hn hH.1) ?_
    simp (disch := omega) only [↓SXd, SXu, slBounds, ↓sop, ↓aop, ↓reduceIte, LV.cells, AOp.dst, LV.I, LV.B, LV.U, LV.S, LV.nil, Nat.reduceEqDiff, Nat.reduceAdd, Nat.reduceMul, Nat.reduceSub, Nat.reduceLeDiff, Nat.reduceBEq, Nat.reduceDiv, Nat.reduceMod, Int.reduceToNat, Int.reduceLT, Int.reduceLE, Int.reduceAdd, Int.reduceSub, Int.reduceMul, Int.reduceEq, Int.reduceNeg, reduceCtorEq, resV, resAll, ARes.ev, LV.flat, ite_true, ite_false, exists_eq_left', exists_eq_left, keyOf, implies_true, fillC, capOf]
    refine ev_loop (fun m fr M' => ∃ k : Nat, k + m = (x * y).toNat ∧ Pre M M' ∧ Live M' (M.length + 1) (.row (intL (topsOf x y cs)) true 1) ∧ Live M' (M.length + 2) (.row [.ref (M.length + 1) 0 (x * y).toNat, .I y] true 0) ∧
      fr 1 = .I s ∧ fr 7 = .ptr (M.length + 2) 0 ∧ fr 17 = .I ((x * y).toNat : Nat) ∧ fr 18 = .I k ∧
      fr 6 = .I (((nums k).filter fun p => decide ((regionOf x y cs p s).getD 0 0 = p)).length : Nat)) (x * y).toNat ⟨0, by omega, Pre.app _ _, Live.newj rfl, Live.newj rfl, rfl, rfl, rfl, rfl, rfl⟩ ?_
    rintro m fr M' ⟨k, hk, hpre, htop, hbox, h1, h7, h17, h18, h6⟩
    simp (disch := omega) only [h1, h6, h7, h17, h18, ↓SXd, SXu, slBounds, ↓sop, ↓aop, ↓reduceIte, LV.cells, AOp.dst, LV.I, LV.B, LV.U, LV.S, LV.nil, Nat.reduceEqDiff, Nat.reduceAdd, Nat.reduceMul, Nat.reduceSub, Nat.reduceLeDiff, Nat.reduceBEq, Nat.reduceDiv, Nat.reduceMod, Int.reduceToNat, Int.reduceLT, Int.reduceLE, Int.reduceAdd, Int.reduceSub, Int.reduceMul, Int.reduceEq, Int.reduceNeg, reduceCtorEq, resV, resAll, ARes.ev, LV.flat, ite_true, ite_false, exists_eq_left', exists_eq_left, keyOf, implies_true, fillC, capOf]
    refine condC_dec (fun hlt => ?_) (fun hlt => ?_)
    · have hcl := List.length_filter_le (fun p => decide ((regionOf x y cs p s).getD 0 0 = p)) (nums k)
      rw [nums_len] at hcl
      simp (disch := omega) only [h1, h6, h7, h17, h18, hbox.cells, ↓SXd, SXu, slBounds, ↓sop, ↓aop, ↓reduceIte, LV.cells, AOp.dst, LV.I, LV.B, LV.U, LV.S, LV.nil, Nat.reduceEqDiff, Nat.reduceAdd, Nat.reduceMul, Nat.reduceSub, Nat.reduceLeDiff, Nat.reduceBEq, Nat.reduceDiv, Nat.reduceMod, Int.reduceToNat, Int.reduceLT, Int.reduceLE, Int.reduceAdd, Int.reduceSub, Int.reduceMul, Int.reduceEq, Int.reduceNeg, reduceCtorEq, resV, resAll, ARes.ev, LV.flat, ite_true, ite_false, exists_eq_left', exists_eq_left, keyOf, implies_true, fillC, capOf]
      refine callK_of (g_distances hH.1.1.1 hH.1.1.2.1 (by omega) htop.has htl (topsOf_low hH.1)) ?_
      rw [show farFrom (x * y).toNat (fun q => stepsOf x y (topsOf x y cs) q s) (k : Int) = spreadOf x y cs k s from rfl]
      have hsl := spreadOf_len (x := x) (y := y) (cs := cs) (s := s) (p := (k : Int)) (by omega)
      simp (disch := omega) only [h1, h6, h7, h17, h18, ↓SXd, SXu, slBounds, ↓sop, ↓aop, ↓reduceIte, LV.cells, AOp.dst, LV.I, LV.B, LV.U, LV.S, LV.nil, Nat.reduceEqDiff, Nat.reduceAdd, Nat.reduceMul, Nat.reduceSub, Nat.reduceLeDiff, Nat.reduceBEq, Nat.reduceDiv, Nat.reduceMod, Int.reduceToNat, Int.reduceLT, Int.reduceLE, Int.reduceAdd, Int.reduceSub, Int.reduceMul, Int.reduceEq, Int.reduceNeg, reduceCtorEq, resV, resAll, ARes.ev, LV.flat, ite_true, ite_false, exists_eq_left', exists_eq_left, keyOf, implies_true, fillC, capOf]
      have hidx := g_IndexFunc (t := M'.length) (o := 0) (xs := spreadOf x y cs k s) (f := F.impl_CountRegions_1) (caps := []) (pr := fun d => decide (0 ≤ d)) (M := M' ++ [some (.row (intL (spreadOf x y cs k s)) true 1)]) (Live.new).has (by omega) (fun j hj => g_count1)
      rw [hsl, first_region (by omega)] at hidx
      refine callK_of hidx ?_
      simp (disch := omega) only [h1, h6, h7, h17, h18, ↓SXd, SXu, slBounds, ↓sop, ↓aop, ↓reduceIte, LV.cells, AOp.dst, LV.I, LV.B, LV.U, LV.S, LV.nil, Nat.reduceEqDiff, Nat.reduceAdd, Nat.reduceMul, Nat.reduceSub, Nat.reduceLeDiff, Nat.reduceBEq, Nat.reduceDiv, Nat.reduceMod, Int.reduceToNat, Int.reduceLT, Int.reduceLE, Int.reduceAdd, Int.reduceSub, Int.reduceMul, Int.reduceEq, Int.reduceNeg, reduceCtorEq, resV, resAll, ARes.ev, LV.flat, ite_true, ite_false, exists_eq_left', exists_eq_left, keyOf, implies_true, fillC, capOf]
      refine condC_dec (fun he => ?_) (fun he => ?_)
      · simp (disch := omega) only [h1, h6, h7, h17, h18, ↓SXd, SXu, slBounds, ↓sop, ↓aop, ↓reduceIte, LV.cells, AOp.dst, LV.I, LV.B, LV.U, LV.S, LV.nil, Nat.reduceEqDiff, Nat.reduceAdd, Nat.reduceMul, Nat.reduceSub, Nat.reduceLeDiff, Nat.reduceBEq, Nat.reduceDiv, Nat.reduceMod, Int.reduceToNat, Int.reduceLT, Int.reduceLE, Int.reduceAdd, Int.reduceSub, Int.reduceMul, Int.reduceEq, Int.reduceNeg, reduceCtorEq, resV, resAll, ARes.ev, LV.flat, ite_true, ite_false, exists_eq_left', exists_eq_left, keyOf, implies_true, fillC, capOf]
        refine ⟨m - 1, by omega, k + 1, by omega, Pre.app' hpre, htop.app, hbox.app, h1, h7, h17, eqI (natI _), eqI ?_⟩
        rw [nums_succ, List.filter_append, List.filter_cons_of_pos (by simpa using he), List.length_append]
        rfl
      · simp (disch := omega) only [h1, h6, h7, h17, h18, ↓SXd, SXu, slBounds, ↓sop, ↓aop, ↓reduceIte, LV.cells, AOp.dst, LV.I, LV.B, LV.U, LV.S, LV.nil, Nat.reduceEqDiff, Nat.reduceAdd, Nat.reduceMul, Nat.reduceSub, Nat.reduceLeDiff, Nat.reduceBEq, Nat.reduceDiv, Nat.reduceMod, Int.reduceToNat, Int.reduceLT, Int.reduceLE, Int.reduceAdd, Int.reduceSub, Int.reduceMul, Int.reduceEq, Int.reduceNeg, reduceCtorEq, resV, resAll, ARes.ev, LV.flat, ite_true, ite_false, exists_eq_left', exists_eq_left, keyOf, implies_true, fillC, capOf]
        refine ⟨m - 1, by omega, k + 1, by omega, Pre.app' hpre, htop.app, hbox.app, h1, h7, h17, eqI (natI _), ?_⟩
        rw [nums_succ, List.filter_append, List.filter_cons_of_neg (by simpa using he), List.filter_nil, List.append_nil]
        exact h6
    · simp (disch := omega) only [h1, h6, h7, h17, h18, ↓SXd, SXu, slBounds, ↓sop, ↓aop, ↓reduceIte, LV.cells, AOp.dst, LV.I, LV.B, LV.U, LV.S, LV.nil, Nat.reduceEqDiff, Nat.reduceAdd, Nat.reduceMul, Nat.reduceSub, Nat.reduceLeDiff, Nat.reduceBEq, Nat.reduceDiv, Nat.reduceMod, Int.reduceToNat, Int.reduceLT, Int.reduceLE, Int.reduceAdd, Int.reduceSub, Int.reduceMul, Int.reduceEq, Int.reduceNeg, reduceCtorEq, resV, resAll, ARes.ev, LV.flat, ite_true, ite_false, exists_eq_left', exists_eq_left, keyOf, implies_true, fillC, capOf]
      have : k = (x * y).toNat := by omega
      subst this
      exact cmp_pre hpre rfl
  · rw [if_neg hH]
    simp (disch := omega) only [hH, ↓SXd, SXu, slBounds, ↓sop, ↓aop, ↓reduceIte, LV.cells, AOp.dst, LV.I, LV.B, LV.U, LV.S, LV.nil, Nat.reduceEqDiff, Nat.reduceAdd, Nat.reduceMul, Nat.reduceSub, Nat.reduceLeDiff, Nat.reduceBEq, Nat.reduceDiv, Nat.reduceMod, Int.reduceToNat, Int.reduceLT, Int.reduceLE, Int.reduceAdd, Int.reduceSub, Int.reduceMul, Int.reduceEq, Int.reduceNeg, reduceCtorEq, resV, resAll, ARes.ev, LV.flat, ite_true, ite_false, exists_eq_left', exists_eq_left, keyOf, implies_true, fillC, capOf]
    exact cmp_drop rfl
end Go.Ab

/- Plain words: what a spread tells: the least number of steps. -/
namespace Go.Ab

/-- What is known of column v. -/
def dist (st : List Int × List Int) (v : Int) : Int := st.1.getD v.toNat 0

structure FInv (c : Nat) (N : Int → List Int) (p : Int) (n : Nat) (st : List Int × List Int) : Prop where
  base : BInv c st
  here : dist st p = 0
  nonneg : ∀ i, i < st.2.length → 0 ≤ dist st (st.2.getD i 0)
  listed : ∀ v : Int, 0 ≤ v → v < c → 0 ≤ dist st v → ∃ i, i < st.2.length ∧ st.2.getD i 0 = v
  sorted : ∀ i j, i ≤ j → j < st.2.length → dist st (st.2.getD i 0) ≤ dist st (st.2.getD j 0)
  parent : ∀ v : Int, 0 ≤ v → v < c → 0 < dist st v → ∃ a : Int, (0 ≤ a ∧ a < c) ∧ v ∈ N a ∧ 0 ≤ dist st a ∧ dist st v = dist st a + 1
  root : ∀ v : Int, 0 ≤ v → v < c → dist st v = 0 → v = p
  done : ∀ i, i < n → i < st.2.length → ∀ b ∈ N (st.2.getD i 0), 0 ≤ dist st b ∧ dist st b ≤ dist st (st.2.getD i 0) + 1

/-- One more neighbour of the column at place n. -/
theorem FInv.visit1 {c : Nat} {N : Int → List Int} {p a q : Int} {n : Nat} {st : List Int × List Int} (h : FInv c N p n st) (hn : n < st.2.length) (ha : st.2.getD n 0 = a) (hb : ∀ i, i < st.2.length → dist st (st.2.getD i 0) ≤ dist st a + 1)
    (hq : 0 ≤ q ∧ q < c) (hqa : q ∈ N a) : FInv c N p n (visit a st q) ∧ n < (visit a st q).2.length ∧ (visit a st q).2.getD n 0 = a ∧ (∀ i, i < (visit a st q).2.length → dist (visit a st q) ((visit a st q).2.getD i 0) ≤ dist (visit a st q) a + 1) ∧
    (0 ≤ dist (visit a st q) q ∧ dist (visit a st q) q ≤ dist (visit a st q) a + 1) ∧ (∀ v : Int, 0 ≤ dist st v → dist (visit a st q) v = dist st v) := by
  have hac := h.base.mem a (by rw [← ha]; exact getD_mem hn)
  have ha0 := h.nonneg n hn
  rw [ha] at ha0
  have hbase := h.base.visit hac hq
  by_cases hlt : st.1.getD q.toNat 0 < 0
  · have hv : visit a st q = (st.1.set q.toNat (st.1.getD a.toNat 0 + 1), st.2 ++ [q]) := by unfold Go.Ab.visit; rw [if_pos hlt]
    have hql : q.toNat < st.1.length := by rw [h.base.len]; omega
    rw [hv] at hbase ⊢
    have hd : ∀ v : Int, dist (st.1.set q.toNat (st.1.getD a.toNat 0 + 1), st.2 ++ [q]) v = if v.toNat = q.toNat then dist st a + 1 else dist st v := fun v => by
      unfold dist; rw [getD_set]
      by_cases e : v.toNat = q.toNat
      · rw [if_pos ⟨e, hql⟩, if_pos e]
      · rw [if_neg (fun h => e h.1), if_neg e]
    have hold : ∀ v : Int, 0 ≤ dist st v → dist (st.1.set q.toNat (st.1.getD a.toNat 0 + 1), st.2 ++ [q]) v = dist st v := fun v hv => by
      rw [hd, if_neg]; intro e; unfold dist at hv; rw [e] at hv; omega
    have hqd : dist (st.1.set q.toNat (st.1.getD a.toNat 0 + 1), st.2 ++ [q]) q = dist st a + 1 := by rw [hd, if_pos rfl]
    have hl1 : ∀ i, i < st.2.length → (st.2 ++ [q]).getD i 0 = st.2.getD i 0 := fun i hi => by simp only [List.getD_eq_getElem?_getD]; rw [List.getElem?_append_left hi]
    have hl2 : (st.2 ++ [q]).getD st.2.length 0 = q := by simp
    have hlen : (st.2 ++ [q]).length = st.2.length + 1 := by simp
    have hcase : ∀ i, i < (st.2 ++ [q]).length → i < st.2.length ∨ i = st.2.length := fun i hi => by omega
    refine ⟨⟨hbase, by rw [hold _ (by rw [h.here]; omega)]; exact h.here, fun i hi => ?_, fun v h0 hc hv => ?_, fun i j hij hj => ?_, fun v h0 hc hv => ?_, fun v h0 hc hv => ?_, fun i hi hi' b hb' => ?_⟩, by simp only [hlen]; omega, by rw [hl1 n hn, ha], fun i hi => ?_, ?_, hold⟩
    · rcases hcase i hi with h1 | rfl
      · rw [hl1 i h1, hold _ (h.nonneg i h1)]; exact h.nonneg i h1
      · simp only [hl2]; rw [hqd]; omega
    · rw [hd] at hv
      by_cases e : v.toNat = q.toNat
      · exact ⟨st.2.length, by simp only [hlen]; omega, by rw [hl2]; omega⟩
      · rw [if_neg e] at hv
        obtain ⟨i, h1, h2⟩ := h.listed v h0 hc hv
        exact ⟨i, by simp only [hlen]; omega, by rw [hl1 i h1]; exact h2⟩
    · rcases hcase j hj with h1 | rfl
      · rw [hl1 i (by omega), hl1 j h1, hold _ (h.nonneg i (by omega)), hold _ (h.nonneg j h1)]; exact h.sorted i j hij h1
      · simp only [hl2]; rw [hqd]
        rcases Nat.lt_or_ge i st.2.length with h2 | h2
        · rw [hl1 i h2, hold _ (h.nonneg i h2)]; exact hb i h2
        · rw [show i = st.2.length by omega, hl2, hqd]; omega
    · by_cases e : v.toNat = q.toNat
      · have hvq : v = q := by omega
        subst hvq
        exact ⟨a, hac, hqa, by rw [hold _ ha0]; exact ha0, by rw [hqd, hold _ ha0]⟩
      · rw [hd, if_neg e] at hv
        obtain ⟨b, h1, h2, h3, h4⟩ := h.parent v h0 hc hv
        exact ⟨b, h1, h2, by rw [hold _ h3]; exact h3, by rw [hold _ (by omega), hold _ h3]; exact h4⟩
    · by_cases e : v.toNat = q.toNat
      · rw [hd, if_pos e] at hv; omega
      · rw [hd, if_neg e] at hv; exact h.root v h0 hc hv
    · rw [hl1 i (by omega)] at hb' ⊢
      have h1 := h.done i hi (by omega) b hb'
      rw [hold _ h1.1, hold _ (h.nonneg i (by omega))]; exact h1
    · rw [hold _ ha0]
      rcases hcase i hi with h1 | rfl
      · rw [hl1 i h1, hold _ (h.nonneg i h1)]; exact hb i h1
      · simp only [hl2]; rw [hqd]; exact Int.le_refl _
    · rw [hqd, hold _ ha0]; omega
  · have hv : visit a st q = st := by unfold Go.Ab.visit; rw [if_neg hlt]
    rw [hv]
    obtain ⟨i, h1, h2⟩ := h.listed q hq.1 hq.2 (by unfold dist; omega)
    have := hb i h1
    rw [h2] at this
    exact ⟨h, hn, ha, hb, ⟨by unfold dist; omega, this⟩, fun _ _ => rfl⟩

theorem FInv.fold {c : Nat} {N : Int → List Int} {p a : Int} {n : Nat} (hN : ∀ p q, q ∈ N p → 0 ≤ q ∧ q < (c : Int)) : ∀ (l done : List Int) (st : List Int × List Int), FInv c N p n st → n < st.2.length → st.2.getD n 0 = a → (∀ i, i < st.2.length → dist st (st.2.getD i 0) ≤ dist st a + 1) →
    (∀ q ∈ l, q ∈ N a) → (∀ q ∈ done, 0 ≤ dist st q ∧ dist st q ≤ dist st a + 1) →
    FInv c N p n (l.foldl (Go.Ab.visit a) st) ∧ n < (l.foldl (Go.Ab.visit a) st).2.length ∧ (l.foldl (Go.Ab.visit a) st).2.getD n 0 = a ∧ (∀ i, i < (l.foldl (Go.Ab.visit a) st).2.length → dist (l.foldl (Go.Ab.visit a) st) ((l.foldl (Go.Ab.visit a) st).2.getD i 0) ≤ dist (l.foldl (Go.Ab.visit a) st) a + 1) ∧
    (∀ q, q ∈ done ∨ q ∈ l → 0 ≤ dist (l.foldl (Go.Ab.visit a) st) q ∧ dist (l.foldl (Go.Ab.visit a) st) q ≤ dist (l.foldl (Go.Ab.visit a) st) a + 1) := by
  intro l
  induction l with
  | nil => intro done st h hn ha hb _ hd; exact ⟨h, hn, ha, hb, fun q hq => hd q (by simpa using hq)⟩
  | cons q l ih =>
    intro done st h hn ha hb hl hd
    have hqa := hl q (by simp)
    obtain ⟨h1, h2, h3, h4, h5, h6⟩ := h.visit1 hn ha hb (hN a q hqa) hqa
    have ha0 := h.nonneg n hn
    rw [ha] at ha0
    obtain ⟨k1, k2, k3, k4, k5⟩ := ih (q :: done) _ h1 h2 h3 h4 (fun r hr => hl r (by simp [hr])) (fun r hr => by
      rcases List.mem_cons.1 hr with rfl | hr
      · exact h5
      · rw [h6 _ (hd r hr).1, h6 _ ha0]; exact hd r hr)
    exact ⟨k1, k2, k3, k4, fun r hr => k5 r (by simp only [List.mem_cons] at hr ⊢; rcases hr with h | h | h <;> simp [h])⟩

theorem FInv.next {c : Nat} {N : Int → List Int} {p : Int} {n : Nat} {st : List Int × List Int} (hN : ∀ p q, q ∈ N p → 0 ≤ q ∧ q < (c : Int)) (h : FInv c N p n st) (hn : n < st.2.length) (hb : ∀ i, i < st.2.length → dist st (st.2.getD i 0) ≤ dist st (st.2.getD n 0) + 1) :
    FInv c N p (n + 1) ((N (st.2.getD n 0)).foldl (visit (st.2.getD n 0)) st) ∧ ∀ i, n + 1 < ((N (st.2.getD n 0)).foldl (visit (st.2.getD n 0)) st).2.length → i < ((N (st.2.getD n 0)).foldl (visit (st.2.getD n 0)) st).2.length →
      dist ((N (st.2.getD n 0)).foldl (visit (st.2.getD n 0)) st) (((N (st.2.getD n 0)).foldl (visit (st.2.getD n 0)) st).2.getD i 0) ≤ dist ((N (st.2.getD n 0)).foldl (visit (st.2.getD n 0)) st) (((N (st.2.getD n 0)).foldl (visit (st.2.getD n 0)) st).2.getD (n + 1) 0) + 1 := by
  obtain ⟨k1, k2, k3, k4, k5⟩ := FInv.fold hN (N (st.2.getD n 0)) [] st h hn rfl hb (fun q hq => hq) (fun q hq => by cases hq)
  generalize (N (st.2.getD n 0)).foldl (visit (st.2.getD n 0)) st = st' at k1 k2 k3 k4 k5 ⊢
  refine ⟨⟨k1.base, k1.here, k1.nonneg, k1.listed, k1.sorted, k1.parent, k1.root, fun i hi hi' b hb' => ?_⟩, fun i h1 h2 => ?_⟩
  · rcases Nat.lt_or_ge i n with h3 | h3
    · exact k1.done i h3 hi' b hb'
    · have : i = n := by omega
      subst this
      rw [k3] at hb' ⊢
      exact k5 b (.inr hb')
  · have h3 := k4 i h2
    have h4 := k1.sorted n (n + 1) (by omega) h1
    rw [k3] at h4
    omega

theorem bfs_end {c : Nat} {N : Int → List Int} {p : Int} (hN : ∀ p q, q ∈ N p → 0 ≤ q ∧ q < (c : Int)) : ∀ (f n : Nat) (st : List Int × List Int), f + n = c → FInv c N p n st → (n < st.2.length → ∀ i, i < st.2.length → dist st (st.2.getD i 0) ≤ dist st (st.2.getD n 0) + 1) →
    ∃ m st', bfs N f n st = st'.1 ∧ st'.2.length ≤ m ∧ FInv c N p m st' := by
  intro f
  induction f with
  | zero => intro n st hf h _; exact ⟨n, st, rfl, by have := h.base.le; omega, h⟩
  | succ f ih =>
    intro n st hf h hb
    simp only [bfs]
    split
    · rename_i hn
      obtain ⟨k1, k2⟩ := h.next hN hn (hb hn)
      exact ih (n + 1) _ (by omega) k1 (fun h1 i h2 => k2 i h1 h2)
    · rename_i hn; exact ⟨n, st, rfl, by omega, h⟩

theorem FInv.start {c : Nat} {N : Int → List Int} {p : Int} (hp : 0 ≤ p ∧ p < c) : FInv c N p 0 ((List.replicate c (-1)).set p.toNat 0, [p]) := by
  have hd : ∀ v : Int, 0 ≤ v → v < c → dist ((List.replicate c (-1)).set p.toNat 0, [p]) v = if v = p then 0 else -1 := fun v h0 hc => by
    unfold dist
    simp only [getD_set, List.length_replicate]
    by_cases e : v = p
    · subst e; rw [if_pos ⟨rfl, by omega⟩, if_pos rfl]
    · rw [if_neg (fun h => e (by omega)), if_neg e]
      simp only [List.getD_eq_getElem?_getD, List.getElem?_replicate]
      rw [if_pos (by omega)]; rfl
  refine ⟨BInv.start hp, by rw [hd p hp.1 hp.2, if_pos rfl], fun i hi => ?_, fun v h0 hc hv => ?_, fun i j hij hj => ?_, fun v h0 hc hv => ?_, fun v h0 hc hv => ?_, fun i hi => by omega⟩
  · have : i = 0 := by simp at hi; omega
    subst this
    show 0 ≤ dist _ p
    rw [hd p hp.1 hp.2, if_pos rfl]; exact Int.le_refl 0
  · rw [hd v h0 hc] at hv
    split at hv
    · rename_i e; exact ⟨0, by simp, by simp [e]⟩
    · omega
  · have h1 : j = 0 := by simp at hj; omega
    have h2 : i = 0 := by omega
    subst h1; subst h2; exact Int.le_refl _
  · rw [hd v h0 hc] at hv; split at hv <;> omega
  · rw [hd v h0 hc] at hv; split at hv
    · assumption
    · omega

/-- Steps one behind the other. -/
inductive Way (N : Int → List Int) (p : Int) : Nat → Int → Prop
  | nil : Way N p 0 p
  | snoc {n : Nat} {a b : Int} : Way N p n a → b ∈ N a → Way N p (n + 1) b

theorem Way.cons {N : Int → List Int} {n : Nat} {p a b : Int} (h : b ∈ N p) (w : Way N b n a) : Way N p (n + 1) a := by
  induction w with
  | nil => exact .snoc .nil h
  | snoc _ h' ih => exact .snoc ih h'
theorem Way.in_ {c : Nat} {N : Int → List Int} (hN : ∀ p q, q ∈ N p → 0 ≤ q ∧ q < (c : Int)) {n : Nat} {p a : Int} (w : Way N p n a) (hp : 0 ≤ p ∧ p < c) : 0 ≤ a ∧ a < c := by
  cases w with
  | nil => exact hp
  | snoc _ h => exact hN _ _ h

section
variable {c : Nat} {N : Int → List Int} {p : Int} (hN : ∀ p q, q ∈ N p → 0 ≤ q ∧ q < (c : Int)) (hp : 0 ≤ p ∧ p < c)
include hN hp

theorem far_spec : ∃ st, farFrom c N p = st.1 ∧ FInv c N p st.2.length st := by
  obtain ⟨m, st, h1, h2, h3⟩ := bfs_end hN c 0 _ (by omega) (FInv.start (N := N) hp) (fun _ i hi => by
    have : i = 0 := by simp at hi; omega
    subst this; omega)
  exact ⟨st, h1, ⟨h3.base, h3.here, h3.nonneg, h3.listed, h3.sorted, h3.parent, h3.root, fun i hi hi' => h3.done i (by omega) hi'⟩⟩

theorem far_way {q : Int} (hq : 0 ≤ q ∧ q < c) {n : Nat} (h : (farFrom c N p).getD q.toNat 0 = n) : Way N p n q := by
  obtain ⟨st, h1, h2⟩ := far_spec hN hp
  rw [h1] at h
  have key : ∀ (n : Nat) (v : Int), 0 ≤ v ∧ v < c → dist st v = n → Way N p n v := by
    intro n
    induction n with
    | zero => intro v hv hd; rw [h2.root v hv.1 hv.2 hd]; exact .nil
    | succ n ih =>
      intro v hv hd
      obtain ⟨a, ha, hva, h0, he⟩ := h2.parent v hv.1 hv.2 (by omega)
      exact .snoc (ih a ha (by omega)) hva
  exact key n q hq h

theorem far_le {q : Int} {n : Nat} (w : Way N p n q) : 0 ≤ (farFrom c N p).getD q.toNat 0 ∧ (farFrom c N p).getD q.toNat 0 ≤ n := by
  obtain ⟨st, h1, h2⟩ := far_spec hN hp
  rw [h1]
  have key : ∀ {n : Nat} {q : Int}, Way N p n q → 0 ≤ dist st q ∧ dist st q ≤ n := by
    intro n q w
    induction w with
    | nil => rw [h2.here]; omega
    | snoc w' hb ih =>
      rename_i n' a b
      have hac := w'.in_ hN hp
      obtain ⟨i, hi, he⟩ := h2.listed a hac.1 hac.2 ih.1
      have := h2.done i hi hi b (by rw [he]; exact hb)
      rw [he] at this
      omega
  exact key w

/-- One step nearer. -/
theorem far_nearer {q : Int} (hq : 0 ≤ q ∧ q < c) (h : 0 < (farFrom c N p).getD q.toNat 0) : ∃ a : Int, (0 ≤ a ∧ a < c) ∧ q ∈ N a ∧ (farFrom c N p).getD a.toNat 0 = (farFrom c N p).getD q.toNat 0 - 1 := by
  obtain ⟨st, h1, h2⟩ := far_spec hN hp
  rw [h1] at h ⊢
  obtain ⟨a, ha, hva, h0, he⟩ := h2.parent q hq.1 hq.2 h
  unfold dist at he
  exact ⟨a, ha, hva, by omega⟩
end

/-- There and back it is as far. -/
theorem far_comm {c : Nat} {N : Int → List Int} {p q : Int} (hN : ∀ p q, q ∈ N p → 0 ≤ q ∧ q < (c : Int)) (hs : ∀ a b : Int, (0 ≤ a ∧ a < c) → b ∈ N a → a ∈ N b) (hp : 0 ≤ p ∧ p < c) (hq : 0 ≤ q ∧ q < c) :
    (farFrom c N p).getD q.toNat 0 = (farFrom c N q).getD p.toNat 0 := by
  have hback : ∀ {n : Nat} {p q : Int}, 0 ≤ p ∧ p < c → Way N p n q → Way N q n p := by
    intro n p q hp w
    induction w with
    | nil => exact .nil
    | snoc w' h ih => exact Way.cons (hs _ _ (w'.in_ hN hp) h) ih
  have hv : ∀ {p q : Int}, 0 ≤ p ∧ p < c → 0 ≤ q ∧ q < c → -1 ≤ (farFrom c N p).getD q.toNat 0 := fun {p q} hp hq => ((farFrom_len hN hp).2 q.toNat (by omega)).1
  have key : ∀ {p q : Int}, 0 ≤ p ∧ p < c → 0 ≤ q ∧ q < c → 0 ≤ (farFrom c N p).getD q.toNat 0 → 0 ≤ (farFrom c N q).getD p.toNat 0 ∧ (farFrom c N q).getD p.toNat 0 ≤ (farFrom c N p).getD q.toNat 0 := by
    intro p q hp hq h
    have := far_way hN hp hq (n := ((farFrom c N p).getD q.toNat 0).toNat) (by omega)
    have := far_le hN hq (hback hp this)
    omega
  have h1 := hv hp hq
  have h2 := hv hq hp
  rcases Int.lt_or_le ((farFrom c N p).getD q.toNat 0) 0 with h3 | h3
  · rcases Int.lt_or_le ((farFrom c N q).getD p.toNat 0) 0 with h4 | h4
    · omega
    · have := key hq hp h4; omega
  · have h4 := key hp hq h3
    have h5 := key hq hp h4.1
    omega
end Go.Ab

/- Plain words: least numbers; the grid is one region; walks. -/
namespace Go.Ab

/-- The least number of which f holds. -/
noncomputable def leastN (f : Nat → Prop) : Nat := by
  classical
  exact if h : ∃ k, f k ∧ ∀ j, j < k → ¬ f j then Classical.choose h else 0
theorem leastN_eq {f : Nat → Prop} {k : Nat} (h : f k) (hl : ∀ j, j < k → ¬ f j) : leastN f = k := by
  have hx : ∃ k, f k ∧ ∀ j, j < k → ¬ f j := ⟨k, h, hl⟩
  unfold leastN
  rw [dif_pos hx]
  obtain ⟨h1, h2⟩ := Classical.choose_spec hx
  rcases Nat.lt_trichotomy (Classical.choose hx) k with h3 | h3 | h3
  · exact absurd h1 (hl _ h3)
  · exact h3
  · exact absurd h (h2 _ h3)

theorem nexts_comm {x y p q : Int} (hp : 0 ≤ p ∧ p < x * y) (h : q ∈ nexts x y p) : p ∈ nexts x y q := by
  unfold nexts at *
  rw [List.mem_filter] at *
  refine ⟨List.mem_map.2 ⟨p.toNat, List.mem_range.2 (by omega), by simp only [Int.ofNat_eq_natCast]; omega⟩, ?_⟩
  have h2 := of_decide_eq_true h.2
  refine decide_eq_true ?_
  unfold apart at *
  omega
theorem steps_comm {x y s p q : Int} {ts : List Int} (hp : 0 ≤ p ∧ p < x * y) (h : q ∈ stepsOf x y ts p s) : p ∈ stepsOf x y ts q s := by
  unfold stepsOf at *
  rw [List.mem_filter] at *
  refine ⟨nexts_comm hp h.1, decide_eq_true ?_⟩
  have h2 := of_decide_eq_true h.2
  unfold gap at *
  omega
theorem nexts_ne {x y p : Int} : p ∉ nexts x y p := by
  unfold nexts
  rw [List.mem_filter]
  intro h
  have := of_decide_eq_true h.2
  unfold apart at this
  omega
theorem steps_ne {x y s p : Int} {ts : List Int} : p ∉ stepsOf x y ts p s := fun h => nexts_ne (List.mem_filter.1 h).1

theorem spread_comm {x y : Int} {cs : List Cell} {p q s : Int} (hp : 0 ≤ p ∧ p ≤ x * y - 1) (hq : 0 ≤ q ∧ q ≤ x * y - 1) : (spreadOf x y cs p s).getD q.toNat 0 = (spreadOf x y cs q s).getD p.toNat 0 := by
  unfold spreadOf
  exact far_comm steps_in (fun a b ha h => steps_comm (by omega) h) (by omega) (by omega)

theorem grid_all : ∀ x : Fin 4, ∀ y : Fin 4, ∀ p : Fin 16, (p.val : Int) < ((x.val : Int) + 1) * ((y.val : Int) + 1) → ∀ q : Fin 16, (q.val : Int) < ((x.val : Int) + 1) * ((y.val : Int) + 1) →
    0 ≤ (farFrom (((x.val : Int) + 1) * ((y.val : Int) + 1)).toNat (nexts ((x.val : Int) + 1) ((y.val : Int) + 1)) p.val).getD q.val 0 := by decide +kernel

theorem grid_one {x y p q : Int} (hx : 1 ≤ x ∧ x ≤ 4) (hy : 1 ≤ y ∧ y ≤ 4) (hp : 0 ≤ p ∧ p ≤ x * y - 1) (hq : 0 ≤ q ∧ q ≤ x * y - 1) : 0 ≤ (farFrom (x * y).toNat (nexts x y) p).getD q.toNat 0 := by
  have hb := mul_bound hx hy
  have e1 : (((x - 1).toNat : Nat) : Int) + 1 = x := by omega
  have e2 : (((y - 1).toNat : Nat) : Int) + 1 = y := by omega
  have e3 : ((p.toNat : Nat) : Int) = p := by omega
  have e4 : ((q.toNat : Nat) : Int) = q := by omega
  have := grid_all ⟨(x - 1).toNat, by omega⟩ ⟨(y - 1).toNat, by omega⟩ ⟨p.toNat, by omega⟩
  simp only [e1, e2, e3] at this
  have := this (by omega) ⟨q.toNat, by omega⟩
  simp only [e4] at this
  exact this (by omega)
theorem steps_wide {x y p s : Int} {ts : List Int} (hs : 4 ≤ s) (hlow : ∀ k, 0 ≤ ts.getD k 0 ∧ ts.getD k 0 ≤ 4) : stepsOf x y ts p s = nexts x y p := by
  unfold stepsOf
  rw [List.filter_eq_self]
  intro q _
  have h1 := hlow q.toNat
  have h2 := hlow p.toNat
  refine decide_eq_true ?_
  unfold gap
  omega
end Go.Ab

/- Contracts: distances and least reaches, both sides. -/
namespace Go.Ab
open Go
set_option linter.unusedSimpArgs false
set_option linter.unusedVariables false

theorem h_l10Both {x y z p q s : Int} {t o : Nat} {cs : List Cell} {M : Mem} (h : Tri M t o cs) (hn : cs.length ≤ 1000000000) :
    CallsTo PG F.spec_l10Both [.agg [.I x, .I y, .I z, .ref t o cs.length], .I p, .I q, .I s] M (.B (decide ((HeapOK x y z cs ∧ (0 ≤ p ∧ p ≤ x * y - 1)) ∧ (0 ≤ q ∧ q ≤ x * y - 1) ∧ 0 ≤ s))) M := by
  refine calls_run K.spec_l10Both rfl ?_
  simp (disch := omega) only [C.spec_l10Both, ↓SXd, SXu, slBounds, ↓sop, ↓aop, ↓reduceIte, LV.cells, AOp.dst, LV.I, LV.B, LV.U, LV.S, LV.nil, Nat.reduceEqDiff, Nat.reduceAdd, Nat.reduceMul, Nat.reduceSub, Nat.reduceLeDiff, Nat.reduceBEq, Nat.reduceDiv, Nat.reduceMod, Int.reduceToNat, Int.reduceLT, Int.reduceLE, Int.reduceAdd, Int.reduceSub, Int.reduceMul, Int.reduceEq, Int.reduceNeg, reduceCtorEq, resV, resAll, ARes.ev, LV.flat, ite_true, ite_false, exists_eq_left', exists_eq_left, keyOf, implies_true, fillC, capOf]
  refine callK_of (h_l10Column h.app hn) ?_
  simp (disch := omega) only [↓SXd, SXu, slBounds, ↓sop, ↓aop, ↓reduceIte, LV.cells, AOp.dst, LV.I, LV.B, LV.U, LV.S, LV.nil, Nat.reduceEqDiff, Nat.reduceAdd, Nat.reduceMul, Nat.reduceSub, Nat.reduceLeDiff, Nat.reduceBEq, Nat.reduceDiv, Nat.reduceMod, Int.reduceToNat, Int.reduceLT, Int.reduceLE, Int.reduceAdd, Int.reduceSub, Int.reduceMul, Int.reduceEq, Int.reduceNeg, reduceCtorEq, resV, resAll, ARes.ev, LV.flat, ite_true, ite_false, exists_eq_left', exists_eq_left, keyOf, implies_true, fillC, capOf]
  by_cases h1 : HeapOK x y z cs ∧ (0 ≤ p ∧ p ≤ x * y - 1)
  · simp (disch := omega) only [h1, ↓SXd, SXu, slBounds, ↓sop, ↓aop, ↓reduceIte, LV.cells, AOp.dst, LV.I, LV.B, LV.U, LV.S, LV.nil, Nat.reduceEqDiff, Nat.reduceAdd, Nat.reduceMul, Nat.reduceSub, Nat.reduceLeDiff, Nat.reduceBEq, Nat.reduceDiv, Nat.reduceMod, Int.reduceToNat, Int.reduceLT, Int.reduceLE, Int.reduceAdd, Int.reduceSub, Int.reduceMul, Int.reduceEq, Int.reduceNeg, reduceCtorEq, resV, resAll, ARes.ev, LV.flat, ite_true, ite_false, exists_eq_left', exists_eq_left, keyOf, implies_true, fillC, capOf]
    refine callK_of (h_l10Column h.app hn) ?_
    simp (disch := omega) only [h1, ↓SXd, SXu, slBounds, ↓sop, ↓aop, ↓reduceIte, LV.cells, AOp.dst, LV.I, LV.B, LV.U, LV.S, LV.nil, Nat.reduceEqDiff, Nat.reduceAdd, Nat.reduceMul, Nat.reduceSub, Nat.reduceLeDiff, Nat.reduceBEq, Nat.reduceDiv, Nat.reduceMod, Int.reduceToNat, Int.reduceLT, Int.reduceLE, Int.reduceAdd, Int.reduceSub, Int.reduceMul, Int.reduceEq, Int.reduceNeg, reduceCtorEq, resV, resAll, ARes.ev, LV.flat, ite_true, ite_false, exists_eq_left', exists_eq_left, keyOf, implies_true, fillC, capOf]
    by_cases h2 : 0 ≤ q ∧ q ≤ x * y - 1
    · by_cases h3 : 0 ≤ s
      · have h3' : s ≥ 0 := h3
        simp (disch := omega) only [h1, h2, h3, h3', ↓SXd, SXu, slBounds, ↓sop, ↓aop, ↓reduceIte, LV.cells, AOp.dst, LV.I, LV.B, LV.U, LV.S, LV.nil, Nat.reduceEqDiff, Nat.reduceAdd, Nat.reduceMul, Nat.reduceSub, Nat.reduceLeDiff, Nat.reduceBEq, Nat.reduceDiv, Nat.reduceMod, Int.reduceToNat, Int.reduceLT, Int.reduceLE, Int.reduceAdd, Int.reduceSub, Int.reduceMul, Int.reduceEq, Int.reduceNeg, reduceCtorEq, resV, resAll, ARes.ev, LV.flat, ite_true, ite_false, exists_eq_left', exists_eq_left, keyOf, implies_true, fillC, capOf]
        exact cmp_drop rfl
      · have h3' : ¬ s ≥ 0 := h3
        simp (disch := omega) only [h1, h2, h3, h3', and_false, ↓SXd, SXu, slBounds, ↓sop, ↓aop, ↓reduceIte, LV.cells, AOp.dst, LV.I, LV.B, LV.U, LV.S, LV.nil, Nat.reduceEqDiff, Nat.reduceAdd, Nat.reduceMul, Nat.reduceSub, Nat.reduceLeDiff, Nat.reduceBEq, Nat.reduceDiv, Nat.reduceMod, Int.reduceToNat, Int.reduceLT, Int.reduceLE, Int.reduceAdd, Int.reduceSub, Int.reduceMul, Int.reduceEq, Int.reduceNeg, reduceCtorEq, resV, resAll, ARes.ev, LV.flat, ite_true, ite_false, exists_eq_left', exists_eq_left, keyOf, implies_true, fillC, capOf]
        exact cmp_drop rfl
    · simp (disch := omega) only [h1, h2, false_and, and_false, ↓SXd, SXu, slBounds, ↓sop, ↓aop, ↓reduceIte, LV.cells, AOp.dst, LV.I, LV.B, LV.U, LV.S, LV.nil, Nat.reduceEqDiff, Nat.reduceAdd, Nat.reduceMul, Nat.reduceSub, Nat.reduceLeDiff, Nat.reduceBEq, Nat.reduceDiv, Nat.reduceMod, Int.reduceToNat, Int.reduceLT, Int.reduceLE, Int.reduceAdd, Int.reduceSub, Int.reduceMul, Int.reduceEq, Int.reduceNeg, reduceCtorEq, resV, resAll, ARes.ev, LV.flat, ite_true, ite_false, exists_eq_left', exists_eq_left, keyOf, implies_true, fillC, capOf]
      exact cmp_drop rfl
  · simp (disch := omega) only [h1, false_and, ↓SXd, SXu, slBounds, ↓sop, ↓aop, ↓reduceIte, LV.cells, AOp.dst, LV.I, LV.B, LV.U, LV.S, LV.nil, Nat.reduceEqDiff, Nat.reduceAdd, Nat.reduceMul, Nat.reduceSub, Nat.reduceLeDiff, Nat.reduceBEq, Nat.reduceDiv, Nat.reduceMod, Int.reduceToNat, Int.reduceLT, Int.reduceLE, Int.reduceAdd, Int.reduceSub, Int.reduceMul, Int.reduceEq, Int.reduceNeg, reduceCtorEq, resV, resAll, ARes.ev, LV.flat, ite_true, ite_false, exists_eq_left', exists_eq_left, keyOf, implies_true, fillC, capOf]
    exact cmp_drop rfl

/-- The distance of two columns, or -1. -/
noncomputable def tdOf (x y z : Int) (cs : List Cell) (p q s : Int) : Int := by
  classical
  exact if (HeapOK x y z cs ∧ (0 ≤ p ∧ p ≤ x * y - 1)) ∧ (0 ≤ q ∧ q ≤ x * y - 1) ∧ 0 ≤ s then (spreadOf x y cs p s).getD q.toNat 0 else -1

theorem h_sTopDistance {x y z p q s : Int} {t o : Nat} {cs : List Cell} {M : Mem} (h : Tri M t o cs) (hn : cs.length ≤ 1000000000) :
    CallsTo PG F.spec_TopDistance [.agg [.I x, .I y, .I z, .ref t o cs.length], .I p, .I q, .I s] M (.tup [.I (max (tdOf x y z cs p q s) 0), .B (decide (0 ≤ tdOf x y z cs p q s))]) M := by
  refine calls_run K.spec_TopDistance rfl ?_
  simp (disch := omega) only [C.spec_TopDistance, ↓SXd, SXu, slBounds, ↓sop, ↓aop, ↓reduceIte, LV.cells, AOp.dst, LV.I, LV.B, LV.U, LV.S, LV.nil, Nat.reduceEqDiff, Nat.reduceAdd, Nat.reduceMul, Nat.reduceSub, Nat.reduceLeDiff, Nat.reduceBEq, Nat.reduceDiv, Nat.reduceMod, Int.reduceToNat, Int.reduceLT, Int.reduceLE, Int.reduceAdd, Int.reduceSub, Int.reduceMul, Int.reduceEq, Int.reduceNeg, reduceCtorEq, resV, resAll, ARes.ev, LV.flat, ite_true, ite_false, exists_eq_left', exists_eq_left, keyOf, implies_true, fillC, capOf]
  refine callK_of (h_l10Both h.app hn) ?_
  simp (disch := omega) only [↓SXd, SXu, slBounds, ↓sop, ↓aop, ↓reduceIte, LV.cells, AOp.dst, LV.I, LV.B, LV.U, LV.S, LV.nil, Nat.reduceEqDiff, Nat.reduceAdd, Nat.reduceMul, Nat.reduceSub, Nat.reduceLeDiff, Nat.reduceBEq, Nat.reduceDiv, Nat.reduceMod, Int.reduceToNat, Int.reduceLT, Int.reduceLE, Int.reduceAdd, Int.reduceSub, Int.reduceMul, Int.reduceEq, Int.reduceNeg, reduceCtorEq, resV, resAll, ARes.ev, LV.flat, ite_true, ite_false, exists_eq_left', exists_eq_left, keyOf, implies_true, fillC, capOf]
  unfold tdOf
  by_cases hV : (HeapOK x y z cs ∧ (0 ≤ p ∧ p ≤ x * y - 1)) ∧ (0 ≤ q ∧ q ≤ x * y - 1) ∧ 0 ≤ s
  · obtain ⟨⟨hH, hp⟩, hq, hs⟩ := id hV
    have hb := mul_bound hH.1.1 hH.1.2.1
    have hsl := spreadOf_len (cs := cs) (s := s) hp
    rw [if_pos hV]
    simp (disch := omega) only [hV, ↓SXd, SXu, slBounds, ↓sop, ↓aop, ↓reduceIte, LV.cells, AOp.dst, LV.I, LV.B, LV.U, LV.S, LV.nil, Nat.reduceEqDiff, Nat.reduceAdd, Nat.reduceMul, Nat.reduceSub, Nat.reduceLeDiff, Nat.reduceBEq, Nat.reduceDiv, Nat.reduceMod, Int.reduceToNat, Int.reduceLT, Int.reduceLE, Int.reduceAdd, Int.reduceSub, Int.reduceMul, Int.reduceEq, Int.reduceNeg, reduceCtorEq, resV, resAll, ARes.ev, LV.flat, ite_true, ite_false, exists_eq_left', exists_eq_left, keyOf, implies_true, fillC, capOf]
    refine callK_of (h_l10Spread h.app hn hH hp) ?_
    simp (disch := omega) only [intL_get, ↓SXd, SXu, slBounds, ↓sop, ↓aop, ↓reduceIte, LV.cells, AOp.dst, LV.I, LV.B, LV.U, LV.S, LV.nil, Nat.reduceEqDiff, Nat.reduceAdd, Nat.reduceMul, Nat.reduceSub, Nat.reduceLeDiff, Nat.reduceBEq, Nat.reduceDiv, Nat.reduceMod, Int.reduceToNat, Int.reduceLT, Int.reduceLE, Int.reduceAdd, Int.reduceSub, Int.reduceMul, Int.reduceEq, Int.reduceNeg, reduceCtorEq, resV, resAll, ARes.ev, LV.flat, ite_true, ite_false, exists_eq_left', exists_eq_left, keyOf, implies_true, fillC, capOf]
    refine callK_of (h_l1Most) ?_
    simp (disch := omega) only [↓SXd, SXu, slBounds, ↓sop, ↓aop, ↓reduceIte, LV.cells, AOp.dst, LV.I, LV.B, LV.U, LV.S, LV.nil, Nat.reduceEqDiff, Nat.reduceAdd, Nat.reduceMul, Nat.reduceSub, Nat.reduceLeDiff, Nat.reduceBEq, Nat.reduceDiv, Nat.reduceMod, Int.reduceToNat, Int.reduceLT, Int.reduceLE, Int.reduceAdd, Int.reduceSub, Int.reduceMul, Int.reduceEq, Int.reduceNeg, reduceCtorEq, resV, resAll, ARes.ev, LV.flat, ite_true, ite_false, exists_eq_left', exists_eq_left, keyOf, implies_true, fillC, capOf]
    exact cmp_drop rfl
  · rw [if_neg hV]
    simp (disch := omega) only [hV, ↓SXd, SXu, slBounds, ↓sop, ↓aop, ↓reduceIte, LV.cells, AOp.dst, LV.I, LV.B, LV.U, LV.S, LV.nil, Nat.reduceEqDiff, Nat.reduceAdd, Nat.reduceMul, Nat.reduceSub, Nat.reduceLeDiff, Nat.reduceBEq, Nat.reduceDiv, Nat.reduceMod, Int.reduceToNat, Int.reduceLT, Int.reduceLE, Int.reduceAdd, Int.reduceSub, Int.reduceMul, Int.reduceEq, Int.reduceNeg, reduceCtorEq, resV, resAll, ARes.ev, LV.flat, ite_true, ite_false, exists_eq_left', exists_eq_left, keyOf, implies_true, fillC, capOf]
    exact cmp_drop rfl

theorem g_found {n : Int} {M : Mem} : CallsTo PG F.impl_found [.I n] M (.tup [.I (max n 0), .B (decide (0 ≤ n))]) M := by
  refine calls_run K.impl_found rfl ?_
  simp (disch := omega) only [C.impl_found, maxV, ite_true, if_true, ↓SXd, SXu, slBounds, ↓sop, ↓aop, ↓reduceIte, LV.cells, AOp.dst, LV.I, LV.B, LV.U, LV.S, LV.nil, Nat.reduceEqDiff, Nat.reduceAdd, Nat.reduceMul, Nat.reduceSub, Nat.reduceLeDiff, Nat.reduceBEq, Nat.reduceDiv, Nat.reduceMod, Int.reduceToNat, Int.reduceLT, Int.reduceLE, Int.reduceAdd, Int.reduceSub, Int.reduceMul, Int.reduceEq, Int.reduceNeg, reduceCtorEq, resV, resAll, ARes.ev, LV.flat, ite_true, ite_false, exists_eq_left', exists_eq_left, keyOf, implies_true, fillC, capOf]
  rw [show max 0 n = max n 0 by omega]
  exact cmp_drop0 rfl

theorem all2_iff {p q lo hi : Int} : (∀ k, k < [p, q].length → lo ≤ [p, q].getD k 0 ∧ [p, q].getD k 0 ≤ hi) ↔ (lo ≤ p ∧ p ≤ hi) ∧ (lo ≤ q ∧ q ≤ hi) := by
  constructor
  · intro h; exact ⟨h 0 (by simp), h 1 (by simp)⟩
  · intro h k hk
    match k with
    | 0 => exact h.1
    | 1 => exact h.2
    | k + 2 => simp at hk; omega

theorem g_isTop2 {x y z p q s : Int} {t o t' : Nat} {cs : List Cell} {M : Mem} (h : Tri M t o cs) (hn : cs.length ≤ 1000000000) (h' : Live M t' (.row [.I p, .I q] true 1)) :
    CallsTo PG F.impl_isTop [.agg [.I x, .I y, .I z, .ref t o cs.length], .I s, .ref t' 0 2] M (.B (decide ((HeapOK x y z cs ∧ (0 ≤ p ∧ p ≤ x * y - 1)) ∧ (0 ≤ q ∧ q ≤ x * y - 1) ∧ 0 ≤ s))) M := by
  have := g_isTop (x := x) (y := y) (z := z) (s := s) (xs := [p, q]) h hn (h'.has) (by simp)
  rw [show decide (HeapOK x y z cs ∧ 0 ≤ s ∧ ∀ k, k < [p, q].length → 0 ≤ [p, q].getD k 0 ∧ [p, q].getD k 0 ≤ x * y - 1) = decide ((HeapOK x y z cs ∧ (0 ≤ p ∧ p ≤ x * y - 1)) ∧ (0 ≤ q ∧ q ≤ x * y - 1) ∧ 0 ≤ s) from decide_eq_decide.2 (by
    rw [all2_iff]
    exact ⟨fun h => ⟨⟨h.1, h.2.2.1⟩, h.2.2.2, h.2.1⟩, fun h => ⟨h.1.1, h.2.2, h.1.2, h.2.1⟩⟩)] at this
  exact this

theorem g_TopDistance {x y z p q s : Int} {t o : Nat} {cs : List Cell} {M : Mem} (h : Tri M t o cs) (hn : cs.length ≤ 1000000000) :
    CallsTo PG F.impl_TopDistance [.agg [.I x, .I y, .I z, .ref t o cs.length], .I p, .I q, .I s] M (.tup [.I (max (tdOf x y z cs p q s) 0), .B (decide (0 ≤ tdOf x y z cs p q s))]) M := by
  refine calls_run K.impl_TopDistance rfl ?_
  simp (disch := omega) only [C.impl_TopDistance, splice, ↓SXd, SXu, slBounds, ↓sop, ↓aop, ↓reduceIte, LV.cells, AOp.dst, LV.I, LV.B, LV.U, LV.S, LV.nil, Nat.reduceEqDiff, Nat.reduceAdd, Nat.reduceMul, Nat.reduceSub, Nat.reduceLeDiff, Nat.reduceBEq, Nat.reduceDiv, Nat.reduceMod, Int.reduceToNat, Int.reduceLT, Int.reduceLE, Int.reduceAdd, Int.reduceSub, Int.reduceMul, Int.reduceEq, Int.reduceNeg, reduceCtorEq, resV, resAll, ARes.ev, LV.flat, ite_true, ite_false, exists_eq_left', exists_eq_left, keyOf, implies_true, fillC, capOf]
  refine callK_of (g_isTop2 h.app hn (Live.newj (j := 1) rfl)) ?_
  simp (disch := omega) only [↓SXd, SXu, slBounds, ↓sop, ↓aop, ↓reduceIte, LV.cells, AOp.dst, LV.I, LV.B, LV.U, LV.S, LV.nil, Nat.reduceEqDiff, Nat.reduceAdd, Nat.reduceMul, Nat.reduceSub, Nat.reduceLeDiff, Nat.reduceBEq, Nat.reduceDiv, Nat.reduceMod, Int.reduceToNat, Int.reduceLT, Int.reduceLE, Int.reduceAdd, Int.reduceSub, Int.reduceMul, Int.reduceEq, Int.reduceNeg, reduceCtorEq, resV, resAll, ARes.ev, LV.flat, ite_true, ite_false, exists_eq_left', exists_eq_left, keyOf, implies_true, fillC, capOf]
  unfold tdOf
  by_cases hV : (HeapOK x y z cs ∧ (0 ≤ p ∧ p ≤ x * y - 1)) ∧ (0 ≤ q ∧ q ≤ x * y - 1) ∧ 0 ≤ s
  · obtain ⟨⟨hH, hp⟩, hq, hs⟩ := id hV
    have hb := mul_bound hH.1.1 hH.1.2.1
    have htl := topsOf_len x y cs
    have hsl := spreadOf_len (cs := cs) (s := s) hq
    rw [if_pos hV, spread_comm hp hq]
    simp (disch := omega) only [hV, ↓SXd, SXu, slBounds, ↓sop, ↓aop, ↓reduceIte, LV.cells, AOp.dst, LV.I, LV.B, LV.U, LV.S, LV.nil, Nat.reduceEqDiff, Nat.reduceAdd, Nat.reduceMul, Nat.reduceSub, Nat.reduceLeDiff, Nat.reduceBEq, Nat.reduceDiv, Nat.reduceMod, Int.reduceToNat, Int.reduceLT, Int.reduceLE, Int.reduceAdd, Int.reduceSub, Int.reduceMul, Int.reduceEq, Int.reduceNeg, reduceCtorEq, resV, resAll, ARes.ev, LV.flat, ite_true, ite_false, exists_eq_left', exists_eq_left, keyOf, implies_true, fillC, capOf]
    refine callK_of (g_top h.app hn hH) ?_
    simp (disch := omega) only [↓SXd, SXu, slBounds, ↓sop, ↓aop, ↓reduceIte, LV.cells, AOp.dst, LV.I, LV.B, LV.U, LV.S, LV.nil, Nat.reduceEqDiff, Nat.reduceAdd, Nat.reduceMul, Nat.reduceSub, Nat.reduceLeDiff, Nat.reduceBEq, Nat.reduceDiv, Nat.reduceMod, Int.reduceToNat, Int.reduceLT, Int.reduceLE, Int.reduceAdd, Int.reduceSub, Int.reduceMul, Int.reduceEq, Int.reduceNeg, reduceCtorEq, resV, resAll, ARes.ev, LV.flat, ite_true, ite_false, exists_eq_left', exists_eq_left, keyOf, implies_true, fillC, capOf]
    refine callK_of (g_distances hH.1.1 hH.1.2.1 hq (Live.newj (j := 2) rfl).has htl (topsOf_low hH)) ?_
    simp (disch := omega) only [↓SXd, SXu, slBounds, ↓sop, ↓aop, ↓reduceIte, LV.cells, AOp.dst, LV.I, LV.B, LV.U, LV.S, LV.nil, Nat.reduceEqDiff, Nat.reduceAdd, Nat.reduceMul, Nat.reduceSub, Nat.reduceLeDiff, Nat.reduceBEq, Nat.reduceDiv, Nat.reduceMod, Int.reduceToNat, Int.reduceLT, Int.reduceLE, Int.reduceAdd, Int.reduceSub, Int.reduceMul, Int.reduceEq, Int.reduceNeg, reduceCtorEq, resV, resAll, ARes.ev, LV.flat, ite_true, ite_false, exists_eq_left', exists_eq_left, keyOf, implies_true, fillC, capOf]
    rw [show farFrom (x * y).toNat (fun r => stepsOf x y (topsOf x y cs) r s) q = spreadOf x y cs q s from rfl]
    simp (disch := omega) only [intL_get, ↓SXd, SXu, slBounds, ↓sop, ↓aop, ↓reduceIte, LV.cells, AOp.dst, LV.I, LV.B, LV.U, LV.S, LV.nil, Nat.reduceEqDiff, Nat.reduceAdd, Nat.reduceMul, Nat.reduceSub, Nat.reduceLeDiff, Nat.reduceBEq, Nat.reduceDiv, Nat.reduceMod, Int.reduceToNat, Int.reduceLT, Int.reduceLE, Int.reduceAdd, Int.reduceSub, Int.reduceMul, Int.reduceEq, Int.reduceNeg, reduceCtorEq, resV, resAll, ARes.ev, LV.flat, ite_true, ite_false, exists_eq_left', exists_eq_left, keyOf, implies_true, fillC, capOf]
    refine callK_of (g_found) ?_
    simp (disch := omega) only [↓SXd, SXu, slBounds, ↓sop, ↓aop, ↓reduceIte, LV.cells, AOp.dst, LV.I, LV.B, LV.U, LV.S, LV.nil, Nat.reduceEqDiff, Nat.reduceAdd, Nat.reduceMul, Nat.reduceSub, Nat.reduceLeDiff, Nat.reduceBEq, Nat.reduceDiv, Nat.reduceMod, Int.reduceToNat, Int.reduceLT, Int.reduceLE, Int.reduceAdd, Int.reduceSub, Int.reduceMul, Int.reduceEq, Int.reduceNeg, reduceCtorEq, resV, resAll, ARes.ev, LV.flat, ite_true, ite_false, exists_eq_left', exists_eq_left, keyOf, implies_true, fillC, capOf]
    exact cmp_drop rfl
  · rw [if_neg hV]
    simp (disch := omega) only [hV, ↓SXd, SXu, slBounds, ↓sop, ↓aop, ↓reduceIte, LV.cells, AOp.dst, LV.I, LV.B, LV.U, LV.S, LV.nil, Nat.reduceEqDiff, Nat.reduceAdd, Nat.reduceMul, Nat.reduceSub, Nat.reduceLeDiff, Nat.reduceBEq, Nat.reduceDiv, Nat.reduceMod, Int.reduceToNat, Int.reduceLT, Int.reduceLE, Int.reduceAdd, Int.reduceSub, Int.reduceMul, Int.reduceEq, Int.reduceNeg, reduceCtorEq, resV, resAll, ARes.ev, LV.flat, ite_true, ite_false, exists_eq_left', exists_eq_left, keyOf, implies_true, fillC, capOf]
    exact cmp_drop rfl
end Go.Ab

/- Contracts: least reaches, both sides. -/
namespace Go.Ab
open Go
set_option linter.unusedSimpArgs false
set_option linter.unusedVariables false

theorem topsOf_low4 {x y z : Int} {cs : List Cell} (hH : HeapOK x y z cs) : ∀ k, 0 ≤ (topsOf x y cs).getD k 0 ∧ (topsOf x y cs).getD k 0 ≤ 4 := by
  have hz := hH.1.2.2
  have key : ∀ k, k ≤ cs.length → ∀ j, 0 ≤ ((cs.take k).foldl (topStep y) (List.replicate (x * y).toNat 0)).getD j 0 ∧ ((cs.take k).foldl (topStep y) (List.replicate (x * y).toNat 0)).getD j 0 ≤ 4 := by
    intro k
    induction k with
    | zero =>
      intro _ j
      simp only [List.take_zero, List.foldl_nil, List.getD_eq_getElem?_getD, List.getElem?_replicate]
      split <;> simp
    | succ k ih =>
      intro hk j
      rw [take_succ_foldl _ _ _ _ default (by omega)]
      have h1 := ih (by omega)
      obtain ⟨_, _, hc⟩ := hH.cell (k := k) (by omega)
      generalize (cs.take k).foldl (topStep y) (List.replicate (x * y).toNat 0) = out at h1 ⊢
      unfold topStep
      rw [getD_set]
      have h2 := h1 ((cs.getD k default).a * y + (cs.getD k default).b).toNat
      have h3 := h1 j
      split <;> omega
  intro k
  have := key cs.length (Nat.le_refl _) k
  rw [List.take_length] at this
  exact this

/-- Column q is reached from p at the reach s. -/
def Near' (x y : Int) (cs : List Cell) (p q : Int) (s : Nat) : Prop := 0 ≤ (spreadOf x y cs p s).getD q.toNat 0
theorem near4 {x y z p q : Int} {cs : List Cell} {s : Nat} (hH : HeapOK x y z cs) (hp : 0 ≤ p ∧ p ≤ x * y - 1) (hq : 0 ≤ q ∧ q ≤ x * y - 1) (hs : 4 ≤ s) : Near' x y cs p q s := by
  unfold Near' spreadOf
  rw [show (fun r => stepsOf x y (topsOf x y cs) r (s : Int)) = nexts x y from funext fun r => steps_wide (by omega) (topsOf_low4 hH)]
  exact grid_one hH.1.1 hH.1.2.1 hp hq

/-- What LeastReach answers. -/
noncomputable def reachOf (x y z : Int) (cs : List Cell) (p q : Int) : Option Nat := by
  classical
  exact if (HeapOK x y z cs ∧ (0 ≤ p ∧ p ≤ x * y - 1)) ∧ (0 ≤ q ∧ q ≤ x * y - 1) then some (leastN (Near' x y cs p q)) else none

theorem h_sLeastReach {x y z p q : Int} {t o : Nat} {cs : List Cell} {M : Mem} (h : Tri M t o cs) (hn : cs.length ≤ 1000000000) :
    CallsTo PG F.spec_LeastReach [.agg [.I x, .I y, .I z, .ref t o cs.length], .I p, .I q] M (.tup [.I ((reachOf x y z cs p q).getD 0 : Nat), .B (reachOf x y z cs p q).isSome]) M := by
  refine calls_run K.spec_LeastReach rfl ?_
  simp (disch := omega) only [C.spec_LeastReach, ↓SXd, SXu, slBounds, ↓sop, ↓aop, ↓reduceIte, LV.cells, AOp.dst, LV.I, LV.B, LV.U, LV.S, LV.nil, Nat.reduceEqDiff, Nat.reduceAdd, Nat.reduceMul, Nat.reduceSub, Nat.reduceLeDiff, Nat.reduceBEq, Nat.reduceDiv, Nat.reduceMod, Int.reduceToNat, Int.reduceLT, Int.reduceLE, Int.reduceAdd, Int.reduceSub, Int.reduceMul, Int.reduceEq, Int.reduceNeg, reduceCtorEq, resV, resAll, ARes.ev, LV.flat, ite_true, ite_false, exists_eq_left', exists_eq_left, keyOf, implies_true, fillC, capOf]
  refine callK_of (h_l10Both h.app hn) ?_
  simp (disch := omega) only [↓SXd, SXu, slBounds, ↓sop, ↓aop, ↓reduceIte, LV.cells, AOp.dst, LV.I, LV.B, LV.U, LV.S, LV.nil, Nat.reduceEqDiff, Nat.reduceAdd, Nat.reduceMul, Nat.reduceSub, Nat.reduceLeDiff, Nat.reduceBEq, Nat.reduceDiv, Nat.reduceMod, Int.reduceToNat, Int.reduceLT, Int.reduceLE, Int.reduceAdd, Int.reduceSub, Int.reduceMul, Int.reduceEq, Int.reduceNeg, reduceCtorEq, resV, resAll, ARes.ev, LV.flat, ite_true, ite_false, exists_eq_left', exists_eq_left, keyOf, implies_true, fillC, capOf]
  unfold reachOf
  by_cases hV : (HeapOK x y z cs ∧ (0 ≤ p ∧ p ≤ x * y - 1)) ∧ (0 ≤ q ∧ q ≤ x * y - 1)
  · obtain ⟨⟨hH, hp⟩, hq⟩ := id hV
    have hb := mul_bound hH.1.1 hH.1.2.1
    rw [if_pos hV]
    simp (disch := omega) only [hH, hp, hq, ↓SXd, SXu, slBounds, ↓sop, ↓aop, ↓reduceIte, LV.cells, AOp.dst, LV.I, LV.B, LV.U, LV.S, LV.nil, Nat.reduceEqDiff, Nat.reduceAdd, Nat.reduceMul, Nat.reduceSub, Nat.reduceLeDiff, Nat.reduceBEq, Nat.reduceDiv, Nat.reduceMod, Int.reduceToNat, Int.reduceLT, Int.reduceLE, Int.reduceAdd, Int.reduceSub, Int.reduceMul, Int.reduceEq, Int.reduceNeg, reduceCtorEq, resV, resAll, ARes.ev, LV.flat, ite_true, ite_false, exists_eq_left', exists_eq_left, keyOf, implies_true, fillC, capOf]
    refine ev_loop (fun m fr M' => ∃ k : Nat, k + m = 4 ∧ Pre M M' ∧ Live M' M.length (.row [.I x, .I y, .I z, .ref t o cs.length] true 0) ∧ fr 1 = .I p ∧ fr 2 = .I q ∧ fr 3 = .ptr M.length 0 ∧ fr 8 = .I k ∧ ∀ j, j < k → ¬ Near' x y cs p q j) 4
      ⟨0, rfl, Pre.app _ _, Live.new, rfl, rfl, rfl, rfl, by omega⟩ ?_
    rintro m fr M' ⟨k, hk, hpre, hbox, h1, h2, h3, h8, hl⟩
    have hsl := spreadOf_len (cs := cs) (s := k) hp
    simp (disch := omega) only [h1, h2, h3, h8, hbox.cells, ↓SXd, SXu, slBounds, ↓sop, ↓aop, ↓reduceIte, LV.cells, AOp.dst, LV.I, LV.B, LV.U, LV.S, LV.nil, Nat.reduceEqDiff, Nat.reduceAdd, Nat.reduceMul, Nat.reduceSub, Nat.reduceLeDiff, Nat.reduceBEq, Nat.reduceDiv, Nat.reduceMod, Int.reduceToNat, Int.reduceLT, Int.reduceLE, Int.reduceAdd, Int.reduceSub, Int.reduceMul, Int.reduceEq, Int.reduceNeg, reduceCtorEq, resV, resAll, ARes.ev, LV.flat, ite_true, ite_false, exists_eq_left', exists_eq_left, keyOf, implies_true, fillC, capOf]
    refine callK_of (h_l10Spread (h.pre hpre) hn hH hp) ?_
    simp (disch := omega) only [h1, h2, h3, h8, intL_get, ↓SXd, SXu, slBounds, ↓sop, ↓aop, ↓reduceIte, LV.cells, AOp.dst, LV.I, LV.B, LV.U, LV.S, LV.nil, Nat.reduceEqDiff, Nat.reduceAdd, Nat.reduceMul, Nat.reduceSub, Nat.reduceLeDiff, Nat.reduceBEq, Nat.reduceDiv, Nat.reduceMod, Int.reduceToNat, Int.reduceLT, Int.reduceLE, Int.reduceAdd, Int.reduceSub, Int.reduceMul, Int.reduceEq, Int.reduceNeg, reduceCtorEq, resV, resAll, ARes.ev, LV.flat, ite_true, ite_false, exists_eq_left', exists_eq_left, keyOf, implies_true, fillC, capOf]
    refine condC_dec (fun hlt => ?_) (fun hlt => ?_)
    · have hk4 : k < 4 := by
        rcases Nat.lt_or_ge k 4 with h4 | h4
        · exact h4
        · have := near4 (cs := cs) hH hp hq h4; unfold Near' at this; omega
      simp (disch := omega) only [h1, h2, h3, h8, ↓SXd, SXu, slBounds, ↓sop, ↓aop, ↓reduceIte, LV.cells, AOp.dst, LV.I, LV.B, LV.U, LV.S, LV.nil, Nat.reduceEqDiff, Nat.reduceAdd, Nat.reduceMul, Nat.reduceSub, Nat.reduceLeDiff, Nat.reduceBEq, Nat.reduceDiv, Nat.reduceMod, Int.reduceToNat, Int.reduceLT, Int.reduceLE, Int.reduceAdd, Int.reduceSub, Int.reduceMul, Int.reduceEq, Int.reduceNeg, reduceCtorEq, resV, resAll, ARes.ev, LV.flat, ite_true, ite_false, exists_eq_left', exists_eq_left, keyOf, implies_true, fillC, capOf]
      refine ⟨m - 1, by omega, k + 1, by omega, hpre.app', hbox.app, h1, h2, h3, eqI (natI _), fun j hj => ?_⟩
      rcases Nat.lt_or_ge j k with h4 | h4
      · exact hl j h4
      · rw [show j = k by omega]; unfold Near'; omega
    · simp (disch := omega) only [h1, h2, h3, h8, ↓SXd, SXu, slBounds, ↓sop, ↓aop, ↓reduceIte, LV.cells, AOp.dst, LV.I, LV.B, LV.U, LV.S, LV.nil, Nat.reduceEqDiff, Nat.reduceAdd, Nat.reduceMul, Nat.reduceSub, Nat.reduceLeDiff, Nat.reduceBEq, Nat.reduceDiv, Nat.reduceMod, Int.reduceToNat, Int.reduceLT, Int.reduceLE, Int.reduceAdd, Int.reduceSub, Int.reduceMul, Int.reduceEq, Int.reduceNeg, reduceCtorEq, resV, resAll, ARes.ev, LV.flat, ite_true, ite_false, exists_eq_left', exists_eq_left, keyOf, implies_true, fillC, capOf]
      rw [leastN_eq (k := k) (show Near' x y cs p q k by unfold Near'; omega) hl]
      exact cmp_pre hpre.app' rfl
  · rw [if_neg hV]
    simp (disch := omega) only [hV, ↓SXd, SXu, slBounds, ↓sop, ↓aop, ↓reduceIte, LV.cells, AOp.dst, LV.I, LV.B, LV.U, LV.S, LV.nil, Nat.reduceEqDiff, Nat.reduceAdd, Nat.reduceMul, Nat.reduceSub, Nat.reduceLeDiff, Nat.reduceBEq, Nat.reduceDiv, Nat.reduceMod, Int.reduceToNat, Int.reduceLT, Int.reduceLE, Int.reduceAdd, Int.reduceSub, Int.reduceMul, Int.reduceEq, Int.reduceNeg, reduceCtorEq, resV, resAll, ARes.ev, LV.flat, ite_true, ite_false, exists_eq_left', exists_eq_left, keyOf, implies_true, fillC, capOf]
    exact cmp_drop rfl

theorem g_LeastReach {x y z p q : Int} {t o : Nat} {cs : List Cell} {M : Mem} (h : Tri M t o cs) (hn : cs.length ≤ 1000000000) :
    CallsTo PG F.impl_LeastReach [.agg [.I x, .I y, .I z, .ref t o cs.length], .I p, .I q] M (.tup [.I ((reachOf x y z cs p q).getD 0 : Nat), .B (reachOf x y z cs p q).isSome]) M := by
  refine calls_run K.impl_LeastReach rfl ?_
  simp (disch := omega) only [C.impl_LeastReach, splice, ↓SXd, SXu, slBounds, ↓sop, ↓aop, ↓reduceIte, LV.cells, AOp.dst, LV.I, LV.B, LV.U, LV.S, LV.nil, Nat.reduceEqDiff, Nat.reduceAdd, Nat.reduceMul, Nat.reduceSub, Nat.reduceLeDiff, Nat.reduceBEq, Nat.reduceDiv, Nat.reduceMod, Int.reduceToNat, Int.reduceLT, Int.reduceLE, Int.reduceAdd, Int.reduceSub, Int.reduceMul, Int.reduceEq, Int.reduceNeg, reduceCtorEq, resV, resAll, ARes.ev, LV.flat, ite_true, ite_false, exists_eq_left', exists_eq_left, keyOf, implies_true, fillC, capOf]
  refine callK_of (g_isTop2 h.app hn (Live.newj (j := 1) rfl)) ?_
  simp (disch := omega) only [↓SXd, SXu, slBounds, ↓sop, ↓aop, ↓reduceIte, LV.cells, AOp.dst, LV.I, LV.B, LV.U, LV.S, LV.nil, Nat.reduceEqDiff, Nat.reduceAdd, Nat.reduceMul, Nat.reduceSub, Nat.reduceLeDiff, Nat.reduceBEq, Nat.reduceDiv, Nat.reduceMod, Int.reduceToNat, Int.reduceLT, Int.reduceLE, Int.reduceAdd, Int.reduceSub, Int.reduceMul, Int.reduceEq, Int.reduceNeg, reduceCtorEq, resV, resAll, ARes.ev, LV.flat, ite_true, ite_false, exists_eq_left', exists_eq_left, keyOf, implies_true, fillC, capOf]
  unfold reachOf
  by_cases hV : (HeapOK x y z cs ∧ (0 ≤ p ∧ p ≤ x * y - 1)) ∧ (0 ≤ q ∧ q ≤ x * y - 1)
  · obtain ⟨⟨hH, hp⟩, hq⟩ := id hV
    have hb := mul_bound hH.1.1 hH.1.2.1
    have htl := topsOf_len x y cs
    rw [if_pos hV]
    simp (disch := omega) only [hH, hp, hq, ↓SXd, SXu, slBounds, ↓sop, ↓aop, ↓reduceIte, LV.cells, AOp.dst, LV.I, LV.B, LV.U, LV.S, LV.nil, Nat.reduceEqDiff, Nat.reduceAdd, Nat.reduceMul, Nat.reduceSub, Nat.reduceLeDiff, Nat.reduceBEq, Nat.reduceDiv, Nat.reduceMod, Int.reduceToNat, Int.reduceLT, Int.reduceLE, Int.reduceAdd, Int.reduceSub, Int.reduceMul, Int.reduceEq, Int.reduceNeg, reduceCtorEq, resV, resAll, ARes.ev, LV.flat, ite_true, ite_false, exists_eq_left', exists_eq_left, keyOf, implies_true, fillC, capOf]
    refine ev_loop (fun m fr M' => ∃ k : Nat, k + m = 4 ∧ Pre M M' ∧ Live M' M.length (.row [.I x, .I y, .I z, .ref t o cs.length] true 0) ∧ fr 1 = .I p ∧ fr 2 = .I q ∧ fr 3 = .ptr M.length 0 ∧ fr 8 = .I k ∧ ∀ j, j < k → ¬ Near' x y cs p q j) 4
      ⟨0, rfl, Pre.app _ _, Live.new, rfl, rfl, rfl, rfl, by omega⟩ ?_
    rintro m fr M' ⟨k, hk, hpre, hbox, h1, h2, h3, h8, hl⟩
    have hsl := spreadOf_len (cs := cs) (s := k) hq
    simp (disch := omega) only [h1, h2, h3, h8, hbox.cells, ↓SXd, SXu, slBounds, ↓sop, ↓aop, ↓reduceIte, LV.cells, AOp.dst, LV.I, LV.B, LV.U, LV.S, LV.nil, Nat.reduceEqDiff, Nat.reduceAdd, Nat.reduceMul, Nat.reduceSub, Nat.reduceLeDiff, Nat.reduceBEq, Nat.reduceDiv, Nat.reduceMod, Int.reduceToNat, Int.reduceLT, Int.reduceLE, Int.reduceAdd, Int.reduceSub, Int.reduceMul, Int.reduceEq, Int.reduceNeg, reduceCtorEq, resV, resAll, ARes.ev, LV.flat, ite_true, ite_false, exists_eq_left', exists_eq_left, keyOf, implies_true, fillC, capOf]
    refine callK_of (g_top (h.pre hpre) hn hH) ?_
    simp (disch := omega) only [h1, h2, h3, h8, ↓SXd, SXu, slBounds, ↓sop, ↓aop, ↓reduceIte, LV.cells, AOp.dst, LV.I, LV.B, LV.U, LV.S, LV.nil, Nat.reduceEqDiff, Nat.reduceAdd, Nat.reduceMul, Nat.reduceSub, Nat.reduceLeDiff, Nat.reduceBEq, Nat.reduceDiv, Nat.reduceMod, Int.reduceToNat, Int.reduceLT, Int.reduceLE, Int.reduceAdd, Int.reduceSub, Int.reduceMul, Int.reduceEq, Int.reduceNeg, reduceCtorEq, resV, resAll, ARes.ev, LV.flat, ite_true, ite_false, exists_eq_left', exists_eq_left, keyOf, implies_true, fillC, capOf]
    refine callK_of (g_distances hH.1.1 hH.1.2.1 hq (Live.new).has htl (topsOf_low hH)) ?_
    simp (disch := omega) only [h1, h2, h3, h8, ↓SXd, SXu, slBounds, ↓sop, ↓aop, ↓reduceIte, LV.cells, AOp.dst, LV.I, LV.B, LV.U, LV.S, LV.nil, Nat.reduceEqDiff, Nat.reduceAdd, Nat.reduceMul, Nat.reduceSub, Nat.reduceLeDiff, Nat.reduceBEq, Nat.reduceDiv, Nat.reduceMod, Int.reduceToNat, Int.reduceLT, Int.reduceLE, Int.reduceAdd, Int.reduceSub, Int.reduceMul, Int.reduceEq, Int.reduceNeg, reduceCtorEq, resV, resAll, ARes.ev, LV.flat, ite_true, ite_false, exists_eq_left', exists_eq_left, keyOf, implies_true, fillC, capOf]
    rw [show farFrom (x * y).toNat (fun r => stepsOf x y (topsOf x y cs) r k) q = spreadOf x y cs q k from rfl]
    simp (disch := omega) only [intL_get, ↓SXd, SXu, slBounds, ↓sop, ↓aop, ↓reduceIte, LV.cells, AOp.dst, LV.I, LV.B, LV.U, LV.S, LV.nil, Nat.reduceEqDiff, Nat.reduceAdd, Nat.reduceMul, Nat.reduceSub, Nat.reduceLeDiff, Nat.reduceBEq, Nat.reduceDiv, Nat.reduceMod, Int.reduceToNat, Int.reduceLT, Int.reduceLE, Int.reduceAdd, Int.reduceSub, Int.reduceMul, Int.reduceEq, Int.reduceNeg, reduceCtorEq, resV, resAll, ARes.ev, LV.flat, ite_true, ite_false, exists_eq_left', exists_eq_left, keyOf, implies_true, fillC, capOf]
    rw [spread_comm hq hp]
    refine condC_dec (fun hlt => ?_) (fun hlt => ?_)
    · have hk4 : k < 4 := by
        rcases Nat.lt_or_ge k 4 with h4 | h4
        · exact h4
        · have := near4 (cs := cs) hH hp hq h4; unfold Near' at this; omega
      simp (disch := omega) only [h1, h2, h3, h8, ↓SXd, SXu, slBounds, ↓sop, ↓aop, ↓reduceIte, LV.cells, AOp.dst, LV.I, LV.B, LV.U, LV.S, LV.nil, Nat.reduceEqDiff, Nat.reduceAdd, Nat.reduceMul, Nat.reduceSub, Nat.reduceLeDiff, Nat.reduceBEq, Nat.reduceDiv, Nat.reduceMod, Int.reduceToNat, Int.reduceLT, Int.reduceLE, Int.reduceAdd, Int.reduceSub, Int.reduceMul, Int.reduceEq, Int.reduceNeg, reduceCtorEq, resV, resAll, ARes.ev, LV.flat, ite_true, ite_false, exists_eq_left', exists_eq_left, keyOf, implies_true, fillC, capOf]
      refine ⟨m - 1, by omega, k + 1, by omega, hpre.app', hbox.app, h1, h2, h3, eqI (natI _), fun j hj => ?_⟩
      rcases Nat.lt_or_ge j k with h4 | h4
      · exact hl j h4
      · rw [show j = k by omega]; unfold Near'; omega
    · simp (disch := omega) only [h1, h2, h3, h8, ↓SXd, SXu, slBounds, ↓sop, ↓aop, ↓reduceIte, LV.cells, AOp.dst, LV.I, LV.B, LV.U, LV.S, LV.nil, Nat.reduceEqDiff, Nat.reduceAdd, Nat.reduceMul, Nat.reduceSub, Nat.reduceLeDiff, Nat.reduceBEq, Nat.reduceDiv, Nat.reduceMod, Int.reduceToNat, Int.reduceLT, Int.reduceLE, Int.reduceAdd, Int.reduceSub, Int.reduceMul, Int.reduceEq, Int.reduceNeg, reduceCtorEq, resV, resAll, ARes.ev, LV.flat, ite_true, ite_false, exists_eq_left', exists_eq_left, keyOf, implies_true, fillC, capOf]
      rw [leastN_eq (k := k) (show Near' x y cs p q k by unfold Near'; omega) hl]
      exact cmp_pre hpre.app' rfl
  · rw [if_neg hV]
    simp (disch := omega) only [hV, ↓SXd, SXu, slBounds, ↓sop, ↓aop, ↓reduceIte, LV.cells, AOp.dst, LV.I, LV.B, LV.U, LV.S, LV.nil, Nat.reduceEqDiff, Nat.reduceAdd, Nat.reduceMul, Nat.reduceSub, Nat.reduceLeDiff, Nat.reduceBEq, Nat.reduceDiv, Nat.reduceMod, Int.reduceToNat, Int.reduceLT, Int.reduceLE, Int.reduceAdd, Int.reduceSub, Int.reduceMul, Int.reduceEq, Int.reduceNeg, reduceCtorEq, resV, resAll, ARes.ev, LV.flat, ite_true, ite_false, exists_eq_left', exists_eq_left, keyOf, implies_true, fillC, capOf]
    exact cmp_drop rfl
end Go.Ab

/- Plain words: least climbs. -/
namespace Go.Ab

def relax1 (ts : List Int) (a c : Int) (st : List Int × Bool) (b : Int) : List Int × Bool :=
  if st.1.getD b.toNat 0 < 0 ∨ c + max (ts.getD b.toNat 0 - ts.getD a.toNat 0) 0 < st.1.getD b.toNat 0 then (st.1.set b.toNat (c + max (ts.getD b.toNat 0 - ts.getD a.toNat 0) 0), true) else st
def relaxCol (ts : List Int) (St : Int → List Int) (st : List Int × Bool) (a : Int) : List Int × Bool :=
  if st.1.getD a.toNat 0 < 0 then st else (St a).foldl (relax1 ts a (st.1.getD a.toNat 0)) st
def climbRound (ts : List Int) (St : Int → List Int) (c : Nat) (best : List Int) : List Int × Bool := (nums c).foldl (relaxCol ts St) (best, false)
def climbLoop (ts : List Int) (St : Int → List Int) (c : Nat) : Nat → List Int → List Int
  | 0, best => best
  | f + 1, best => if (climbRound ts St c best).2 then climbLoop ts St c f (climbRound ts St c best).1 else (climbRound ts St c best).1

theorem climb_step {ts : List Int} {St : Int → List Int} {c f : Nat} {best R : List Int} (h : climbLoop ts St c (f + 1) best = R) {r : List Int × Bool} (hr : (nums c).foldl (relaxCol ts St) (best, false) = r) :
    (r.2 = true → climbLoop ts St c f r.1 = R) ∧ (r.2 = false → r.1 = R) := by
  have hr' : climbRound ts St c best = r := hr
  simp only [climbLoop, hr'] at h
  exact ⟨fun e => by rw [if_pos e] at h; exact h, fun e => by rw [e] at h; simpa using h⟩
def phiOf (v : Int) : Nat := if v < 0 then 100 else v.toNat
def phi (best : List Int) : Nat := (best.map phiOf).sum

theorem phi_set : ∀ {l : List Int} {i : Nat} {v : Int}, i < l.length → phi (l.set i v) + phiOf (l.getD i 0) = phi l + phiOf v
  | [], _, _, h => by simp at h
  | a :: l, 0, v, _ => by simp only [phi, List.set_cons_zero, List.map_cons, List.sum_cons, List.getD_cons_zero]; omega
  | a :: l, i + 1, v, h => by
    have := phi_set (l := l) (i := i) (v := v) (by simpa using h)
    simp only [phi, List.set_cons_succ, List.map_cons, List.sum_cons, List.getD_cons_succ] at this ⊢
    omega

def cnt0 (l : List Int) : Nat := l.countP fun v => decide (0 ≤ v)
theorem cnt0_set : ∀ {l : List Int} {i : Nat} {v : Int}, i < l.length → 0 ≤ v → cnt0 l ≤ cnt0 (l.set i v) ∧ (l.getD i 0 < 0 → cnt0 l + 1 ≤ cnt0 (l.set i v))
  | [], _, _, h, _ => by simp at h
  | a :: l, 0, v, _, hv => by
    simp only [cnt0, List.set_cons_zero, List.countP_cons, List.getD_cons_zero, decide_eq_true_eq, hv, if_true]
    constructor
    · split <;> omega
    · intro h; rw [if_neg (by omega)]; omega
  | a :: l, i + 1, v, h, hv => by
    have := cnt0_set (l := l) (i := i) (v := v) (by simpa using h) hv
    simp only [cnt0, List.set_cons_succ, List.countP_cons, List.getD_cons_succ] at this ⊢
    exact ⟨by omega, fun h => by have := this.2 h; omega⟩

structure CI (c : Nat) (N : Int → List Int) (p : Int) (best : List Int) : Prop where
  len : best.length = c
  lo : ∀ k, k < c → -1 ≤ best.getD k 0
  hi : ∀ k, k < c → best.getD k 0 ≤ 4 * (cnt0 best : Int) - 4
  root : 0 ≤ best.getD p.toNat 0
  way : ∀ v : Int, 0 ≤ v → v < c → 0 ≤ best.getD v.toNat 0 → ∃ n, Way N p n v

theorem CI.top {c : Nat} {N : Int → List Int} {p : Int} {best : List Int} (h : CI c N p best) (hc : c ≤ 16) : ∀ k, k < c → best.getD k 0 ≤ 60 := fun k hk => by
  have h1 := h.hi k hk
  have h2 : cnt0 best ≤ best.length := List.countP_le_length
  have h3 := h.len
  omega

section
variable {c : Nat} {N : Int → List Int} {p : Int} {ts : List Int} (hN : ∀ p q, q ∈ N p → 0 ≤ q ∧ q < (c : Int)) (hne : ∀ p, p ∉ N p) (hts : ∀ k, 0 ≤ ts.getD k 0 ∧ ts.getD k 0 ≤ 4) (hc : c ≤ 16)
include hN hne hts hc

/-- One look at a neighbour. -/
theorem relax1_ok {a b v : Int} {st : List Int × Bool} (ha : 0 ≤ a ∧ a < c) (h : CI c N p st.1) (hv : st.1.getD a.toNat 0 = v) (hv0 : 0 ≤ v) (hb : b ∈ N a) :
    CI c N p (relax1 ts a v st b).1 ∧ (relax1 ts a v st b).1.getD a.toNat 0 = v ∧ phi (relax1 ts a v st b).1 + (if (relax1 ts a v st b).2 then 1 else 0) ≤ phi st.1 + (if st.2 then 1 else 0) ∧
      ((relax1 ts a v st b).2 = false → relax1 ts a v st b = st ∧ 0 ≤ st.1.getD b.toNat 0) := by
  have hbc := hN a b hb
  have hab : a ≠ b := fun e => hne a (by rw [← e] at hb; exact hb)
  have hbl : b.toNat < st.1.length := by rw [h.len]; omega
  unfold relax1
  split
  · rename_i hlt
    have ht1 := hts b.toNat
    have ht2 := hts a.toNat
    have hva := h.hi a.toNat (by omega)
    have hcs := cnt0_set (l := st.1) (i := b.toNat) (v := v + max (ts.getD b.toNat 0 - ts.getD a.toNat 0) 0) hbl (by omega)
    have hph := phi_set (l := st.1) (i := b.toNat) (v := v + max (ts.getD b.toNat 0 - ts.getD a.toNat 0) 0) hbl
    have hbl2 := h.lo b.toNat (by omega)
    have htop := h.top hc a.toNat (by omega)
    refine ⟨⟨by simpa using h.len, fun k hk => ?_, fun k hk => ?_, ?_, fun w h0 hw hd => ?_⟩, ?_, ?_, fun e => by cases e⟩
    · rw [getD_set]; have := h.lo k hk; split <;> omega
    · show (st.1.set b.toNat _).getD k 0 ≤ 4 * (cnt0 (st.1.set b.toNat (v + max (ts.getD b.toNat 0 - ts.getD a.toNat 0) 0)) : Int) - 4
      rw [getD_set]
      have h1 := h.hi k hk
      split
      · by_cases hn : st.1.getD b.toNat 0 < 0
        · have := hcs.2 hn; omega
        · have h2 := h.hi b.toNat (by omega); omega
      · omega
    · rw [getD_set]; have := h.root; split <;> omega
    · rw [getD_set] at hd
      by_cases e : w.toNat = b.toNat
      · obtain ⟨n, hn⟩ := h.way a ha.1 ha.2 (by omega)
        rw [show w = b by omega]
        exact ⟨n + 1, .snoc hn hb⟩
      · rw [if_neg (fun x => e x.1)] at hd
        exact h.way w h0 hw hd
    · simp only [getD_set]; rw [if_neg (fun x => hab (by omega))]; exact hv
    · simp only [if_true]
      have : phiOf (v + max (ts.getD b.toNat 0 - ts.getD a.toNat 0) 0) + 1 ≤ phiOf (st.1.getD b.toNat 0) := by
        unfold phiOf
        rw [if_neg (by omega)]
        split <;> omega
      omega
  · rename_i hge
    exact ⟨h, hv, by omega, fun _ => ⟨rfl, by omega⟩⟩

theorem relaxL_ok {a v : Int} (ha : 0 ≤ a ∧ a < c) (hv0 : 0 ≤ v) : ∀ (l : List Int) (st : List Int × Bool), CI c N p st.1 → st.1.getD a.toNat 0 = v → (∀ b ∈ l, b ∈ N a) →
    CI c N p (l.foldl (relax1 ts a v) st).1 ∧ (l.foldl (relax1 ts a v) st).1.getD a.toNat 0 = v ∧ phi (l.foldl (relax1 ts a v) st).1 + (if (l.foldl (relax1 ts a v) st).2 then 1 else 0) ≤ phi st.1 + (if st.2 then 1 else 0) ∧
      ((l.foldl (relax1 ts a v) st).2 = false → l.foldl (relax1 ts a v) st = st ∧ ∀ b ∈ l, 0 ≤ st.1.getD b.toNat 0) := by
  intro l
  induction l with
  | nil => intro st h hv _; exact ⟨h, hv, Nat.le_refl _, fun _ => ⟨rfl, fun b hb => by cases hb⟩⟩
  | cons b l ih =>
    intro st h hv hl
    obtain ⟨h1, h2, h3, h4⟩ := relax1_ok (p := p) hN hne hts hc ha h hv hv0 (hl b (by simp))
    obtain ⟨k1, k2, k3, k4⟩ := ih _ h1 h2 fun r hr => hl r (by simp [hr])
    refine ⟨k1, k2, Nat.le_trans k3 h3, fun e => ?_⟩
    obtain ⟨e1, e2⟩ := k4 e
    have e3 : (relax1 ts a v st b).2 = false := by rw [List.foldl_cons] at e; rw [← e1]; exact e
    obtain ⟨e4, e5⟩ := h4 e3
    rw [e4] at e1 e2
    exact ⟨by rw [List.foldl_cons, e4]; exact e1, fun r hr => by
      rcases List.mem_cons.1 hr with rfl | hr
      · exact e5
      · exact e2 r hr⟩

theorem relaxCol_ok {a : Int} (ha : 0 ≤ a ∧ a < c) (st : List Int × Bool) (h : CI c N p st.1) :
    CI c N p (relaxCol ts N st a).1 ∧ phi (relaxCol ts N st a).1 + (if (relaxCol ts N st a).2 then 1 else 0) ≤ phi st.1 + (if st.2 then 1 else 0) ∧
      ((relaxCol ts N st a).2 = false → relaxCol ts N st a = st ∧ (0 ≤ st.1.getD a.toNat 0 → ∀ b ∈ N a, 0 ≤ st.1.getD b.toNat 0)) := by
  unfold relaxCol
  split
  · rename_i hlt; exact ⟨h, Nat.le_refl _, fun _ => ⟨rfl, fun h => by omega⟩⟩
  · rename_i hge
    obtain ⟨k1, _, k3, k4⟩ := relaxL_ok hN hne hts hc ha (v := st.1.getD a.toNat 0) (by omega) (N a) st h rfl fun b hb => hb
    exact ⟨k1, k3, fun e => ⟨(k4 e).1, fun _ => (k4 e).2⟩⟩

theorem roundL_ok : ∀ (k : Nat) (best : List Int), k ≤ c → CI c N p best →
    CI c N p ((nums k).foldl (relaxCol ts N) (best, false)).1 ∧ phi ((nums k).foldl (relaxCol ts N) (best, false)).1 + (if ((nums k).foldl (relaxCol ts N) (best, false)).2 then 1 else 0) ≤ phi best ∧
      (((nums k).foldl (relaxCol ts N) (best, false)).2 = false → (nums k).foldl (relaxCol ts N) (best, false) = (best, false) ∧ ∀ a : Int, 0 ≤ a → a < k → 0 ≤ best.getD a.toNat 0 → ∀ b ∈ N a, 0 ≤ best.getD b.toNat 0) := by
  intro k
  induction k with
  | zero => intro best _ h; exact ⟨h, Nat.le_refl _, fun _ => ⟨rfl, fun a h1 h2 => by omega⟩⟩
  | succ k ih =>
    intro best hk h
    obtain ⟨h1, h2, h3⟩ := ih best (by omega) h
    rw [nums_succ, List.foldl_append]
    obtain ⟨k1, k2, k3⟩ := relaxCol_ok (a := (k : Int)) hN hne hts hc (by omega) _ h1
    refine ⟨k1, Nat.le_trans k2 h2, fun e => ?_⟩
    obtain ⟨e1, e2⟩ := k3 e
    have e3 : ((nums k).foldl (relaxCol ts N) (best, false)).2 = false := by rw [← e1]; exact e
    obtain ⟨e4, e5⟩ := h3 e3
    rw [e4] at e1 e2
    refine ⟨by rw [e4]; exact e1, fun a ha1 ha2 hd b hb => ?_⟩
    rcases Int.lt_or_le a k with h5 | h5
    · exact e5 a ha1 h5 hd b hb
    · rw [show a = (k : Int) by omega] at hd hb; exact e2 hd b hb

theorem climb_ok : ∀ (f : Nat) (best : List Int), phi best < f → CI c N p best → CI c N p (climbLoop ts N c f best) ∧
    ∀ a : Int, 0 ≤ a → a < c → 0 ≤ (climbLoop ts N c f best).getD a.toNat 0 → ∀ b ∈ N a, 0 ≤ (climbLoop ts N c f best).getD b.toNat 0 := by
  intro f
  induction f with
  | zero => intro best hf; omega
  | succ f ih =>
    intro best hf h
    obtain ⟨h1, h2, h3⟩ : CI c N p (climbRound ts N c best).1 ∧ phi (climbRound ts N c best).1 + (if (climbRound ts N c best).2 then 1 else 0) ≤ phi best ∧ ((climbRound ts N c best).2 = false → climbRound ts N c best = (best, false) ∧ ∀ a : Int, 0 ≤ a → a < c → 0 ≤ best.getD a.toNat 0 → ∀ b ∈ N a, 0 ≤ best.getD b.toNat 0) :=
      roundL_ok (p := p) hN hne hts hc c best (Nat.le_refl _) h
    simp only [climbLoop]
    by_cases hch : (climbRound ts N c best).2 = true
    · simp only [hch, if_true] at h2 ⊢
      exact ih _ (by omega) h1
    · obtain ⟨e1, e2⟩ := h3 (by simpa using hch)
      rw [if_neg hch, e1]
      exact ⟨h, e2⟩

/-- A climb is known just of the columns that are reached. -/
theorem climb_iff {f : Nat} {best : List Int} (hf : phi best < f) (h : CI c N p best) (hp : 0 ≤ p ∧ p < c) {q : Int} (hq : 0 ≤ q ∧ q < c) : 0 ≤ (climbLoop ts N c f best).getD q.toNat 0 ↔ 0 ≤ (farFrom c N p).getD q.toNat 0 := by
  obtain ⟨h1, h2⟩ := climb_ok hN hne hts hc f best hf h
  constructor
  · intro hd
    obtain ⟨n, hn⟩ := h1.way q hq.1 hq.2 hd
    exact (far_le hN hp hn).1
  · intro hd
    have hw := far_way hN hp hq (n := ((farFrom c N p).getD q.toNat 0).toNat) (by omega)
    have key : ∀ {n : Nat} {q : Int}, Way N p n q → 0 ≤ (climbLoop ts N c f best).getD q.toNat 0 := by
      intro n q w
      induction w with
      | nil => exact h1.root
      | snoc w' hb ih => exact h2 _ (w'.in_ hN hp).1 (w'.in_ hN hp).2 ih _ hb
    exact key hw
end

def climbStart (c : Nat) (p : Int) : List Int := (List.replicate c (-1)).set p.toNat 0
theorem climbStart_ok {c : Nat} {N : Int → List Int} {p : Int} (hp : 0 ≤ p ∧ p < c) (hc : c ≤ 16) : CI c N p (climbStart c p) ∧ phi (climbStart c p) < 2000 := by
  have hpl : p.toNat < (List.replicate c (-1 : Int)).length := by simp; omega
  have hd : ∀ k, k < c → (climbStart c p).getD k 0 = if k = p.toNat then 0 else -1 := fun k hk => by
    unfold climbStart
    rw [getD_set]
    by_cases e : k = p.toNat
    · rw [if_pos ⟨e, hpl⟩, if_pos e]
    · rw [if_neg (fun h => e h.1), if_neg e]; simp [hk]
  have hcn := (cnt0_set (l := List.replicate c (-1)) (i := p.toNat) (v := 0) hpl (by omega)).2 (by simp [List.getD_eq_getElem?_getD, List.getElem?_replicate]; rw [if_pos (by omega)]; simp)
  refine ⟨⟨by simp [climbStart], fun k hk => ?_, fun k hk => ?_, ?_, fun v h0 h1 h2 => ?_⟩, ?_⟩
  · rw [hd k hk]; split <;> omega
  · rw [hd k hk]
    unfold climbStart
    split <;> omega
  · rw [hd _ (by omega), if_pos rfl]; exact Int.le_refl 0
  · rw [hd _ (by omega)] at h2
    split at h2
    · rw [show v = p by omega]; exact ⟨0, .nil⟩
    · omega
  · have := phi_set (l := List.replicate c (-1)) (i := p.toNat) (v := 0) hpl
    have h2 : phi (List.replicate c (-1)) = c * 100 := by
      unfold phi
      rw [List.map_replicate, List.sum_replicate_nat]; rfl
    unfold climbStart
    have h3 : phiOf 0 = 0 := rfl
    omega
end Go.Ab

/- The abstract code of some functions (written by a program of mine from the translation, by way of prepF). -/
namespace Go.Ab.C
open Go.Ab
end Go.Ab.C

/- That the program has this code. -/
namespace Go.Ab.K
open Go Go.Ab
end Go.Ab.K

/- The abstract code of some functions (written by a program of mine from the translation, by way of prepF). -/
namespace Go.Ab.C
open Go.Ab
end Go.Ab.C

/- That the program has this code. -/
namespace Go.Ab.K
open Go Go.Ab
end Go.Ab.K

/- Contracts: the laws' helpers on lists of numbers. -/
namespace Go.Ab
open Go
set_option linter.unusedSimpArgs false
set_option linter.unusedVariables false

/-- A list of numbers that may be read. -/
def IntsV (N : Mem) (v : LV) (l : List Int) : Prop := (v = .nil ∧ l = []) ∨ ∃ t o, v = .ref t o l.length ∧ Ints N t o l
/-- A list of numbers that is one's own. -/
def SlI (N : Mem) (v : LV) (l : List Int) : Prop := (v = .nil ∧ l = []) ∨ ∃ t ex, v = .ref t 0 l.length ∧ Live N t (.row (intL (l ++ ex)) true 1)
/-- Block u is not that of a slice. -/
def Off : LV → Nat → Prop
  | .ref t _ _, u => u ≠ t
  | _, _ => True
/-- The slice has been made behind M. -/
def Newer (M : Mem) (v : LV) : Prop := ∀ u, u < M.length → Off v u

theorem Live.hasL {M : Mem} {t e : Nat} {vs ex : List LV} {w : Bool} (h : Live M t (.row (vs ++ ex) w e)) : Has M t 0 vs := ⟨vs ++ ex, h.row, by simp, by simp⟩
theorem SlI.v {N : Mem} {v : LV} {l : List Int} (h : SlI N v l) : IntsV N v l := by
  rcases h with h | ⟨t, ex, h1, h2⟩
  · exact .inl h
  · rw [intL_append] at h2; exact .inr ⟨t, 0, h1, h2.hasL⟩
theorem IntsV.pre {M N : Mem} {v : LV} {l : List Int} (h : IntsV M v l) (hp : Pre M N) : IntsV N v l := by
  rcases h with h | ⟨t, o, h1, h2⟩
  · exact .inl h
  · exact .inr ⟨t, o, h1, h2.pre hp⟩
theorem SlI.pre {M N : Mem} {v : LV} {l : List Int} (h : SlI M v l) (hp : Pre M N) : SlI N v l := by
  rcases h with h | ⟨t, ex, h1, h2⟩
  · exact .inl h
  · exact .inr ⟨t, ex, h1, h2.pre hp⟩
theorem SlI.nil {N : Mem} : SlI N .nil [] := .inl ⟨rfl, rfl⟩
theorem IntsV.nil {N : Mem} : IntsV N .nil [] := .inl ⟨rfl, rfl⟩
theorem SlI.of {N : Mem} {t : Nat} {l : List Int} (h : Live N t (.row (intL l) true 1)) : SlI N (.ref t 0 l.length) l := .inr ⟨t, [], rfl, by simpa using h⟩
theorem Newer.nil {M : Mem} : Newer M .nil := fun _ _ => trivial
theorem Newer.of {M : Mem} {t o n : Nat} (h : M.length ≤ t) : Newer M (.ref t o n) := fun u hu => by show u ≠ t; omega

def marks (k : Int) (n : Nat) : List Int := (List.range n).map fun (i : Nat) => k + (i : Int)
/-- What a marking leaves. -/
def Marked (M : Mem) (v : LV) (k : Int) (n : Nat) (r : LV) (N : Mem) : Prop := r = .I (k + n) ∧ SlI N v (marks k n) ∧ N.length = M.length ∧ ∀ u, Off v u → N[u]? = M[u]?

end Go.Ab

/- The abstract code of some functions (written by a program of mine from the translation, by way of prepF). -/
namespace Go.Ab.C
open Go.Ab
end Go.Ab.C

/- That the program has this code. -/
namespace Go.Ab.K
open Go Go.Ab
end Go.Ab.K

/- Contracts: the laws' helpers on heaps. -/
namespace Go.Ab
open Go
set_option linter.unusedSimpArgs false
set_option linter.unusedVariables false

end Go.Ab

/- Contracts: the laws' helpers on lists of cells, and on heaps. -/
namespace Go.Ab
open Go
set_option linter.unusedSimpArgs false
set_option linter.unusedVariables false

/-- A list of cells that may be read. -/
def CellsV (N : Mem) (v : LV) (l : List Cell) : Prop := (v = .nil ∧ l = []) ∨ ∃ t o, v = .ref t o l.length ∧ Tri N t o l
/-- A list of cells that is one's own. -/
def SlC (N : Mem) (v : LV) (l : List Cell) : Prop := (v = .nil ∧ l = []) ∨ ∃ t ex, v = .ref t 0 l.length ∧ Live N t (.row (triL (l ++ ex)) true 3)
theorem SlC.v {N : Mem} {v : LV} {l : List Cell} (h : SlC N v l) : CellsV N v l := by
  rcases h with h | ⟨t, ex, h1, h2⟩
  · exact .inl h
  · rw [triL_append] at h2; exact .inr ⟨t, 0, h1, h2.hasL⟩
theorem CellsV.pre {M N : Mem} {v : LV} {l : List Cell} (h : CellsV M v l) (hp : Pre M N) : CellsV N v l := by
  rcases h with h | ⟨t, o, h1, h2⟩
  · exact .inl h
  · exact .inr ⟨t, o, h1, h2.pre hp⟩
theorem SlC.pre {M N : Mem} {v : LV} {l : List Cell} (h : SlC M v l) (hp : Pre M N) : SlC N v l := by
  rcases h with h | ⟨t, ex, h1, h2⟩
  · exact .inl h
  · exact .inr ⟨t, ex, h1, h2.pre hp⟩
theorem SlC.nil {N : Mem} : SlC N .nil [] := .inl ⟨rfl, rfl⟩
theorem CellsV.nil {N : Mem} : CellsV N .nil [] := .inl ⟨rfl, rfl⟩
theorem SlC.of {N : Mem} {t : Nat} {l : List Cell} (h : Live N t (.row (triL l) true 3)) : SlC N (.ref t 0 l.length) l := .inr ⟨t, [], rfl, by simpa using h⟩
theorem CellsV.of {N : Mem} {t o : Nat} {l : List Cell} (h : Tri N t o l) : CellsV N (.ref t o l.length) l := .inr ⟨t, o, rfl, h⟩

def marks3 (k : Int) (n : Nat) : List Cell := (List.range n).map fun (i : Nat) => ⟨k + 3 * (i : Int), k + 3 * (i : Int) + 1, k + 3 * (i : Int) + 2⟩
/-- What a marking leaves. -/
def Marked3 (M : Mem) (v : LV) (k : Int) (n : Nat) (r : LV) (N : Mem) : Prop := r = .I (k + 3 * n) ∧ SlC N v (marks3 k n) ∧ N.length = M.length ∧ ∀ u, Off v u → N[u]? = M[u]?

def cellSet (c : Cell) (j : Nat) (v : Int) : Cell := match j with | 0 => ⟨v, c.b, c.c⟩ | 1 => ⟨c.a, v, c.c⟩ | _ => ⟨c.a, c.b, v⟩
end Go.Ab

/- Memories of which one slice's block may have changed; what laws are told of results. -/
namespace Go.Ab
open Go
set_option linter.unusedSimpArgs false
set_option linter.unusedVariables false

/-- What M holds, N holds, but for the block of v. -/
def PreV (v : LV) (M N : Mem) : Prop := M.length ≤ N.length ∧ ∀ u, u < M.length → Off v u → N[u]? = M[u]?
/-- The slices v and w have not the same block. -/
def Apart (v w : LV) : Prop := ∀ t o n, w = .ref t o n → Off v t
theorem PreV.live {v : LV} {M N : Mem} {t : Nat} {b : Blk} (hp : PreV v M N) (h : Live M t b) (ho : Off v t) : Live N t b := by unfold Live; rw [hp.2 t h.lt ho]; exact h
theorem PreV.has {v : LV} {M N : Mem} {t o : Nat} {vs : List LV} (hp : PreV v M N) (h : Has M t o vs) (ho : Off v t) : Has N t o vs := by
  obtain ⟨row, h1, h2⟩ := h
  refine ⟨row, ?_, h2⟩
  unfold getRow at *
  rw [hp.2 t (row_lt (M := M) (by unfold getRow; exact h1)) ho]; exact h1
theorem Marked.pre {M N : Mem} {v r : LV} {k : Int} {n : Nat} (h : Marked M v k n r N) : PreV v M N := ⟨by rw [h.2.2.1]; exact Nat.le_refl _, fun u _ ho => h.2.2.2 u ho⟩
theorem Marked3.pre {M N : Mem} {v r : LV} {k : Int} {n : Nat} (h : Marked3 M v k n r N) : PreV v M N := ⟨by rw [h.2.2.1]; exact Nat.le_refl _, fun u _ ho => h.2.2.2 u ho⟩
theorem PreV.pre {M0 M N : Mem} {v : LV} (hp : PreV v M N) (h : Pre M0 M) (hv : Newer M0 v) : Pre M0 N := ⟨Nat.le_trans h.1 hp.1, fun u hu => by rw [hp.2 u (Nat.lt_of_lt_of_le hu h.1) (hv u hu)]; exact h.2 u hu⟩
/-- The block of the slice lies in M. -/
def Older (M : Mem) (v : LV) : Prop := ∀ t o n, v = .ref t o n → t < M.length
theorem SlI.older {M : Mem} {v : LV} {l : List Int} (h : SlI M v l) : Older M v := fun t o n e => by
  rcases h with ⟨rfl, _⟩ | ⟨t', ex, h1, h2⟩
  · cases e
  · rw [h1] at e; cases e; exact h2.lt
theorem SlC.older {M : Mem} {v : LV} {l : List Cell} (h : SlC M v l) : Older M v := fun t o n e => by
  rcases h with ⟨rfl, _⟩ | ⟨t', ex, h1, h2⟩
  · cases e
  · rw [h1] at e; cases e; exact h2.lt
theorem CellsV.older {M : Mem} {v : LV} {l : List Cell} (h : CellsV M v l) : Older M v := fun t o n e => by
  rcases h with ⟨rfl, _⟩ | ⟨t', o', h1, h2⟩
  · cases e
  · rw [h1] at e; cases e; exact h2.lt
theorem IntsV.older {M : Mem} {v : LV} {l : List Int} (h : IntsV M v l) : Older M v := fun t o n e => by
  rcases h with ⟨rfl, _⟩ | ⟨t', o', h1, h2⟩
  · cases e
  · rw [h1] at e; cases e; exact h2.lt
/-- A newer slice is apart from an older one, and the other way. -/
theorem Newer.apart {M : Mem} {v w : LV} (hv : Newer M v) (hw : Older M w) : Apart v w := fun t o n e => hv t (hw t o n e)
theorem Apart.symm {v w : LV} (h : Apart v w) : Apart w v := fun t o n e => by
  cases w with
  | ref t' o' n' => have := h t' o' n' rfl; subst e; exact fun e => this e.symm
  | _ => trivial
theorem Newer.mono {M N : Mem} {v : LV} (h : Newer N v) (hp : Pre M N) : Newer M v := fun u hu => h u (Nat.lt_of_lt_of_le hu hp.1)

/-- A list of numbers, or none, and whether there is one. -/
def IntsRes (M : Mem) (r : Option (List Int)) (v : LV) (N : Mem) : Prop := ∃ w, v = .tup [w, .B r.isSome] ∧ SlI N w (r.getD []) ∧ Newer M w ∧ Pre M N
/-- A list of cells, or none, and whether there is one. -/
def CellsRes (M : Mem) (r : Option (List Cell)) (v : LV) (N : Mem) : Prop := ∃ w, v = .tup [w, .B r.isSome] ∧ SlC N w (r.getD []) ∧ Newer M w ∧ Pre M N
theorem CallsTo.ints1 {f : FuncId} {args : List LV} {M : Mem} {l : List Int} {ex : List Int} (h : CallsTo PG f args M (.tup [.ref M.length 0 l.length, .B true]) (M ++ [some (.row (intL (l ++ ex)) true 1)])) : CallsR PG f args M (IntsRes M (some l)) :=
  h.mono fun v N e => by
    rw [e.1, e.2]; exact ⟨_, rfl, .inr ⟨_, ex, rfl, Live.new⟩, Newer.of (Nat.le_refl _), Pre.app _ _⟩
theorem CallsTo.intsN {f : FuncId} {args : List LV} {M : Mem} (h : CallsTo PG f args M (.tup [.nil, .B false]) M) : CallsR PG f args M (IntsRes M none) :=
  h.mono fun v N e => by rw [e.1, e.2]; exact ⟨_, rfl, SlI.nil, Newer.nil, Pre.refl _⟩

/-- A call that leaves one new block: where it lies is forgotten. -/
theorem callN_of {P : Program} {f : FuncId} {args : List LV} {M : Mem} {n e : Nat} {vs : List LV} {A : LV → Mem → Prop} (h : CallsTo P f args M (.ref M.length 0 n) (M ++ [some (.row vs true e)]))
    (hA : ∀ (t : Nat) (N : Mem), M.length ≤ t → Pre M N → Live N t (.row vs true e) → A (.ref t 0 n) N) : callK P f args M A := callK_of h (hA _ _ (Nat.le_refl _) (Pre.app _ _) Live.new)

theorem Live.tri {M : Mem} {t k : Nat} {w : Bool} {cs ex : List Cell} (h : Live M t (.row (triL (cs ++ ex)) w 3)) (hk : k < cs.length) : getCells M t (k * 3) 3 = some (cs.getD k default).row := by
  rw [triL_append] at h
  have := Tri.get (cs := cs) h.hasL hk
  rwa [Nat.zero_add] at this
theorem Live.tri0 {M : Mem} {t k : Nat} {w : Bool} {cs : List Cell} (h : Live M t (.row (triL cs) w 3)) (hk : k < cs.length) : getCells M t (k * 3) 3 = some (cs.getD k default).row := Live.tri (ex := []) (by simpa using h) hk
end Go.Ab
