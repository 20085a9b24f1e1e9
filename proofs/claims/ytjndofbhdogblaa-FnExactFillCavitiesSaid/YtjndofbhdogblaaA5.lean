/- Parts of the proof of FnExactFillCavitiesSaid: Ga C_Da K_Da Da Gb Gd Gc Ge C_Pf K_Pf C_Pe K_Pe C_Pc K_Pc C_Pb K_Pb Ma Na Pa. -/
import Derived.Test.YtjndofbhdogblaaA4
import Derived.Test.YtjndofbhdogblaaA3
import Derived.Test.YtjndofbhdogblaaProg
import Derived.KernelRfl
set_option linter.all false
/- Contracts: the laws' helpers on lists of numbers. -/
namespace Go.Ab
open Go
set_option linter.unusedSimpArgs false
set_option linter.unusedVariables false

/-- A list of numbers that may be read. -/
def IntsV (N : Mem) (v : LV) (l : List Int) : Prop := (v = .nil ∧ l = []) ∨ ∃ t o, v = .ref t o l.length ∧ Ints N t o l
/-- A list of numbers that is one's own. -/
def SlI (N : Mem) (v : LV) (l : List Int) : Prop := (v = .nil ∧ l = []) ∨ ∃ t ex, v = .ref t 0 l.length ∧ Live N t (.row (intL (l ++ ex)) true 1)
/-- Block u is not that of a slice. -/
def Off : LV → Nat → Prop
  | .ref t _ _, u => u ≠ t
  | _, _ => True
/-- The slice has been made behind M. -/
def Newer (M : Mem) (v : LV) : Prop := ∀ u, u < M.length → Off v u

theorem Live.hasL {M : Mem} {t e : Nat} {vs ex : List LV} {w : Bool} (h : Live M t (.row (vs ++ ex) w e)) : Has M t 0 vs := ⟨vs ++ ex, h.row, by simp, by simp⟩
theorem SlI.v {N : Mem} {v : LV} {l : List Int} (h : SlI N v l) : IntsV N v l := by
  rcases h with h | ⟨t, ex, h1, h2⟩
  · exact .inl h
  · rw [intL_append] at h2; exact .inr ⟨t, 0, h1, h2.hasL⟩
theorem IntsV.pre {M N : Mem} {v : LV} {l : List Int} (h : IntsV M v l) (hp : Pre M N) : IntsV N v l := by
  rcases h with h | ⟨t, o, h1, h2⟩
  · exact .inl h
  · exact .inr ⟨t, o, h1, h2.pre hp⟩
theorem SlI.pre {M N : Mem} {v : LV} {l : List Int} (h : SlI M v l) (hp : Pre M N) : SlI N v l := by
  rcases h with h | ⟨t, ex, h1, h2⟩
  · exact .inl h
  · exact .inr ⟨t, ex, h1, h2.pre hp⟩
theorem SlI.nil {N : Mem} : SlI N .nil [] := .inl ⟨rfl, rfl⟩
theorem IntsV.nil {N : Mem} : IntsV N .nil [] := .inl ⟨rfl, rfl⟩
theorem SlI.of {N : Mem} {t : Nat} {l : List Int} (h : Live N t (.row (intL l) true 1)) : SlI N (.ref t 0 l.length) l := .inr ⟨t, [], rfl, by simpa using h⟩
theorem Newer.nil {M : Mem} : Newer M .nil := fun _ _ => trivial
theorem Newer.of {M : Mem} {t o n : Nat} (h : M.length ≤ t) : Newer M (.ref t o n) := fun u hu => by show u ≠ t; omega

def marks (k : Int) (n : Nat) : List Int := (List.range n).map fun (i : Nat) => k + (i : Int)
theorem marks_len (k : Int) (n : Nat) : (marks k n).length = n := by simp [marks]
theorem marks_get {k : Int} {n i : Nat} (h : i < n) : (marks k n).getD i 0 = k + i := by simp [marks, h]

theorem h_eqIntS_rr {l l' : List Int} {t o t' o' : Nat} {M : Mem} (h : Ints M t o l) (h' : Ints M t' o' l') (hn : l.length ≤ 1000000000) (hn' : l'.length ≤ 1000000000) :
    CallsTo PG F.laws_eqIntS [.ref t o l.length, .ref t' o' l'.length] M (.B (decide (l = l'))) M := by
  refine calls_run K.laws_eqIntS rfl ?_
  simp (disch := omega) only [C.laws_eqIntS, ↓SXd, SXu, slBounds, ↓sop, ↓aop, ↓reduceIte, LV.cells, AOp.dst, LV.I, LV.B, LV.U, LV.S, LV.nil, Nat.reduceEqDiff, Nat.reduceAdd, Nat.reduceMul, Nat.reduceSub, Nat.reduceLeDiff, Nat.reduceBEq, Nat.reduceDiv, Nat.reduceMod, Int.reduceToNat, Int.reduceLT, Int.reduceLE, Int.reduceAdd, Int.reduceSub, Int.reduceMul, Int.reduceEq, Int.reduceNeg, reduceCtorEq, resV, resAll, ARes.ev, LV.flat, ite_true, ite_false, exists_eq_left', exists_eq_left, keyOf, implies_true, fillC, capOf]
  refine condC_dec (fun hl => ?_) (fun hl => ?_)
  rotate_left
  · rw [show decide (l = l') = false from decide_eq_false (fun e => by subst e; exact (hl rfl).elim)]
    simp (disch := omega) only [C.laws_eqIntS, ↓SXd, SXu, slBounds, ↓sop, ↓aop, ↓reduceIte, LV.cells, AOp.dst, LV.I, LV.B, LV.U, LV.S, LV.nil, Nat.reduceEqDiff, Nat.reduceAdd, Nat.reduceMul, Nat.reduceSub, Nat.reduceLeDiff, Nat.reduceBEq, Nat.reduceDiv, Nat.reduceMod, Int.reduceToNat, Int.reduceLT, Int.reduceLE, Int.reduceAdd, Int.reduceSub, Int.reduceMul, Int.reduceEq, Int.reduceNeg, reduceCtorEq, resV, resAll, ARes.ev, LV.flat, ite_true, ite_false, exists_eq_left', exists_eq_left, keyOf, implies_true, fillC, capOf]
    exact cmp_drop0 rfl
  · have hl : l.length = l'.length := by omega
    simp (disch := omega) only [C.laws_eqIntS, ↓SXd, SXu, slBounds, ↓sop, ↓aop, ↓reduceIte, LV.cells, AOp.dst, LV.I, LV.B, LV.U, LV.S, LV.nil, Nat.reduceEqDiff, Nat.reduceAdd, Nat.reduceMul, Nat.reduceSub, Nat.reduceLeDiff, Nat.reduceBEq, Nat.reduceDiv, Nat.reduceMod, Int.reduceToNat, Int.reduceLT, Int.reduceLE, Int.reduceAdd, Int.reduceSub, Int.reduceMul, Int.reduceEq, Int.reduceNeg, reduceCtorEq, resV, resAll, ARes.ev, LV.flat, ite_true, ite_false, exists_eq_left', exists_eq_left, keyOf, implies_true, fillC, capOf]
    refine ev_loop (fun m fr M' => ∃ k : Nat, k + m = l.length ∧ M' = M ∧ fr 0 = .ref t o l.length ∧ fr 1 = .ref t' o' l'.length ∧ fr 5 = .I k ∧ ∀ j, j < k → l.getD j 0 = l'.getD j 0) l.length
      ⟨0, by omega, rfl, rfl, rfl, rfl, by omega⟩ ?_
    rintro m fr M' ⟨k, hk, rfl, h0, h1, h5, hj⟩
    simp (disch := omega) only [h0, h1, h5, ↓SXd, SXu, slBounds, ↓sop, ↓aop, ↓reduceIte, LV.cells, AOp.dst, LV.I, LV.B, LV.U, LV.S, LV.nil, Nat.reduceEqDiff, Nat.reduceAdd, Nat.reduceMul, Nat.reduceSub, Nat.reduceLeDiff, Nat.reduceBEq, Nat.reduceDiv, Nat.reduceMod, Int.reduceToNat, Int.reduceLT, Int.reduceLE, Int.reduceAdd, Int.reduceSub, Int.reduceMul, Int.reduceEq, Int.reduceNeg, reduceCtorEq, resV, resAll, ARes.ev, LV.flat, ite_true, ite_false, exists_eq_left', exists_eq_left, keyOf, implies_true, fillC, capOf]
    refine condC_dec (fun hlt => ?_) (fun hlt => ?_)
    · simp (disch := omega) only [h0, h1, h5, Ints.get, h, Ints.get, h', ↓SXd, SXu, slBounds, ↓sop, ↓aop, ↓reduceIte, LV.cells, AOp.dst, LV.I, LV.B, LV.U, LV.S, LV.nil, Nat.reduceEqDiff, Nat.reduceAdd, Nat.reduceMul, Nat.reduceSub, Nat.reduceLeDiff, Nat.reduceBEq, Nat.reduceDiv, Nat.reduceMod, Int.reduceToNat, Int.reduceLT, Int.reduceLE, Int.reduceAdd, Int.reduceSub, Int.reduceMul, Int.reduceEq, Int.reduceNeg, reduceCtorEq, resV, resAll, ARes.ev, LV.flat, ite_true, ite_false, exists_eq_left', exists_eq_left, keyOf, implies_true, fillC, capOf]
      refine condC_dec (fun he => ?_) (fun he => ?_)
      rotate_left
      · simp (disch := omega) only [h0, h1, h5, ↓SXd, SXu, slBounds, ↓sop, ↓aop, ↓reduceIte, LV.cells, AOp.dst, LV.I, LV.B, LV.U, LV.S, LV.nil, Nat.reduceEqDiff, Nat.reduceAdd, Nat.reduceMul, Nat.reduceSub, Nat.reduceLeDiff, Nat.reduceBEq, Nat.reduceDiv, Nat.reduceMod, Int.reduceToNat, Int.reduceLT, Int.reduceLE, Int.reduceAdd, Int.reduceSub, Int.reduceMul, Int.reduceEq, Int.reduceNeg, reduceCtorEq, resV, resAll, ARes.ev, LV.flat, ite_true, ite_false, exists_eq_left', exists_eq_left, keyOf, implies_true, fillC, capOf]
        rw [show decide (l = l') = false from decide_eq_false (fun e => he (by rw [e]))]
        exact cmp_drop0 rfl
      · simp (disch := omega) only [h0, h1, h5, ↓SXd, SXu, slBounds, ↓sop, ↓aop, ↓reduceIte, LV.cells, AOp.dst, LV.I, LV.B, LV.U, LV.S, LV.nil, Nat.reduceEqDiff, Nat.reduceAdd, Nat.reduceMul, Nat.reduceSub, Nat.reduceLeDiff, Nat.reduceBEq, Nat.reduceDiv, Nat.reduceMod, Int.reduceToNat, Int.reduceLT, Int.reduceLE, Int.reduceAdd, Int.reduceSub, Int.reduceMul, Int.reduceEq, Int.reduceNeg, reduceCtorEq, resV, resAll, ARes.ev, LV.flat, ite_true, ite_false, exists_eq_left', exists_eq_left, keyOf, implies_true, fillC, capOf]
        exact ⟨m - 1, by omega, k + 1, by omega, rfl, h0, h1, eqI (natI _), fun j hj1 => by
          rcases Nat.lt_or_ge j k with h2 | h2
          · exact hj j h2
          · rw [show j = k by omega]; exact he⟩
    · simp (disch := omega) only [h0, h1, h5, ↓SXd, SXu, slBounds, ↓sop, ↓aop, ↓reduceIte, LV.cells, AOp.dst, LV.I, LV.B, LV.U, LV.S, LV.nil, Nat.reduceEqDiff, Nat.reduceAdd, Nat.reduceMul, Nat.reduceSub, Nat.reduceLeDiff, Nat.reduceBEq, Nat.reduceDiv, Nat.reduceMod, Int.reduceToNat, Int.reduceLT, Int.reduceLE, Int.reduceAdd, Int.reduceSub, Int.reduceMul, Int.reduceEq, Int.reduceNeg, reduceCtorEq, resV, resAll, ARes.ev, LV.flat, ite_true, ite_false, exists_eq_left', exists_eq_left, keyOf, implies_true, fillC, capOf]
      rw [decide_eq_true (by
        apply List.ext_getElem hl
        intro i h2 h3
        have := hj i (by omega)
        simpa [h2, h3] using this)]
      exact cmp_drop0 rfl

theorem h_eqIntS_n {l' : List Int} {v' : LV} {M : Mem} (h' : IntsV M v' l') (hn' : l'.length ≤ 1000000000) : CallsTo PG F.laws_eqIntS [.nil, v'] M (.B (decide ([] = l'))) M := by
  refine calls_run K.laws_eqIntS rfl ?_
  have hlen : lenV v' = some (l'.length : Int) := by
    rcases h' with ⟨rfl, rfl⟩ | ⟨t, o, rfl, _⟩ <;> rfl
  simp (disch := omega) only [C.laws_eqIntS, hlen, ↓SXd, SXu, slBounds, ↓sop, ↓aop, ↓reduceIte, LV.cells, AOp.dst, LV.I, LV.B, LV.U, LV.S, LV.nil, Nat.reduceEqDiff, Nat.reduceAdd, Nat.reduceMul, Nat.reduceSub, Nat.reduceLeDiff, Nat.reduceBEq, Nat.reduceDiv, Nat.reduceMod, Int.reduceToNat, Int.reduceLT, Int.reduceLE, Int.reduceAdd, Int.reduceSub, Int.reduceMul, Int.reduceEq, Int.reduceNeg, reduceCtorEq, resV, resAll, ARes.ev, LV.flat, ite_true, ite_false, exists_eq_left', exists_eq_left, keyOf, implies_true, fillC, capOf]
  refine condC_dec (fun hl => ?_) (fun hl => ?_)
  rotate_left
  · rw [show decide ([] = l') = false from decide_eq_false (fun e => by subst e; exact (hl rfl).elim)]
    simp (disch := omega) only [C.laws_eqIntS, ↓SXd, SXu, slBounds, ↓sop, ↓aop, ↓reduceIte, LV.cells, AOp.dst, LV.I, LV.B, LV.U, LV.S, LV.nil, Nat.reduceEqDiff, Nat.reduceAdd, Nat.reduceMul, Nat.reduceSub, Nat.reduceLeDiff, Nat.reduceBEq, Nat.reduceDiv, Nat.reduceMod, Int.reduceToNat, Int.reduceLT, Int.reduceLE, Int.reduceAdd, Int.reduceSub, Int.reduceMul, Int.reduceEq, Int.reduceNeg, reduceCtorEq, resV, resAll, ARes.ev, LV.flat, ite_true, ite_false, exists_eq_left', exists_eq_left, keyOf, implies_true, fillC, capOf]
    exact cmp_drop0 rfl
  · simp (disch := omega) only [C.laws_eqIntS, ↓SXd, SXu, slBounds, ↓sop, ↓aop, ↓reduceIte, LV.cells, AOp.dst, LV.I, LV.B, LV.U, LV.S, LV.nil, Nat.reduceEqDiff, Nat.reduceAdd, Nat.reduceMul, Nat.reduceSub, Nat.reduceLeDiff, Nat.reduceBEq, Nat.reduceDiv, Nat.reduceMod, Int.reduceToNat, Int.reduceLT, Int.reduceLE, Int.reduceAdd, Int.reduceSub, Int.reduceMul, Int.reduceEq, Int.reduceNeg, reduceCtorEq, resV, resAll, ARes.ev, LV.flat, ite_true, ite_false, exists_eq_left', exists_eq_left, keyOf, implies_true, fillC, capOf]
    refine ev_loop (fun m fr M' => M' = M ∧ fr 0 = .nil ∧ fr 5 = .I 0) 0 ⟨rfl, rfl, rfl⟩ ?_
    rintro m fr M' ⟨rfl, h0, h5⟩
    simp (disch := omega) only [h0, h5, ↓SXd, SXu, slBounds, ↓sop, ↓aop, ↓reduceIte, LV.cells, AOp.dst, LV.I, LV.B, LV.U, LV.S, LV.nil, Nat.reduceEqDiff, Nat.reduceAdd, Nat.reduceMul, Nat.reduceSub, Nat.reduceLeDiff, Nat.reduceBEq, Nat.reduceDiv, Nat.reduceMod, Int.reduceToNat, Int.reduceLT, Int.reduceLE, Int.reduceAdd, Int.reduceSub, Int.reduceMul, Int.reduceEq, Int.reduceNeg, reduceCtorEq, resV, resAll, ARes.ev, LV.flat, ite_true, ite_false, exists_eq_left', exists_eq_left, keyOf, implies_true, fillC, capOf]
    rw [decide_eq_true (List.eq_nil_of_length_eq_zero (by simpa using hl.symm)).symm]
    exact cmp_drop0 rfl

theorem h_eqIntS_rn {l : List Int} {t o : Nat} {M : Mem} (h : Ints M t o l) (hn : l.length ≤ 1000000000) : CallsTo PG F.laws_eqIntS [.ref t o l.length, .nil] M (.B (decide (l = []))) M := by
  refine calls_run K.laws_eqIntS rfl ?_
  simp (disch := omega) only [C.laws_eqIntS, ↓SXd, SXu, slBounds, ↓sop, ↓aop, ↓reduceIte, LV.cells, AOp.dst, LV.I, LV.B, LV.U, LV.S, LV.nil, Nat.reduceEqDiff, Nat.reduceAdd, Nat.reduceMul, Nat.reduceSub, Nat.reduceLeDiff, Nat.reduceBEq, Nat.reduceDiv, Nat.reduceMod, Int.reduceToNat, Int.reduceLT, Int.reduceLE, Int.reduceAdd, Int.reduceSub, Int.reduceMul, Int.reduceEq, Int.reduceNeg, reduceCtorEq, resV, resAll, ARes.ev, LV.flat, ite_true, ite_false, exists_eq_left', exists_eq_left, keyOf, implies_true, fillC, capOf]
  refine condC_dec (fun hl => ?_) (fun hl => ?_)
  rotate_left
  · rw [show decide (l = []) = false from decide_eq_false (fun e => by subst e; exact (hl rfl).elim)]
    simp (disch := omega) only [C.laws_eqIntS, ↓SXd, SXu, slBounds, ↓sop, ↓aop, ↓reduceIte, LV.cells, AOp.dst, LV.I, LV.B, LV.U, LV.S, LV.nil, Nat.reduceEqDiff, Nat.reduceAdd, Nat.reduceMul, Nat.reduceSub, Nat.reduceLeDiff, Nat.reduceBEq, Nat.reduceDiv, Nat.reduceMod, Int.reduceToNat, Int.reduceLT, Int.reduceLE, Int.reduceAdd, Int.reduceSub, Int.reduceMul, Int.reduceEq, Int.reduceNeg, reduceCtorEq, resV, resAll, ARes.ev, LV.flat, ite_true, ite_false, exists_eq_left', exists_eq_left, keyOf, implies_true, fillC, capOf]
    exact cmp_drop0 rfl
  · simp (disch := omega) only [C.laws_eqIntS, ↓SXd, SXu, slBounds, ↓sop, ↓aop, ↓reduceIte, LV.cells, AOp.dst, LV.I, LV.B, LV.U, LV.S, LV.nil, Nat.reduceEqDiff, Nat.reduceAdd, Nat.reduceMul, Nat.reduceSub, Nat.reduceLeDiff, Nat.reduceBEq, Nat.reduceDiv, Nat.reduceMod, Int.reduceToNat, Int.reduceLT, Int.reduceLE, Int.reduceAdd, Int.reduceSub, Int.reduceMul, Int.reduceEq, Int.reduceNeg, reduceCtorEq, resV, resAll, ARes.ev, LV.flat, ite_true, ite_false, exists_eq_left', exists_eq_left, keyOf, implies_true, fillC, capOf]
    have hz : l.length = 0 := by omega
    refine ev_loop (fun m fr M' => M' = M ∧ fr 0 = .ref t o l.length ∧ fr 5 = .I 0) 0 ⟨rfl, rfl, rfl⟩ ?_
    rintro m fr M' ⟨rfl, h0, h5⟩
    simp (disch := omega) only [h0, h5, hz, ↓SXd, SXu, slBounds, ↓sop, ↓aop, ↓reduceIte, LV.cells, AOp.dst, LV.I, LV.B, LV.U, LV.S, LV.nil, Nat.reduceEqDiff, Nat.reduceAdd, Nat.reduceMul, Nat.reduceSub, Nat.reduceLeDiff, Nat.reduceBEq, Nat.reduceDiv, Nat.reduceMod, Int.reduceToNat, Int.reduceLT, Int.reduceLE, Int.reduceAdd, Int.reduceSub, Int.reduceMul, Int.reduceEq, Int.reduceNeg, reduceCtorEq, resV, resAll, ARes.ev, LV.flat, ite_true, ite_false, exists_eq_left', exists_eq_left, keyOf, implies_true, fillC, capOf]
    rw [decide_eq_true (List.eq_nil_of_length_eq_zero hz)]
    exact cmp_drop0 rfl

theorem h_eqIntS {l l' : List Int} {v v' : LV} {M : Mem} (h : IntsV M v l) (h' : IntsV M v' l') (hn : l.length ≤ 1000000000) (hn' : l'.length ≤ 1000000000) :
    CallsTo PG F.laws_eqIntS [v, v'] M (.B (decide (l = l'))) M := by
  rcases h with ⟨rfl, rfl⟩ | ⟨t, o, rfl, h⟩
  · exact h_eqIntS_n h' hn'
  · rcases h' with ⟨rfl, rfl⟩ | ⟨t', o', rfl, h'⟩
    · exact h_eqIntS_rn h hn
    · exact h_eqIntS_rr h h' hn hn'

theorem h_heldIntS {v : LV} {n : Nat} {k : Int} {M : Mem} (h : IntsV M v (marks k n)) (hn : n ≤ 1000000000) (hk : 0 ≤ k ∧ k ≤ 1000000000) :
    CallsTo PG F.laws_heldIntS [v, .I k] M (.I (k + n)) M := by
  refine calls_run K.laws_heldIntS rfl ?_
  have hlen : lenV v = some (n : Int) := by
    rcases h with ⟨rfl, h⟩ | ⟨t, o, rfl, _⟩
    · have := congrArg List.length h; rw [marks_len] at this; simp at this; subst this; rfl
    · rw [marks_len]; rfl
  simp (disch := omega) only [C.laws_heldIntS, ↓SXd, SXu, slBounds, ↓sop, ↓aop, ↓reduceIte, LV.cells, AOp.dst, LV.I, LV.B, LV.U, LV.S, LV.nil, Nat.reduceEqDiff, Nat.reduceAdd, Nat.reduceMul, Nat.reduceSub, Nat.reduceLeDiff, Nat.reduceBEq, Nat.reduceDiv, Nat.reduceMod, Int.reduceToNat, Int.reduceLT, Int.reduceLE, Int.reduceAdd, Int.reduceSub, Int.reduceMul, Int.reduceEq, Int.reduceNeg, reduceCtorEq, resV, resAll, ARes.ev, LV.flat, ite_true, ite_false, exists_eq_left', exists_eq_left, keyOf, implies_true, fillC, capOf]
  refine ev_loop (fun m fr M' => ∃ i : Nat, i + m = n ∧ M' = M ∧ fr 0 = v ∧ fr 1 = .I (k + i) ∧ fr 5 = .I i) n ⟨0, by omega, rfl, rfl, eqI (by omega), rfl⟩ ?_
  rintro m fr M' ⟨i, hi, rfl, h0, h1, h5⟩
  simp (disch := omega) only [h0, h1, h5, hlen, ↓SXd, SXu, slBounds, ↓sop, ↓aop, ↓reduceIte, LV.cells, AOp.dst, LV.I, LV.B, LV.U, LV.S, LV.nil, Nat.reduceEqDiff, Nat.reduceAdd, Nat.reduceMul, Nat.reduceSub, Nat.reduceLeDiff, Nat.reduceBEq, Nat.reduceDiv, Nat.reduceMod, Int.reduceToNat, Int.reduceLT, Int.reduceLE, Int.reduceAdd, Int.reduceSub, Int.reduceMul, Int.reduceEq, Int.reduceNeg, reduceCtorEq, resV, resAll, ARes.ev, LV.flat, ite_true, ite_false, exists_eq_left', exists_eq_left, keyOf, implies_true, fillC, capOf]
  refine condC_dec (fun hlt => ?_) (fun hlt => ?_)
  · rcases h with ⟨_, h⟩ | ⟨t, o, rfl, h⟩
    · have := congrArg List.length h; rw [marks_len] at this; simp at this; omega
    · have hml := marks_len k n
      have hg := Ints.get h (k := i) (by omega)
      rw [marks_get (by omega)] at hg
      have h0' : fr 0 = .ref t o n := by rw [h0, hml]
      simp (disch := omega) only [h0', h1, h5, hml, hg, ↓SXd, SXu, slBounds, ↓sop, ↓aop, ↓reduceIte, LV.cells, AOp.dst, LV.I, LV.B, LV.U, LV.S, LV.nil, Nat.reduceEqDiff, Nat.reduceAdd, Nat.reduceMul, Nat.reduceSub, Nat.reduceLeDiff, Nat.reduceBEq, Nat.reduceDiv, Nat.reduceMod, Int.reduceToNat, Int.reduceLT, Int.reduceLE, Int.reduceAdd, Int.reduceSub, Int.reduceMul, Int.reduceEq, Int.reduceNeg, reduceCtorEq, resV, resAll, ARes.ev, LV.flat, ite_true, ite_false, exists_eq_left', exists_eq_left, keyOf, implies_true, fillC, capOf]
      exact ⟨m - 1, by omega, i + 1, by omega, rfl, h0', eqI (by omega), eqI (natI _)⟩
  · simp (disch := omega) only [h0, h1, h5, ↓SXd, SXu, slBounds, ↓sop, ↓aop, ↓reduceIte, LV.cells, AOp.dst, LV.I, LV.B, LV.U, LV.S, LV.nil, Nat.reduceEqDiff, Nat.reduceAdd, Nat.reduceMul, Nat.reduceSub, Nat.reduceLeDiff, Nat.reduceBEq, Nat.reduceDiv, Nat.reduceMod, Int.reduceToNat, Int.reduceLT, Int.reduceLE, Int.reduceAdd, Int.reduceSub, Int.reduceMul, Int.reduceEq, Int.reduceNeg, reduceCtorEq, resV, resAll, ARes.ev, LV.flat, ite_true, ite_false, exists_eq_left', exists_eq_left, keyOf, implies_true, fillC, capOf]
    rw [show i = n by omega]
    exact cmp_drop0 rfl

theorem marks_step {k : Int} {l : List Int} {i : Nat} (h : i < l.length) : (marks k i ++ l.drop i).set i (k + i) = marks k (i + 1) ++ l.drop (i + 1) := by
  rw [List.set_append_right _ _ (by rw [marks_len]; omega), marks_len, Nat.sub_self, List.drop_eq_getElem_cons h, List.set_cons_zero]
  simp [marks, List.range_succ, List.append_assoc]

/-- What a marking leaves. -/
def Marked (M : Mem) (v : LV) (k : Int) (n : Nat) (r : LV) (N : Mem) : Prop := r = .I (k + n) ∧ SlI N v (marks k n) ∧ N.length = M.length ∧ ∀ u, Off v u → N[u]? = M[u]?

theorem h_markIntS {v : LV} {l : List Int} {k : Int} {M : Mem} (h : SlI M v l) (hn : l.length ≤ 1000000000) (hk : 0 ≤ k ∧ k ≤ 1000000000) :
    CallsR PG F.laws_markIntS [v, .I k] M (Marked M v k l.length) := by
  refine callsR_run K.laws_markIntS rfl ?_
  rcases h with ⟨rfl, rfl⟩ | ⟨t, ex, rfl, h⟩
  · simp (disch := omega) only [C.laws_markIntS, ↓SXd, SXu, slBounds, ↓sop, ↓aop, ↓reduceIte, LV.cells, AOp.dst, LV.I, LV.B, LV.U, LV.S, LV.nil, Nat.reduceEqDiff, Nat.reduceAdd, Nat.reduceMul, Nat.reduceSub, Nat.reduceLeDiff, Nat.reduceBEq, Nat.reduceDiv, Nat.reduceMod, Int.reduceToNat, Int.reduceLT, Int.reduceLE, Int.reduceAdd, Int.reduceSub, Int.reduceMul, Int.reduceEq, Int.reduceNeg, reduceCtorEq, resV, resAll, ARes.ev, LV.flat, ite_true, ite_false, exists_eq_left', exists_eq_left, keyOf, implies_true, fillC, capOf]
    refine ev_loop (fun m fr M' => M' = M ∧ fr 0 = .nil ∧ fr 1 = .I k ∧ fr 5 = .I 0) 0 ⟨rfl, rfl, rfl, rfl⟩ ?_
    rintro m fr M' ⟨rfl, h0, h1, h5⟩
    simp (disch := omega) only [h0, h1, h5, ↓SXd, SXu, slBounds, ↓sop, ↓aop, ↓reduceIte, LV.cells, AOp.dst, LV.I, LV.B, LV.U, LV.S, LV.nil, Nat.reduceEqDiff, Nat.reduceAdd, Nat.reduceMul, Nat.reduceSub, Nat.reduceLeDiff, Nat.reduceBEq, Nat.reduceDiv, Nat.reduceMod, Int.reduceToNat, Int.reduceLT, Int.reduceLE, Int.reduceAdd, Int.reduceSub, Int.reduceMul, Int.reduceEq, Int.reduceNeg, reduceCtorEq, resV, resAll, ARes.ev, LV.flat, ite_true, ite_false, exists_eq_left', exists_eq_left, keyOf, implies_true, fillC, capOf]
    exact ⟨eqI (by simp), (SlI.nil (N := M') : SlI M' LV.nil []), rfl, fun _ _ => rfl⟩
  · simp (disch := omega) only [C.laws_markIntS, ↓SXd, SXu, slBounds, ↓sop, ↓aop, ↓reduceIte, LV.cells, AOp.dst, LV.I, LV.B, LV.U, LV.S, LV.nil, Nat.reduceEqDiff, Nat.reduceAdd, Nat.reduceMul, Nat.reduceSub, Nat.reduceLeDiff, Nat.reduceBEq, Nat.reduceDiv, Nat.reduceMod, Int.reduceToNat, Int.reduceLT, Int.reduceLE, Int.reduceAdd, Int.reduceSub, Int.reduceMul, Int.reduceEq, Int.reduceNeg, reduceCtorEq, resV, resAll, ARes.ev, LV.flat, ite_true, ite_false, exists_eq_left', exists_eq_left, keyOf, implies_true, fillC, capOf]
    refine ev_loop (fun m fr M' => ∃ i : Nat, i + m = l.length ∧ M'.length = M.length ∧ Live M' t (.row (intL (marks k i ++ (l ++ ex).drop i)) true 1) ∧ (∀ u, u ≠ t → M'[u]? = M[u]?) ∧ fr 0 = .ref t 0 l.length ∧ fr 1 = .I (k + i) ∧ fr 5 = .I i) l.length
      ⟨0, by omega, rfl, by simpa [marks] using h, fun _ _ => rfl, rfl, eqI (by omega), rfl⟩ ?_
    rintro m fr M' ⟨i, hi, hlen, hlive, hoff, h0, h1, h5⟩
    simp (disch := omega) only [h0, h1, h5, ↓SXd, SXu, slBounds, ↓sop, ↓aop, ↓reduceIte, LV.cells, AOp.dst, LV.I, LV.B, LV.U, LV.S, LV.nil, Nat.reduceEqDiff, Nat.reduceAdd, Nat.reduceMul, Nat.reduceSub, Nat.reduceLeDiff, Nat.reduceBEq, Nat.reduceDiv, Nat.reduceMod, Int.reduceToNat, Int.reduceLT, Int.reduceLE, Int.reduceAdd, Int.reduceSub, Int.reduceMul, Int.reduceEq, Int.reduceNeg, reduceCtorEq, resV, resAll, ARes.ev, LV.flat, ite_true, ite_false, exists_eq_left', exists_eq_left, keyOf, implies_true, fillC, capOf]
    refine condC_dec (fun hlt => ?_) (fun hlt => ?_)
    · simp (disch := omega) only [h0, h1, h5, ↓SXd, SXu, slBounds, ↓sop, ↓aop, ↓reduceIte, LV.cells, AOp.dst, LV.I, LV.B, LV.U, LV.S, LV.nil, Nat.reduceEqDiff, Nat.reduceAdd, Nat.reduceMul, Nat.reduceSub, Nat.reduceLeDiff, Nat.reduceBEq, Nat.reduceDiv, Nat.reduceMod, Int.reduceToNat, Int.reduceLT, Int.reduceLE, Int.reduceAdd, Int.reduceSub, Int.reduceMul, Int.reduceEq, Int.reduceNeg, reduceCtorEq, resV, resAll, ARes.ev, LV.flat, ite_true, ite_false, exists_eq_left', exists_eq_left, keyOf, implies_true, fillC, capOf]
      refine memK_int hlive (by simp [marks_len]; omega) fun N l1 l2 l3 => ?_
      simp (disch := omega) only [h0, h1, h5, ↓SXd, SXu, slBounds, ↓sop, ↓aop, ↓reduceIte, LV.cells, AOp.dst, LV.I, LV.B, LV.U, LV.S, LV.nil, Nat.reduceEqDiff, Nat.reduceAdd, Nat.reduceMul, Nat.reduceSub, Nat.reduceLeDiff, Nat.reduceBEq, Nat.reduceDiv, Nat.reduceMod, Int.reduceToNat, Int.reduceLT, Int.reduceLE, Int.reduceAdd, Int.reduceSub, Int.reduceMul, Int.reduceEq, Int.reduceNeg, reduceCtorEq, resV, resAll, ARes.ev, LV.flat, ite_true, ite_false, exists_eq_left', exists_eq_left, keyOf, implies_true, fillC, capOf]
      rw [marks_step (by simp; omega)] at l2
      exact ⟨m - 1, by omega, i + 1, by omega, by omega, l2, fun u hu => by
        rcases Nat.lt_or_ge u M'.length with h2 | h2
        · rw [l3 u hu h2]; exact hoff u hu
        · rw [List.getElem?_eq_none (by omega), List.getElem?_eq_none (by omega)], h0, eqI (by omega), eqI (natI _)⟩
    · simp (disch := omega) only [h0, h1, h5, ↓SXd, SXu, slBounds, ↓sop, ↓aop, ↓reduceIte, LV.cells, AOp.dst, LV.I, LV.B, LV.U, LV.S, LV.nil, Nat.reduceEqDiff, Nat.reduceAdd, Nat.reduceMul, Nat.reduceSub, Nat.reduceLeDiff, Nat.reduceBEq, Nat.reduceDiv, Nat.reduceMod, Int.reduceToNat, Int.reduceLT, Int.reduceLE, Int.reduceAdd, Int.reduceSub, Int.reduceMul, Int.reduceEq, Int.reduceNeg, reduceCtorEq, resV, resAll, ARes.ev, LV.flat, ite_true, ite_false, exists_eq_left', exists_eq_left, keyOf, implies_true, fillC, capOf]
      have : i = l.length := by omega
      subst this
      refine ⟨rfl, .inr ⟨t, ex, by rw [marks_len], ?_⟩, hlen, fun u hu => hoff u hu⟩
      have e : (l ++ ex).drop l.length = ex := by simp
      rw [e] at hlive; exact hlive
end Go.Ab

/- The abstract code of some functions (written by a program of mine from the translation, by way of prepF). -/
namespace Go.Ab.C
open Go.Ab
def laws_toIntA3 : AFn :=
  ⟨1, 15, [.cellN 2 3],
    .seq (.ops [(none, .box 1 (.t 0)),
       (none, .alloc 2 [(.I 0), (.I 0), (.I 0)])])
    (.seq (.ops [(none, .alloc 3 [(.I 0), (.I 0), (.I 0)])])
     (.seq (.seq (.ops [(none, .mv 4 (.c (.I 0)))])
       (.block 0 (.loop (.seq (.seq (.ops [(none, .mv 5 (.t 4)),
              (none, .bin 6 .lss (.t 5) (.c (.I 3)))])
           (.cond (.t 6) (.skip)
            (.exit 0)))
          (.seq (.block 1 (.ops [(none, .mv 9 (.t 4)),
               (none, .mv 10 (.t 4)),
               (none, .idxA 11 3 1 (.t 1) (.t 10)),
               (none, .load1 12 (.t 11)),
               (none, .idxA 13 3 1 (.t 3) (.t 9)),
               (none, .store 1 (.t 13) (.t 12))]))
           (.ops [(none, .mv 7 (.t 4)),
              (none, .bin 8 .add (.t 7) (.c (.I 1))),
              (none, .mv 4 (.t 8))]))))))
      (.seq (.ops [(none, .loadN 14 3 (.t 3)),
          (none, .store 3 (.t 2) (.t 14))])
       (.ret))))⟩
def laws_toIntA3S : AFn :=
  ⟨1, 23, [.tmp 2],
    .seq (.ops [(none, .mv 2 (.c .nil))])
    (.seq (.ops [(none, .mv 5 (.t 0)),
        (none, .len 6 (.t 5)),
        (none, .mksl 7 3 24 [(.I 0), (.I 0), (.I 0)] (.t 6) (.t 6)),
        (none, .mv 3 (.t 7))])
     (.seq (.seq (.ops [(none, .mv 4 (.c (.I 0)))])
       (.block 0 (.loop (.seq (.seq (.ops [(none, .mv 8 (.t 4)),
              (none, .mv 9 (.t 0)),
              (none, .len 10 (.t 9)),
              (none, .bin 11 .lss (.t 8) (.t 10))])
           (.cond (.t 11) (.skip)
            (.exit 0)))
          (.seq (.block 1 (.ops [(none, .mv 14 (.t 3)),
               (none, .mv 15 (.t 4)),
               (none, .mv 16 (.t 0)),
               (none, .mv 17 (.t 4)),
               (none, .idxS 18 3 (.t 16) (.t 17)),
               (none, .loadN 19 3 (.t 18)),
               (none, .call (some 20) F.laws_toIntA3 [(.t 19)]),
               (none, .idxS 21 3 (.t 14) (.t 15)),
               (none, .store 3 (.t 21) (.t 20))]))
           (.ops [(none, .mv 12 (.t 4)),
              (none, .bin 13 .add (.t 12) (.c (.I 1))),
              (none, .mv 4 (.t 13))]))))))
      (.seq (.ops [(none, .mv 22 (.t 3)),
          (none, .mv 2 (.t 22))])
       (.ret))))⟩
def laws_toHeap : AFn :=
  ⟨1, 18, [.cellN 2 4],
    .seq (.ops [(none, .box 1 (.t 0)),
       (none, .alloc 2 [(.I 0), (.I 0), (.I 0), .nil])])
    (.seq (.ops [(none, .alloc 3 [(.I 0), (.I 0), (.I 0), .nil])])
     (.seq (.ops [(none, .fieldAddr 4 (.t 1) 0),
         (none, .load1 5 (.t 4)),
         (none, .fieldAddr 6 (.t 3) 0),
         (none, .store 1 (.t 6) (.t 5))])
      (.seq (.ops [(none, .fieldAddr 7 (.t 1) 1),
          (none, .load1 8 (.t 7)),
          (none, .fieldAddr 9 (.t 3) 1),
          (none, .store 1 (.t 9) (.t 8))])
       (.seq (.ops [(none, .fieldAddr 10 (.t 1) 2),
           (none, .load1 11 (.t 10)),
           (none, .fieldAddr 12 (.t 3) 2),
           (none, .store 1 (.t 12) (.t 11))])
        (.seq (.ops [(none, .fieldAddr 13 (.t 1) 3),
            (none, .load1 14 (.t 13)),
            (none, .call (some 15) F.laws_toIntA3S [(.t 14)]),
            (none, .fieldAddr 16 (.t 3) 3),
            (none, .store 1 (.t 16) (.t 15))])
         (.seq (.ops [(none, .loadN 17 4 (.t 3)),
             (none, .store 4 (.t 2) (.t 17))])
          (.ret)))))))⟩
def laws_szIntA3S : AFn :=
  ⟨2, 12, [.tmp 4],
    .seq (.ops [(none, .mv 4 (.c (.I 0)))])
    (.seq (.ops [(none, .mv 5 (.t 1)),
        (none, .mv 6 (.t 0)),
        (none, .len 7 (.t 6)),
        (none, .bin 8 .sub (.t 5) (.t 7)),
        (none, .mv 1 (.t 8))])
     (.seq (.seq (.ops [(none, .mv 9 (.t 1)),
          (none, .bin 10 .lss (.t 9) (.c (.I 0)))])
       (.cond (.t 10) (.seq (.ops [(none, .mv 4 (.c (.I (-1))))])
         (.ret))
        (.skip)))
      (.seq (.ops [(none, .mv 11 (.t 1)),
          (none, .mv 4 (.t 11))])
       (.ret))))⟩
def laws_szHeap : AFn :=
  ⟨2, 12, [.tmp 4],
    .seq (.ops [(none, .box 2 (.t 0)),
       (none, .mv 4 (.c (.I 0)))])
    (.seq (.ops [(none, .fieldAddr 5 (.t 2) 3),
        (none, .load1 6 (.t 5)),
        (none, .mv 7 (.t 1)),
        (none, .call (some 8) F.laws_szIntA3S [(.t 6), (.t 7)]),
        (none, .mv 1 (.t 8))])
     (.seq (.seq (.ops [(none, .mv 9 (.t 1)),
          (none, .bin 10 .lss (.t 9) (.c (.I 0)))])
       (.cond (.t 10) (.seq (.ops [(none, .mv 4 (.c (.I (-1))))])
         (.ret))
        (.skip)))
      (.seq (.ops [(none, .mv 11 (.t 1)),
          (none, .mv 4 (.t 11))])
       (.ret))))⟩
def laws_eqIntA3 : AFn :=
  ⟨2, 17, [.tmp 4],
    .seq (.ops [(none, .box 2 (.t 0)),
       (none, .box 3 (.t 1)),
       (none, .mv 4 (.c (.B false)))])
    (.seq (.seq (.ops [(none, .mv 5 (.c (.I 0)))])
      (.block 0 (.loop (.seq (.seq (.ops [(none, .mv 6 (.t 5)),
             (none, .bin 7 .lss (.t 6) (.c (.I 3)))])
          (.cond (.t 7) (.skip)
           (.exit 0)))
         (.seq (.block 1 (.seq (.draw [⟨(none, .mv 10 (.t 5)), [], []⟩,
               ⟨(none, .idxA 11 3 1 (.t 2) (.t 10)), [], []⟩,
               ⟨(none, .load1 12 (.t 11)), [], []⟩,
               ⟨(none, .mv 13 (.t 5)), [], []⟩,
               ⟨(none, .idxA 14 3 1 (.t 3) (.t 13)), [], []⟩,
               ⟨(none, .load1 15 (.t 14)), [], []⟩,
               ⟨(none, .bin 16 .neq (.t 12) (.t 15)), [], []⟩])
            (.cond (.t 16) (.seq (.ops [(none, .mv 4 (.c (.B false)))])
              (.ret))
             (.skip))))
          (.ops [(none, .mv 8 (.t 5)),
             (none, .bin 9 .add (.t 8) (.c (.I 1))),
             (none, .mv 5 (.t 9))]))))))
     (.seq (.ops [(none, .mv 4 (.c (.B true)))])
      (.ret)))⟩
def laws_eqIntA3S : AFn :=
  ⟨2, 27, [.tmp 4],
    .seq (.ops [(none, .mv 4 (.c (.B false)))])
    (.seq (.seq (.ops [(none, .mv 6 (.t 0)),
         (none, .len 7 (.t 6)),
         (none, .mv 8 (.t 1)),
         (none, .len 9 (.t 8)),
         (none, .bin 10 .neq (.t 7) (.t 9))])
      (.cond (.t 10) (.seq (.ops [(none, .mv 4 (.c (.B false)))])
        (.ret))
       (.skip)))
     (.seq (.seq (.ops [(none, .mv 5 (.c (.I 0)))])
       (.block 0 (.loop (.seq (.seq (.ops [(none, .mv 11 (.t 5)),
              (none, .mv 12 (.t 0)),
              (none, .len 13 (.t 12)),
              (none, .bin 14 .lss (.t 11) (.t 13))])
           (.cond (.t 14) (.skip)
            (.exit 0)))
          (.seq (.block 1 (.seq (.draw [⟨(none, .mv 17 (.t 0)), [], []⟩,
                ⟨(none, .mv 18 (.t 5)), [], []⟩,
                ⟨(none, .idxS 19 3 (.t 17) (.t 18)), [], []⟩,
                ⟨(none, .loadN 20 3 (.t 19)), [], []⟩,
                ⟨(none, .mv 21 (.t 1)), [], []⟩,
                ⟨(none, .mv 22 (.t 5)), [], []⟩,
                ⟨(none, .idxS 23 3 (.t 21) (.t 22)), [], []⟩,
                ⟨(none, .loadN 24 3 (.t 23)), [], []⟩,
                ⟨(none, .call (some 25) F.laws_eqIntA3 [(.t 20), (.t 24)]), [], []⟩,
                ⟨(none, .un 26 .not (.t 25)), [], []⟩])
             (.cond (.t 26) (.seq (.ops [(none, .mv 4 (.c (.B false)))])
               (.ret))
              (.skip))))
           (.ops [(none, .mv 15 (.t 5)),
              (none, .bin 16 .add (.t 15) (.c (.I 1))),
              (none, .mv 5 (.t 16))]))))))
      (.seq (.ops [(none, .mv 4 (.c (.B true)))])
       (.ret))))⟩
def laws_eqHeap : AFn :=
  ⟨2, 26, [.tmp 4],
    .seq (.ops [(none, .box 2 (.t 0)),
       (none, .box 3 (.t 1)),
       (none, .mv 4 (.c (.B false)))])
    (.seq (.seq (.ops [(none, .fieldAddr 5 (.t 2) 0),
         (none, .load1 6 (.t 5)),
         (none, .fieldAddr 7 (.t 3) 0),
         (none, .load1 8 (.t 7)),
         (none, .bin 9 .neq (.t 6) (.t 8))])
      (.cond (.t 9) (.seq (.ops [(none, .mv 4 (.c (.B false)))])
        (.ret))
       (.skip)))
     (.seq (.seq (.ops [(none, .fieldAddr 10 (.t 2) 1),
          (none, .load1 11 (.t 10)),
          (none, .fieldAddr 12 (.t 3) 1),
          (none, .load1 13 (.t 12)),
          (none, .bin 14 .neq (.t 11) (.t 13))])
       (.cond (.t 14) (.seq (.ops [(none, .mv 4 (.c (.B false)))])
         (.ret))
        (.skip)))
      (.seq (.seq (.ops [(none, .fieldAddr 15 (.t 2) 2),
           (none, .load1 16 (.t 15)),
           (none, .fieldAddr 17 (.t 3) 2),
           (none, .load1 18 (.t 17)),
           (none, .bin 19 .neq (.t 16) (.t 18))])
        (.cond (.t 19) (.seq (.ops [(none, .mv 4 (.c (.B false)))])
          (.ret))
         (.skip)))
       (.seq (.seq (.ops [(none, .fieldAddr 20 (.t 2) 3),
            (none, .load1 21 (.t 20)),
            (none, .fieldAddr 22 (.t 3) 3),
            (none, .load1 23 (.t 22)),
            (none, .call (some 24) F.laws_eqIntA3S [(.t 21), (.t 23)]),
            (none, .un 25 .not (.t 24))])
         (.cond (.t 25) (.seq (.ops [(none, .mv 4 (.c (.B false)))])
           (.ret))
          (.skip)))
        (.seq (.ops [(none, .mv 4 (.c (.B true)))])
         (.ret))))))⟩
end Go.Ab.C

/- That the program has this code. -/
namespace Go.Ab.K
open Go Go.Ab
theorem laws_toIntA3 : prepF Go.Proofs.Try.prog F.laws_toIntA3 = some C.laws_toIntA3 := by kernel_rfl
theorem laws_toIntA3S : prepF Go.Proofs.Try.prog F.laws_toIntA3S = some C.laws_toIntA3S := by kernel_rfl
theorem laws_toHeap : prepF Go.Proofs.Try.prog F.laws_toHeap = some C.laws_toHeap := by kernel_rfl
theorem laws_szIntA3S : prepF Go.Proofs.Try.prog F.laws_szIntA3S = some C.laws_szIntA3S := by kernel_rfl
theorem laws_szHeap : prepF Go.Proofs.Try.prog F.laws_szHeap = some C.laws_szHeap := by kernel_rfl
theorem laws_eqIntA3 : prepF Go.Proofs.Try.prog F.laws_eqIntA3 = some C.laws_eqIntA3 := by kernel_rfl
theorem laws_eqIntA3S : prepF Go.Proofs.Try.prog F.laws_eqIntA3S = some C.laws_eqIntA3S := by kernel_rfl
theorem laws_eqHeap : prepF Go.Proofs.Try.prog F.laws_eqHeap = some C.laws_eqHeap := by kernel_rfl
end Go.Ab.K

/- Contracts: the laws' helpers on heaps. -/
namespace Go.Ab
open Go
set_option linter.unusedSimpArgs false
set_option linter.unusedVariables false

theorem h_szIntA3S {t o n : Nat} {left : Int} {M : Mem} (h : 0 ≤ left) (h' : left ≤ 10000000) (hn : n ≤ 9223372036854775807) :
    CallsTo PG F.laws_szIntA3S [.ref t o n, .I left] M (.I (if left < n then -1 else left - n)) M := by
  refine calls_run K.laws_szIntA3S rfl ?_
  simp (disch := omega) only [C.laws_szIntA3S, ↓SXd, SXu, slBounds, ↓sop, ↓aop, ↓reduceIte, LV.cells, AOp.dst, LV.I, LV.B, LV.U, LV.S, LV.nil, Nat.reduceEqDiff, Nat.reduceAdd, Nat.reduceMul, Nat.reduceSub, Nat.reduceLeDiff, Nat.reduceBEq, Nat.reduceDiv, Nat.reduceMod, Int.reduceToNat, Int.reduceLT, Int.reduceLE, Int.reduceAdd, Int.reduceSub, Int.reduceMul, Int.reduceEq, Int.reduceNeg, reduceCtorEq, resV, resAll, ARes.ev, LV.flat, ite_true, ite_false, exists_eq_left', exists_eq_left, keyOf, implies_true, fillC, capOf]
  refine condC_dec (fun h => ?_) (fun h => ?_)
  · simp (disch := omega) only [↓SXd, SXu, slBounds, ↓sop, ↓aop, ↓reduceIte, LV.cells, AOp.dst, LV.I, LV.B, LV.U, LV.S, LV.nil, Nat.reduceEqDiff, Nat.reduceAdd, Nat.reduceMul, Nat.reduceSub, Nat.reduceLeDiff, Nat.reduceBEq, Nat.reduceDiv, Nat.reduceMod, Int.reduceToNat, Int.reduceLT, Int.reduceLE, Int.reduceAdd, Int.reduceSub, Int.reduceMul, Int.reduceEq, Int.reduceNeg, reduceCtorEq, resV, resAll, ARes.ev, LV.flat, ite_true, ite_false, exists_eq_left', exists_eq_left, keyOf, implies_true, fillC, capOf]
    rw [if_pos (by omega)]; exact cmp_drop0 rfl
  · simp (disch := omega) only [↓SXd, SXu, slBounds, ↓sop, ↓aop, ↓reduceIte, LV.cells, AOp.dst, LV.I, LV.B, LV.U, LV.S, LV.nil, Nat.reduceEqDiff, Nat.reduceAdd, Nat.reduceMul, Nat.reduceSub, Nat.reduceLeDiff, Nat.reduceBEq, Nat.reduceDiv, Nat.reduceMod, Int.reduceToNat, Int.reduceLT, Int.reduceLE, Int.reduceAdd, Int.reduceSub, Int.reduceMul, Int.reduceEq, Int.reduceNeg, reduceCtorEq, resV, resAll, ARes.ev, LV.flat, ite_true, ite_false, exists_eq_left', exists_eq_left, keyOf, implies_true, fillC, capOf]
    rw [if_neg (by omega)]; exact cmp_drop0 rfl

theorem h_szHeap {x y z : Int} {t o n : Nat} {left : Int} {M : Mem} (h : 0 ≤ left) (h' : left ≤ 10000000) (hn : n ≤ 9223372036854775807) :
    CallsTo PG F.laws_szHeap [.agg [.I x, .I y, .I z, .ref t o n], .I left] M (.I (if left < n then -1 else left - n)) M := by
  refine calls_run K.laws_szHeap rfl ?_
  simp (disch := omega) only [C.laws_szHeap, ↓SXd, SXu, slBounds, ↓sop, ↓aop, ↓reduceIte, LV.cells, AOp.dst, LV.I, LV.B, LV.U, LV.S, LV.nil, Nat.reduceEqDiff, Nat.reduceAdd, Nat.reduceMul, Nat.reduceSub, Nat.reduceLeDiff, Nat.reduceBEq, Nat.reduceDiv, Nat.reduceMod, Int.reduceToNat, Int.reduceLT, Int.reduceLE, Int.reduceAdd, Int.reduceSub, Int.reduceMul, Int.reduceEq, Int.reduceNeg, reduceCtorEq, resV, resAll, ARes.ev, LV.flat, ite_true, ite_false, exists_eq_left', exists_eq_left, keyOf, implies_true, fillC, capOf]
  refine callK_of (h_szIntA3S h h' hn) ?_
  simp (disch := omega) only [↓SXd, SXu, slBounds, ↓sop, ↓aop, ↓reduceIte, LV.cells, AOp.dst, LV.I, LV.B, LV.U, LV.S, LV.nil, Nat.reduceEqDiff, Nat.reduceAdd, Nat.reduceMul, Nat.reduceSub, Nat.reduceLeDiff, Nat.reduceBEq, Nat.reduceDiv, Nat.reduceMod, Int.reduceToNat, Int.reduceLT, Int.reduceLE, Int.reduceAdd, Int.reduceSub, Int.reduceMul, Int.reduceEq, Int.reduceNeg, reduceCtorEq, resV, resAll, ARes.ev, LV.flat, ite_true, ite_false, exists_eq_left', exists_eq_left, keyOf, implies_true, fillC, capOf]
  by_cases hl : left < n
  · rw [if_pos hl]
    refine condC_dec (fun h => ?_) (fun h => by omega)
    simp (disch := omega) only [↓SXd, SXu, slBounds, ↓sop, ↓aop, ↓reduceIte, LV.cells, AOp.dst, LV.I, LV.B, LV.U, LV.S, LV.nil, Nat.reduceEqDiff, Nat.reduceAdd, Nat.reduceMul, Nat.reduceSub, Nat.reduceLeDiff, Nat.reduceBEq, Nat.reduceDiv, Nat.reduceMod, Int.reduceToNat, Int.reduceLT, Int.reduceLE, Int.reduceAdd, Int.reduceSub, Int.reduceMul, Int.reduceEq, Int.reduceNeg, reduceCtorEq, resV, resAll, ARes.ev, LV.flat, ite_true, ite_false, exists_eq_left', exists_eq_left, keyOf, implies_true, fillC, capOf]
    exact cmp_drop rfl
  · rw [if_neg hl]
    refine condC_dec (fun h => by omega) (fun h => ?_)
    simp (disch := omega) only [↓SXd, SXu, slBounds, ↓sop, ↓aop, ↓reduceIte, LV.cells, AOp.dst, LV.I, LV.B, LV.U, LV.S, LV.nil, Nat.reduceEqDiff, Nat.reduceAdd, Nat.reduceMul, Nat.reduceSub, Nat.reduceLeDiff, Nat.reduceBEq, Nat.reduceDiv, Nat.reduceMod, Int.reduceToNat, Int.reduceLT, Int.reduceLE, Int.reduceAdd, Int.reduceSub, Int.reduceMul, Int.reduceEq, Int.reduceNeg, reduceCtorEq, resV, resAll, ARes.ev, LV.flat, ite_true, ite_false, exists_eq_left', exists_eq_left, keyOf, implies_true, fillC, capOf]
    exact cmp_drop rfl

theorem h_eqIntA3 {a b c a' b' c' : Int} {M : Mem} : CallsTo PG F.laws_eqIntA3 [.agg [.I a, .I b, .I c], .agg [.I a', .I b', .I c']] M (.B (decide ((⟨a, b, c⟩ : Cell) = ⟨a', b', c'⟩))) M := by
  refine calls_run K.laws_eqIntA3 rfl ?_
  simp (disch := omega) only [C.laws_eqIntA3, ↓SXd, SXu, slBounds, ↓sop, ↓aop, ↓reduceIte, LV.cells, AOp.dst, LV.I, LV.B, LV.U, LV.S, LV.nil, Nat.reduceEqDiff, Nat.reduceAdd, Nat.reduceMul, Nat.reduceSub, Nat.reduceLeDiff, Nat.reduceBEq, Nat.reduceDiv, Nat.reduceMod, Int.reduceToNat, Int.reduceLT, Int.reduceLE, Int.reduceAdd, Int.reduceSub, Int.reduceMul, Int.reduceEq, Int.reduceNeg, reduceCtorEq, resV, resAll, ARes.ev, LV.flat, ite_true, ite_false, exists_eq_left', exists_eq_left, keyOf, implies_true, fillC, capOf]
  refine ev_loop (fun m fr M' => ∃ k : Nat, k + m = 3 ∧ M' = M ++ [some (Blk.row [.I a, .I b, .I c] true 0), some (Blk.row [.I a', .I b', .I c'] true 0)] ∧ fr 2 = .ptr M.length 0 ∧ fr 3 = .ptr (M.length + 1) 0 ∧ fr 5 = .I k ∧
    (0 < k → a = a') ∧ (1 < k → b = b') ∧ (2 < k → c = c')) 3 ⟨0, rfl, rfl, rfl, rfl, rfl, by omega, by omega, by omega⟩ ?_
  rintro m fr M' ⟨k, hk, rfl, h2, h3, h5, ha, hb, hc⟩
  simp (disch := omega) only [h2, h3, h5, ↓SXd, SXu, slBounds, ↓sop, ↓aop, ↓reduceIte, LV.cells, AOp.dst, LV.I, LV.B, LV.U, LV.S, LV.nil, Nat.reduceEqDiff, Nat.reduceAdd, Nat.reduceMul, Nat.reduceSub, Nat.reduceLeDiff, Nat.reduceBEq, Nat.reduceDiv, Nat.reduceMod, Int.reduceToNat, Int.reduceLT, Int.reduceLE, Int.reduceAdd, Int.reduceSub, Int.reduceMul, Int.reduceEq, Int.reduceNeg, reduceCtorEq, resV, resAll, ARes.ev, LV.flat, ite_true, ite_false, exists_eq_left', exists_eq_left, keyOf, implies_true, fillC, capOf]
  refine condC_dec (fun hlt => ?_) (fun hlt => ?_)
  · have hk3 : k = 0 ∨ k = 1 ∨ k = 2 := by omega
    rcases hk3 with rfl | rfl | rfl
    all_goals
      simp (disch := omega) only [h2, h3, h5, ↓SXd, SXu, slBounds, ↓sop, ↓aop, ↓reduceIte, LV.cells, AOp.dst, LV.I, LV.B, LV.U, LV.S, LV.nil, Nat.reduceEqDiff, Nat.reduceAdd, Nat.reduceMul, Nat.reduceSub, Nat.reduceLeDiff, Nat.reduceBEq, Nat.reduceDiv, Nat.reduceMod, Int.reduceToNat, Int.reduceLT, Int.reduceLE, Int.reduceAdd, Int.reduceSub, Int.reduceMul, Int.reduceEq, Int.reduceNeg, reduceCtorEq, resV, resAll, ARes.ev, LV.flat, ite_true, ite_false, exists_eq_left', exists_eq_left, keyOf, implies_true, fillC, capOf]
      refine condC_dec (fun he => ?_) (fun he => ?_)
      · simp (disch := omega) only [h2, h3, h5, ↓SXd, SXu, slBounds, ↓sop, ↓aop, ↓reduceIte, LV.cells, AOp.dst, LV.I, LV.B, LV.U, LV.S, LV.nil, Nat.reduceEqDiff, Nat.reduceAdd, Nat.reduceMul, Nat.reduceSub, Nat.reduceLeDiff, Nat.reduceBEq, Nat.reduceDiv, Nat.reduceMod, Int.reduceToNat, Int.reduceLT, Int.reduceLE, Int.reduceAdd, Int.reduceSub, Int.reduceMul, Int.reduceEq, Int.reduceNeg, reduceCtorEq, resV, resAll, ARes.ev, LV.flat, ite_true, ite_false, exists_eq_left', exists_eq_left, keyOf, implies_true, fillC, capOf]
        exact ⟨m - 1, by omega, _, by omega, rfl, h2, h3, eqI (natI _), by omega, by omega, by omega⟩
      · simp (disch := omega) only [h2, h3, h5, ↓SXd, SXu, slBounds, ↓sop, ↓aop, ↓reduceIte, LV.cells, AOp.dst, LV.I, LV.B, LV.U, LV.S, LV.nil, Nat.reduceEqDiff, Nat.reduceAdd, Nat.reduceMul, Nat.reduceSub, Nat.reduceLeDiff, Nat.reduceBEq, Nat.reduceDiv, Nat.reduceMod, Int.reduceToNat, Int.reduceLT, Int.reduceLE, Int.reduceAdd, Int.reduceSub, Int.reduceMul, Int.reduceEq, Int.reduceNeg, reduceCtorEq, resV, resAll, ARes.ev, LV.flat, ite_true, ite_false, exists_eq_left', exists_eq_left, keyOf, implies_true, fillC, capOf]
        rw [decide_eq_false (fun e => he (by injection e))]
        exact cmp_drop rfl
  · simp (disch := omega) only [h2, h3, h5, ↓SXd, SXu, slBounds, ↓sop, ↓aop, ↓reduceIte, LV.cells, AOp.dst, LV.I, LV.B, LV.U, LV.S, LV.nil, Nat.reduceEqDiff, Nat.reduceAdd, Nat.reduceMul, Nat.reduceSub, Nat.reduceLeDiff, Nat.reduceBEq, Nat.reduceDiv, Nat.reduceMod, Int.reduceToNat, Int.reduceLT, Int.reduceLE, Int.reduceAdd, Int.reduceSub, Int.reduceMul, Int.reduceEq, Int.reduceNeg, reduceCtorEq, resV, resAll, ARes.ev, LV.flat, ite_true, ite_false, exists_eq_left', exists_eq_left, keyOf, implies_true, fillC, capOf]
    rw [decide_eq_true (cell_eq.2 ⟨ha (by omega), hb (by omega), hc (by omega)⟩)]
    exact cmp_drop rfl

theorem h_eqIntA3S {t o t' o' : Nat} {cs ds : List Cell} {M : Mem} (h : Tri M t o cs) (h' : Tri M t' o' ds) (hn : cs.length ≤ 1000000000) (hn' : ds.length ≤ 1000000000) :
    CallsTo PG F.laws_eqIntA3S [.ref t o cs.length, .ref t' o' ds.length] M (.B (decide (cs = ds))) M := by
  refine calls_run K.laws_eqIntA3S rfl ?_
  simp (disch := omega) only [C.laws_eqIntA3S, ↓SXd, SXu, slBounds, ↓sop, ↓aop, ↓reduceIte, LV.cells, AOp.dst, LV.I, LV.B, LV.U, LV.S, LV.nil, Nat.reduceEqDiff, Nat.reduceAdd, Nat.reduceMul, Nat.reduceSub, Nat.reduceLeDiff, Nat.reduceBEq, Nat.reduceDiv, Nat.reduceMod, Int.reduceToNat, Int.reduceLT, Int.reduceLE, Int.reduceAdd, Int.reduceSub, Int.reduceMul, Int.reduceEq, Int.reduceNeg, reduceCtorEq, resV, resAll, ARes.ev, LV.flat, ite_true, ite_false, exists_eq_left', exists_eq_left, keyOf, implies_true, fillC, capOf]
  refine condC_dec (fun hl => ?_) (fun hl => ?_)
  · simp (disch := omega) only [↓SXd, SXu, slBounds, ↓sop, ↓aop, ↓reduceIte, LV.cells, AOp.dst, LV.I, LV.B, LV.U, LV.S, LV.nil, Nat.reduceEqDiff, Nat.reduceAdd, Nat.reduceMul, Nat.reduceSub, Nat.reduceLeDiff, Nat.reduceBEq, Nat.reduceDiv, Nat.reduceMod, Int.reduceToNat, Int.reduceLT, Int.reduceLE, Int.reduceAdd, Int.reduceSub, Int.reduceMul, Int.reduceEq, Int.reduceNeg, reduceCtorEq, resV, resAll, ARes.ev, LV.flat, ite_true, ite_false, exists_eq_left', exists_eq_left, keyOf, implies_true, fillC, capOf]
    refine ev_loop (fun m fr M' => ∃ k : Nat, k + m = cs.length ∧ M' = M ∧ fr 0 = .ref t o cs.length ∧ fr 1 = .ref t' o' ds.length ∧ fr 5 = .I k ∧ cs.take k = ds.take k) cs.length ⟨0, by omega, rfl, rfl, rfl, rfl, by simp⟩ ?_
    rintro m fr M' ⟨k, hk, rfl, h0, h1, h5, heq⟩
    simp (disch := omega) only [h0, h1, h5, ↓SXd, SXu, slBounds, ↓sop, ↓aop, ↓reduceIte, LV.cells, AOp.dst, LV.I, LV.B, LV.U, LV.S, LV.nil, Nat.reduceEqDiff, Nat.reduceAdd, Nat.reduceMul, Nat.reduceSub, Nat.reduceLeDiff, Nat.reduceBEq, Nat.reduceDiv, Nat.reduceMod, Int.reduceToNat, Int.reduceLT, Int.reduceLE, Int.reduceAdd, Int.reduceSub, Int.reduceMul, Int.reduceEq, Int.reduceNeg, reduceCtorEq, resV, resAll, ARes.ev, LV.flat, ite_true, ite_false, exists_eq_left', exists_eq_left, keyOf, implies_true, fillC, capOf]
    refine condC_dec (fun hlt => ?_) (fun hlt => ?_)
    · simp (disch := omega) only [h0, h1, h5, h.get, h'.get, ↓SXd, SXu, slBounds, ↓sop, ↓aop, ↓reduceIte, LV.cells, AOp.dst, LV.I, LV.B, LV.U, LV.S, LV.nil, Nat.reduceEqDiff, Nat.reduceAdd, Nat.reduceMul, Nat.reduceSub, Nat.reduceLeDiff, Nat.reduceBEq, Nat.reduceDiv, Nat.reduceMod, Int.reduceToNat, Int.reduceLT, Int.reduceLE, Int.reduceAdd, Int.reduceSub, Int.reduceMul, Int.reduceEq, Int.reduceNeg, reduceCtorEq, resV, resAll, ARes.ev, LV.flat, ite_true, ite_false, exists_eq_left', exists_eq_left, keyOf, implies_true, fillC, capOf]
      refine callK_of h_eqIntA3 ?_
      simp (disch := omega) only [h0, h1, h5, ↓SXd, SXu, slBounds, ↓sop, ↓aop, ↓reduceIte, LV.cells, AOp.dst, LV.I, LV.B, LV.U, LV.S, LV.nil, Nat.reduceEqDiff, Nat.reduceAdd, Nat.reduceMul, Nat.reduceSub, Nat.reduceLeDiff, Nat.reduceBEq, Nat.reduceDiv, Nat.reduceMod, Int.reduceToNat, Int.reduceLT, Int.reduceLE, Int.reduceAdd, Int.reduceSub, Int.reduceMul, Int.reduceEq, Int.reduceNeg, reduceCtorEq, resV, resAll, ARes.ev, LV.flat, ite_true, ite_false, exists_eq_left', exists_eq_left, keyOf, implies_true, fillC, capOf]
      refine condC_dec (fun he => ?_) (fun he => ?_)
      · simp (disch := omega) only [h0, h1, h5, ↓SXd, SXu, slBounds, ↓sop, ↓aop, ↓reduceIte, LV.cells, AOp.dst, LV.I, LV.B, LV.U, LV.S, LV.nil, Nat.reduceEqDiff, Nat.reduceAdd, Nat.reduceMul, Nat.reduceSub, Nat.reduceLeDiff, Nat.reduceBEq, Nat.reduceDiv, Nat.reduceMod, Int.reduceToNat, Int.reduceLT, Int.reduceLE, Int.reduceAdd, Int.reduceSub, Int.reduceMul, Int.reduceEq, Int.reduceNeg, reduceCtorEq, resV, resAll, ARes.ev, LV.flat, ite_true, ite_false, exists_eq_left', exists_eq_left, keyOf, implies_true, fillC, capOf]
        refine ⟨m - 1, by omega, _, by omega, rfl, h0, h1, eqI (natI _), ?_⟩
        have e1 : k < cs.length := by omega
        have e2 : k < ds.length := by omega
        rw [List.take_add_one, List.take_add_one, heq]
        simp only [List.getD_eq_getElem?_getD, e1, e2, getElem?_pos, Option.getD_some] at he
        simp only [e1, e2, getElem?_pos, Option.toList]
        rw [show cs[k] = ds[k] from he]
      · simp (disch := omega) only [h0, h1, h5, ↓SXd, SXu, slBounds, ↓sop, ↓aop, ↓reduceIte, LV.cells, AOp.dst, LV.I, LV.B, LV.U, LV.S, LV.nil, Nat.reduceEqDiff, Nat.reduceAdd, Nat.reduceMul, Nat.reduceSub, Nat.reduceLeDiff, Nat.reduceBEq, Nat.reduceDiv, Nat.reduceMod, Int.reduceToNat, Int.reduceLT, Int.reduceLE, Int.reduceAdd, Int.reduceSub, Int.reduceMul, Int.reduceEq, Int.reduceNeg, reduceCtorEq, resV, resAll, ARes.ev, LV.flat, ite_true, ite_false, exists_eq_left', exists_eq_left, keyOf, implies_true, fillC, capOf]
        rw [decide_eq_false (fun e => he (by rw [e]))]
        exact cmp_drop0 rfl
    · simp (disch := omega) only [↓SXd, SXu, slBounds, ↓sop, ↓aop, ↓reduceIte, LV.cells, AOp.dst, LV.I, LV.B, LV.U, LV.S, LV.nil, Nat.reduceEqDiff, Nat.reduceAdd, Nat.reduceMul, Nat.reduceSub, Nat.reduceLeDiff, Nat.reduceBEq, Nat.reduceDiv, Nat.reduceMod, Int.reduceToNat, Int.reduceLT, Int.reduceLE, Int.reduceAdd, Int.reduceSub, Int.reduceMul, Int.reduceEq, Int.reduceNeg, reduceCtorEq, resV, resAll, ARes.ev, LV.flat, ite_true, ite_false, exists_eq_left', exists_eq_left, keyOf, implies_true, fillC, capOf]
      have : cs = ds := by
        rw [List.take_of_length_le (by omega), List.take_of_length_le (by omega)] at heq
        exact heq
      rw [decide_eq_true this]
      exact cmp_drop0 rfl
  · simp (disch := omega) only [↓SXd, SXu, slBounds, ↓sop, ↓aop, ↓reduceIte, LV.cells, AOp.dst, LV.I, LV.B, LV.U, LV.S, LV.nil, Nat.reduceEqDiff, Nat.reduceAdd, Nat.reduceMul, Nat.reduceSub, Nat.reduceLeDiff, Nat.reduceBEq, Nat.reduceDiv, Nat.reduceMod, Int.reduceToNat, Int.reduceLT, Int.reduceLE, Int.reduceAdd, Int.reduceSub, Int.reduceMul, Int.reduceEq, Int.reduceNeg, reduceCtorEq, resV, resAll, ARes.ev, LV.flat, ite_true, ite_false, exists_eq_left', exists_eq_left, keyOf, implies_true, fillC, capOf]
    rw [decide_eq_false (fun e => hl (by rw [e]))]
    exact cmp_drop0 rfl

theorem h_toIntA3 {a b c : Int} {M : Mem} : CallsTo PG F.laws_toIntA3 [.agg [.I a, .I b, .I c]] M (.agg [.I a, .I b, .I c]) M := by
  refine calls_run K.laws_toIntA3 rfl ?_
  simp (disch := omega) only [C.laws_toIntA3, ↓SXd, SXu, slBounds, ↓sop, ↓aop, ↓reduceIte, LV.cells, AOp.dst, LV.I, LV.B, LV.U, LV.S, LV.nil, Nat.reduceEqDiff, Nat.reduceAdd, Nat.reduceMul, Nat.reduceSub, Nat.reduceLeDiff, Nat.reduceBEq, Nat.reduceDiv, Nat.reduceMod, Int.reduceToNat, Int.reduceLT, Int.reduceLE, Int.reduceAdd, Int.reduceSub, Int.reduceMul, Int.reduceEq, Int.reduceNeg, reduceCtorEq, resV, resAll, ARes.ev, LV.flat, ite_true, ite_false, exists_eq_left', exists_eq_left, keyOf, implies_true, fillC, capOf]
  refine ev_loop (fun m fr M' => ∃ (k : Nat) (x y z : Int), k + m = 3 ∧ M' = M ++ [some (Blk.row [.I a, .I b, .I c] true 0), some (Blk.row [.I 0, .I 0, .I 0] true 0), some (Blk.row [.I x, .I y, .I z] true 0)] ∧
    fr 1 = .ptr M.length 0 ∧ fr 2 = .ptr (M.length + 1) 0 ∧ fr 3 = .ptr (M.length + 2) 0 ∧ fr 4 = .I k ∧ (0 < k → x = a) ∧ (1 < k → y = b) ∧ (2 < k → z = c)) 3 ⟨0, 0, 0, 0, rfl, rfl, rfl, rfl, rfl, rfl, by omega, by omega, by omega⟩ ?_
  rintro m fr M' ⟨k, x, y, z, hk, rfl, h1, h2, h3, h4, ha, hb, hc⟩
  simp (disch := omega) only [h1, h2, h3, h4, ↓SXd, SXu, slBounds, ↓sop, ↓aop, ↓reduceIte, LV.cells, AOp.dst, LV.I, LV.B, LV.U, LV.S, LV.nil, Nat.reduceEqDiff, Nat.reduceAdd, Nat.reduceMul, Nat.reduceSub, Nat.reduceLeDiff, Nat.reduceBEq, Nat.reduceDiv, Nat.reduceMod, Int.reduceToNat, Int.reduceLT, Int.reduceLE, Int.reduceAdd, Int.reduceSub, Int.reduceMul, Int.reduceEq, Int.reduceNeg, reduceCtorEq, resV, resAll, ARes.ev, LV.flat, ite_true, ite_false, exists_eq_left', exists_eq_left, keyOf, implies_true, fillC, capOf]
  refine condC_dec (fun hlt => ?_) (fun hlt => ?_)
  · have hk3 : k = 0 ∨ k = 1 ∨ k = 2 := by omega
    rcases hk3 with rfl | rfl | rfl
    · simp (disch := omega) only [h1, h2, h3, h4, splice, ↓SXd, SXu, slBounds, ↓sop, ↓aop, ↓reduceIte, LV.cells, AOp.dst, LV.I, LV.B, LV.U, LV.S, LV.nil, Nat.reduceEqDiff, Nat.reduceAdd, Nat.reduceMul, Nat.reduceSub, Nat.reduceLeDiff, Nat.reduceBEq, Nat.reduceDiv, Nat.reduceMod, Int.reduceToNat, Int.reduceLT, Int.reduceLE, Int.reduceAdd, Int.reduceSub, Int.reduceMul, Int.reduceEq, Int.reduceNeg, reduceCtorEq, resV, resAll, ARes.ev, LV.flat, ite_true, ite_false, exists_eq_left', exists_eq_left, keyOf, implies_true, fillC, capOf]
      exact ⟨m - 1, by omega, 1, a, y, z, by omega, rfl, h1, h2, h3, rfl, by omega, by omega, by omega⟩
    · simp (disch := omega) only [h1, h2, h3, h4, splice, ↓SXd, SXu, slBounds, ↓sop, ↓aop, ↓reduceIte, LV.cells, AOp.dst, LV.I, LV.B, LV.U, LV.S, LV.nil, Nat.reduceEqDiff, Nat.reduceAdd, Nat.reduceMul, Nat.reduceSub, Nat.reduceLeDiff, Nat.reduceBEq, Nat.reduceDiv, Nat.reduceMod, Int.reduceToNat, Int.reduceLT, Int.reduceLE, Int.reduceAdd, Int.reduceSub, Int.reduceMul, Int.reduceEq, Int.reduceNeg, reduceCtorEq, resV, resAll, ARes.ev, LV.flat, ite_true, ite_false, exists_eq_left', exists_eq_left, keyOf, implies_true, fillC, capOf]
      exact ⟨m - 1, by omega, 2, x, b, z, by omega, rfl, h1, h2, h3, rfl, by omega, by omega, by omega⟩
    · simp (disch := omega) only [h1, h2, h3, h4, splice, ↓SXd, SXu, slBounds, ↓sop, ↓aop, ↓reduceIte, LV.cells, AOp.dst, LV.I, LV.B, LV.U, LV.S, LV.nil, Nat.reduceEqDiff, Nat.reduceAdd, Nat.reduceMul, Nat.reduceSub, Nat.reduceLeDiff, Nat.reduceBEq, Nat.reduceDiv, Nat.reduceMod, Int.reduceToNat, Int.reduceLT, Int.reduceLE, Int.reduceAdd, Int.reduceSub, Int.reduceMul, Int.reduceEq, Int.reduceNeg, reduceCtorEq, resV, resAll, ARes.ev, LV.flat, ite_true, ite_false, exists_eq_left', exists_eq_left, keyOf, implies_true, fillC, capOf]
      exact ⟨m - 1, by omega, 3, x, y, c, by omega, rfl, h1, h2, h3, rfl, by omega, by omega, by omega⟩
  · simp (disch := omega) only [h1, h2, h3, h4, splice, ↓SXd, SXu, slBounds, ↓sop, ↓aop, ↓reduceIte, LV.cells, AOp.dst, LV.I, LV.B, LV.U, LV.S, LV.nil, Nat.reduceEqDiff, Nat.reduceAdd, Nat.reduceMul, Nat.reduceSub, Nat.reduceLeDiff, Nat.reduceBEq, Nat.reduceDiv, Nat.reduceMod, Int.reduceToNat, Int.reduceLT, Int.reduceLE, Int.reduceAdd, Int.reduceSub, Int.reduceMul, Int.reduceEq, Int.reduceNeg, reduceCtorEq, resV, resAll, ARes.ev, LV.flat, ite_true, ite_false, exists_eq_left', exists_eq_left, keyOf, implies_true, fillC, capOf]
    rw [ha (by omega), hb (by omega), hc (by omega)]
    exact cmp_drop rfl

theorem h_toIntA3S {t o : Nat} {cs : List Cell} {M : Mem} (h : Tri M t o cs) (hn : cs.length ≤ 1000000000) :
    CallsTo PG F.laws_toIntA3S [.ref t o cs.length] M (.ref M.length 0 cs.length) (M ++ [some (.row (triL cs) true 3)]) := by
  refine calls_run K.laws_toIntA3S rfl ?_
  simp (disch := omega) only [C.laws_toIntA3S, made_tri, ↓SXd, SXu, slBounds, ↓sop, ↓aop, ↓reduceIte, LV.cells, AOp.dst, LV.I, LV.B, LV.U, LV.S, LV.nil, Nat.reduceEqDiff, Nat.reduceAdd, Nat.reduceMul, Nat.reduceSub, Nat.reduceLeDiff, Nat.reduceBEq, Nat.reduceDiv, Nat.reduceMod, Int.reduceToNat, Int.reduceLT, Int.reduceLE, Int.reduceAdd, Int.reduceSub, Int.reduceMul, Int.reduceEq, Int.reduceNeg, reduceCtorEq, resV, resAll, ARes.ev, LV.flat, ite_true, ite_false, exists_eq_left', exists_eq_left, keyOf, implies_true, fillC, capOf]
  refine ev_loop (fun m fr M' => ∃ k : Nat, k + m = cs.length ∧ M' = M ++ [some (.row (triL (cs.take k ++ List.replicate (cs.length - k) default)) true 3)] ∧ fr 0 = .ref t o cs.length ∧ fr 3 = .ref M.length 0 cs.length ∧ fr 4 = .I k) cs.length
    ⟨0, by omega, rfl, rfl, rfl, rfl⟩ ?_
  rintro m fr M' ⟨k, hk, rfl, h0, h3, h4⟩
  have hlen : (cs.take k ++ List.replicate (cs.length - k) default).length = cs.length := by simp; omega
  have ht := h.lt
  simp (disch := omega) only [h0, h3, h4, ↓SXd, SXu, slBounds, ↓sop, ↓aop, ↓reduceIte, LV.cells, AOp.dst, LV.I, LV.B, LV.U, LV.S, LV.nil, Nat.reduceEqDiff, Nat.reduceAdd, Nat.reduceMul, Nat.reduceSub, Nat.reduceLeDiff, Nat.reduceBEq, Nat.reduceDiv, Nat.reduceMod, Int.reduceToNat, Int.reduceLT, Int.reduceLE, Int.reduceAdd, Int.reduceSub, Int.reduceMul, Int.reduceEq, Int.reduceNeg, reduceCtorEq, resV, resAll, ARes.ev, LV.flat, ite_true, ite_false, exists_eq_left', exists_eq_left, keyOf, implies_true, fillC, capOf]
  refine condC_dec (fun hlt => ?_) (fun hlt => ?_)
  · simp (disch := omega) only [h0, h3, h4, getCells_app, h.get, Cell.row, ↓SXd, SXu, slBounds, ↓sop, ↓aop, ↓reduceIte, LV.cells, AOp.dst, LV.I, LV.B, LV.U, LV.S, LV.nil, Nat.reduceEqDiff, Nat.reduceAdd, Nat.reduceMul, Nat.reduceSub, Nat.reduceLeDiff, Nat.reduceBEq, Nat.reduceDiv, Nat.reduceMod, Int.reduceToNat, Int.reduceLT, Int.reduceLE, Int.reduceAdd, Int.reduceSub, Int.reduceMul, Int.reduceEq, Int.reduceNeg, reduceCtorEq, resV, resAll, ARes.ev, LV.flat, ite_true, ite_false, exists_eq_left', exists_eq_left, keyOf, implies_true, fillC, capOf]
    refine callK_of h_toIntA3 ?_
    simp (disch := omega) only [h0, h3, h4, triL_len, hlen, splice_tri, ↓SXd, SXu, slBounds, ↓sop, ↓aop, ↓reduceIte, LV.cells, AOp.dst, LV.I, LV.B, LV.U, LV.S, LV.nil, Nat.reduceEqDiff, Nat.reduceAdd, Nat.reduceMul, Nat.reduceSub, Nat.reduceLeDiff, Nat.reduceBEq, Nat.reduceDiv, Nat.reduceMod, Int.reduceToNat, Int.reduceLT, Int.reduceLE, Int.reduceAdd, Int.reduceSub, Int.reduceMul, Int.reduceEq, Int.reduceNeg, reduceCtorEq, resV, resAll, ARes.ev, LV.flat, ite_true, ite_false, exists_eq_left', exists_eq_left, keyOf, implies_true, fillC, capOf]
    refine ⟨m - 1, by omega, k + 1, by omega, ?_, h0, h3, eqI (natI _)⟩
    rw [← fill_step (by omega)]
  · simp (disch := omega) only [h0, h3, h4, ↓SXd, SXu, slBounds, ↓sop, ↓aop, ↓reduceIte, LV.cells, AOp.dst, LV.I, LV.B, LV.U, LV.S, LV.nil, Nat.reduceEqDiff, Nat.reduceAdd, Nat.reduceMul, Nat.reduceSub, Nat.reduceLeDiff, Nat.reduceBEq, Nat.reduceDiv, Nat.reduceMod, Int.reduceToNat, Int.reduceLT, Int.reduceLE, Int.reduceAdd, Int.reduceSub, Int.reduceMul, Int.reduceEq, Int.reduceNeg, reduceCtorEq, resV, resAll, ARes.ev, LV.flat, ite_true, ite_false, exists_eq_left', exists_eq_left, keyOf, implies_true, fillC, capOf]
    have hk' : k = cs.length := by omega
    subst hk'
    rw [List.take_length, Nat.sub_self, List.replicate_zero, List.append_nil]
    exact cmp_keep0 (triL_lo cs)

theorem h_toHeap {x y z : Int} {t o : Nat} {cs : List Cell} {M : Mem} (h : Tri M t o cs) (hn : cs.length ≤ 1000000000) :
    CallsTo PG F.laws_toHeap [.agg [.I x, .I y, .I z, .ref t o cs.length]] M (.agg [.I x, .I y, .I z, .ref M.length 0 cs.length]) (M ++ [some (.row (triL cs) true 3)]) := by
  refine calls_run K.laws_toHeap rfl ?_
  simp (disch := omega) only [C.laws_toHeap, splice, ↓SXd, SXu, slBounds, ↓sop, ↓aop, ↓reduceIte, LV.cells, AOp.dst, LV.I, LV.B, LV.U, LV.S, LV.nil, Nat.reduceEqDiff, Nat.reduceAdd, Nat.reduceMul, Nat.reduceSub, Nat.reduceLeDiff, Nat.reduceBEq, Nat.reduceDiv, Nat.reduceMod, Int.reduceToNat, Int.reduceLT, Int.reduceLE, Int.reduceAdd, Int.reduceSub, Int.reduceMul, Int.reduceEq, Int.reduceNeg, reduceCtorEq, resV, resAll, ARes.ev, LV.flat, ite_true, ite_false, exists_eq_left', exists_eq_left, keyOf, implies_true, fillC, capOf]
  refine callK_of (h_toIntA3S h.app hn) ?_
  simp (disch := omega) only [splice, ↓SXd, SXu, slBounds, ↓sop, ↓aop, ↓reduceIte, LV.cells, AOp.dst, LV.I, LV.B, LV.U, LV.S, LV.nil, Nat.reduceEqDiff, Nat.reduceAdd, Nat.reduceMul, Nat.reduceSub, Nat.reduceLeDiff, Nat.reduceBEq, Nat.reduceDiv, Nat.reduceMod, Int.reduceToNat, Int.reduceLT, Int.reduceLE, Int.reduceAdd, Int.reduceSub, Int.reduceMul, Int.reduceEq, Int.reduceNeg, reduceCtorEq, resV, resAll, ARes.ev, LV.flat, ite_true, ite_false, exists_eq_left', exists_eq_left, keyOf, implies_true, fillC, capOf]
  exact cmp_keep1 (j := 3) rfl (triL_lo cs) (by simp [rn, rn0, rn1, keepR_n, keepR_lt h.lt])

theorem h_eqHeap {x y z x' y' z' : Int} {t o t' o' : Nat} {cs ds : List Cell} {M : Mem} (h : Tri M t o cs) (h' : Tri M t' o' ds) (hn : cs.length ≤ 1000000000) (hn' : ds.length ≤ 1000000000) :
    CallsTo PG F.laws_eqHeap [.agg [.I x, .I y, .I z, .ref t o cs.length], .agg [.I x', .I y', .I z', .ref t' o' ds.length]] M (.B (decide (x = x' ∧ y = y' ∧ z = z' ∧ cs = ds))) M := by
  refine calls_run K.laws_eqHeap rfl ?_
  simp (disch := omega) only [C.laws_eqHeap, ↓SXd, SXu, slBounds, ↓sop, ↓aop, ↓reduceIte, LV.cells, AOp.dst, LV.I, LV.B, LV.U, LV.S, LV.nil, Nat.reduceEqDiff, Nat.reduceAdd, Nat.reduceMul, Nat.reduceSub, Nat.reduceLeDiff, Nat.reduceBEq, Nat.reduceDiv, Nat.reduceMod, Int.reduceToNat, Int.reduceLT, Int.reduceLE, Int.reduceAdd, Int.reduceSub, Int.reduceMul, Int.reduceEq, Int.reduceNeg, reduceCtorEq, resV, resAll, ARes.ev, LV.flat, ite_true, ite_false, exists_eq_left', exists_eq_left, keyOf, implies_true, fillC, capOf]
  refine condC_dec (fun h1 => ?_) (fun h1 => ?_) <;> simp (disch := omega) only [↓SXd, SXu, slBounds, ↓sop, ↓aop, ↓reduceIte, LV.cells, AOp.dst, LV.I, LV.B, LV.U, LV.S, LV.nil, Nat.reduceEqDiff, Nat.reduceAdd, Nat.reduceMul, Nat.reduceSub, Nat.reduceLeDiff, Nat.reduceBEq, Nat.reduceDiv, Nat.reduceMod, Int.reduceToNat, Int.reduceLT, Int.reduceLE, Int.reduceAdd, Int.reduceSub, Int.reduceMul, Int.reduceEq, Int.reduceNeg, reduceCtorEq, resV, resAll, ARes.ev, LV.flat, ite_true, ite_false, exists_eq_left', exists_eq_left, keyOf, implies_true, fillC, capOf]
  · refine condC_dec (fun h2 => ?_) (fun h2 => ?_) <;> simp (disch := omega) only [↓SXd, SXu, slBounds, ↓sop, ↓aop, ↓reduceIte, LV.cells, AOp.dst, LV.I, LV.B, LV.U, LV.S, LV.nil, Nat.reduceEqDiff, Nat.reduceAdd, Nat.reduceMul, Nat.reduceSub, Nat.reduceLeDiff, Nat.reduceBEq, Nat.reduceDiv, Nat.reduceMod, Int.reduceToNat, Int.reduceLT, Int.reduceLE, Int.reduceAdd, Int.reduceSub, Int.reduceMul, Int.reduceEq, Int.reduceNeg, reduceCtorEq, resV, resAll, ARes.ev, LV.flat, ite_true, ite_false, exists_eq_left', exists_eq_left, keyOf, implies_true, fillC, capOf]
    · refine condC_dec (fun h3 => ?_) (fun h3 => ?_) <;> simp (disch := omega) only [↓SXd, SXu, slBounds, ↓sop, ↓aop, ↓reduceIte, LV.cells, AOp.dst, LV.I, LV.B, LV.U, LV.S, LV.nil, Nat.reduceEqDiff, Nat.reduceAdd, Nat.reduceMul, Nat.reduceSub, Nat.reduceLeDiff, Nat.reduceBEq, Nat.reduceDiv, Nat.reduceMod, Int.reduceToNat, Int.reduceLT, Int.reduceLE, Int.reduceAdd, Int.reduceSub, Int.reduceMul, Int.reduceEq, Int.reduceNeg, reduceCtorEq, resV, resAll, ARes.ev, LV.flat, ite_true, ite_false, exists_eq_left', exists_eq_left, keyOf, implies_true, fillC, capOf]
      · refine callK_of (h_eqIntA3S h.app h'.app hn hn') ?_
        simp (disch := omega) only [↓SXd, SXu, slBounds, ↓sop, ↓aop, ↓reduceIte, LV.cells, AOp.dst, LV.I, LV.B, LV.U, LV.S, LV.nil, Nat.reduceEqDiff, Nat.reduceAdd, Nat.reduceMul, Nat.reduceSub, Nat.reduceLeDiff, Nat.reduceBEq, Nat.reduceDiv, Nat.reduceMod, Int.reduceToNat, Int.reduceLT, Int.reduceLE, Int.reduceAdd, Int.reduceSub, Int.reduceMul, Int.reduceEq, Int.reduceNeg, reduceCtorEq, resV, resAll, ARes.ev, LV.flat, ite_true, ite_false, exists_eq_left', exists_eq_left, keyOf, implies_true, fillC, capOf]
        refine condC_dec (fun h4 => ?_) (fun h4 => ?_) <;> simp (disch := omega) only [↓SXd, SXu, slBounds, ↓sop, ↓aop, ↓reduceIte, LV.cells, AOp.dst, LV.I, LV.B, LV.U, LV.S, LV.nil, Nat.reduceEqDiff, Nat.reduceAdd, Nat.reduceMul, Nat.reduceSub, Nat.reduceLeDiff, Nat.reduceBEq, Nat.reduceDiv, Nat.reduceMod, Int.reduceToNat, Int.reduceLT, Int.reduceLE, Int.reduceAdd, Int.reduceSub, Int.reduceMul, Int.reduceEq, Int.reduceNeg, reduceCtorEq, resV, resAll, ARes.ev, LV.flat, ite_true, ite_false, exists_eq_left', exists_eq_left, keyOf, implies_true, fillC, capOf]
        · rw [decide_eq_true ⟨h1, h2, h3, h4⟩]; exact cmp_drop rfl
        · rw [decide_eq_false (fun e => h4 e.2.2.2)]; exact cmp_drop rfl
      · rw [decide_eq_false (fun e => h3 e.2.2.1)]; exact cmp_drop rfl
    · rw [decide_eq_false (fun e => h2 e.2.1)]; exact cmp_drop rfl
  · rw [decide_eq_false (fun e => h1 e.1)]; exact cmp_drop rfl
end Go.Ab

/- Contracts: the laws' helpers on lists of cells, and on heaps. -/
namespace Go.Ab
open Go
set_option linter.unusedSimpArgs false
set_option linter.unusedVariables false

/-- A list of cells that may be read. -/
def CellsV (N : Mem) (v : LV) (l : List Cell) : Prop := (v = .nil ∧ l = []) ∨ ∃ t o, v = .ref t o l.length ∧ Tri N t o l
/-- A list of cells that is one's own. -/
def SlC (N : Mem) (v : LV) (l : List Cell) : Prop := (v = .nil ∧ l = []) ∨ ∃ t ex, v = .ref t 0 l.length ∧ Live N t (.row (triL (l ++ ex)) true 3)
theorem SlC.v {N : Mem} {v : LV} {l : List Cell} (h : SlC N v l) : CellsV N v l := by
  rcases h with h | ⟨t, ex, h1, h2⟩
  · exact .inl h
  · rw [triL_append] at h2; exact .inr ⟨t, 0, h1, h2.hasL⟩
theorem CellsV.pre {M N : Mem} {v : LV} {l : List Cell} (h : CellsV M v l) (hp : Pre M N) : CellsV N v l := by
  rcases h with h | ⟨t, o, h1, h2⟩
  · exact .inl h
  · exact .inr ⟨t, o, h1, h2.pre hp⟩
theorem SlC.pre {M N : Mem} {v : LV} {l : List Cell} (h : SlC M v l) (hp : Pre M N) : SlC N v l := by
  rcases h with h | ⟨t, ex, h1, h2⟩
  · exact .inl h
  · exact .inr ⟨t, ex, h1, h2.pre hp⟩
theorem SlC.nil {N : Mem} : SlC N .nil [] := .inl ⟨rfl, rfl⟩
theorem CellsV.nil {N : Mem} : CellsV N .nil [] := .inl ⟨rfl, rfl⟩
theorem SlC.of {N : Mem} {t : Nat} {l : List Cell} (h : Live N t (.row (triL l) true 3)) : SlC N (.ref t 0 l.length) l := .inr ⟨t, [], rfl, by simpa using h⟩
theorem CellsV.of {N : Mem} {t o : Nat} {l : List Cell} (h : Tri N t o l) : CellsV N (.ref t o l.length) l := .inr ⟨t, o, rfl, h⟩

def marks3 (k : Int) (n : Nat) : List Cell := (List.range n).map fun (i : Nat) => ⟨k + 3 * (i : Int), k + 3 * (i : Int) + 1, k + 3 * (i : Int) + 2⟩
theorem marks3_len (k : Int) (n : Nat) : (marks3 k n).length = n := by simp [marks3]
theorem marks3_get {k : Int} {n i : Nat} (h : i < n) : (marks3 k n).getD i default = ⟨k + 3 * i, k + 3 * i + 1, k + 3 * i + 2⟩ := by simp [marks3, h]

theorem h_eqIntA3S_n {l' : List Cell} {v' : LV} {M : Mem} (h' : CellsV M v' l') (hn' : l'.length ≤ 1000000000) : CallsTo PG F.laws_eqIntA3S [.nil, v'] M (.B (decide ([] = l'))) M := by
  refine calls_run K.laws_eqIntA3S rfl ?_
  have hlen : lenV v' = some (l'.length : Int) := by
    rcases h' with ⟨rfl, rfl⟩ | ⟨t, o, rfl, _⟩ <;> rfl
  simp (disch := omega) only [C.laws_eqIntA3S, hlen, ↓SXd, SXu, slBounds, ↓sop, ↓aop, ↓reduceIte, LV.cells, AOp.dst, LV.I, LV.B, LV.U, LV.S, LV.nil, Nat.reduceEqDiff, Nat.reduceAdd, Nat.reduceMul, Nat.reduceSub, Nat.reduceLeDiff, Nat.reduceBEq, Nat.reduceDiv, Nat.reduceMod, Int.reduceToNat, Int.reduceLT, Int.reduceLE, Int.reduceAdd, Int.reduceSub, Int.reduceMul, Int.reduceEq, Int.reduceNeg, reduceCtorEq, resV, resAll, ARes.ev, LV.flat, ite_true, ite_false, exists_eq_left', exists_eq_left, keyOf, implies_true, fillC, capOf]
  refine condC_dec (fun hl => ?_) (fun hl => ?_)
  rotate_left
  · rw [show decide ([] = l') = false from decide_eq_false (fun e => by subst e; exact (hl rfl).elim)]
    simp (disch := omega) only [↓SXd, SXu, slBounds, ↓sop, ↓aop, ↓reduceIte, LV.cells, AOp.dst, LV.I, LV.B, LV.U, LV.S, LV.nil, Nat.reduceEqDiff, Nat.reduceAdd, Nat.reduceMul, Nat.reduceSub, Nat.reduceLeDiff, Nat.reduceBEq, Nat.reduceDiv, Nat.reduceMod, Int.reduceToNat, Int.reduceLT, Int.reduceLE, Int.reduceAdd, Int.reduceSub, Int.reduceMul, Int.reduceEq, Int.reduceNeg, reduceCtorEq, resV, resAll, ARes.ev, LV.flat, ite_true, ite_false, exists_eq_left', exists_eq_left, keyOf, implies_true, fillC, capOf]
    exact cmp_drop0 rfl
  · simp (disch := omega) only [↓SXd, SXu, slBounds, ↓sop, ↓aop, ↓reduceIte, LV.cells, AOp.dst, LV.I, LV.B, LV.U, LV.S, LV.nil, Nat.reduceEqDiff, Nat.reduceAdd, Nat.reduceMul, Nat.reduceSub, Nat.reduceLeDiff, Nat.reduceBEq, Nat.reduceDiv, Nat.reduceMod, Int.reduceToNat, Int.reduceLT, Int.reduceLE, Int.reduceAdd, Int.reduceSub, Int.reduceMul, Int.reduceEq, Int.reduceNeg, reduceCtorEq, resV, resAll, ARes.ev, LV.flat, ite_true, ite_false, exists_eq_left', exists_eq_left, keyOf, implies_true, fillC, capOf]
    refine ev_loop (fun m fr M' => M' = M ∧ fr 0 = .nil ∧ fr 5 = .I 0) 0 ⟨rfl, rfl, rfl⟩ ?_
    rintro m fr M' ⟨rfl, h0, h5⟩
    simp (disch := omega) only [h0, h5, ↓SXd, SXu, slBounds, ↓sop, ↓aop, ↓reduceIte, LV.cells, AOp.dst, LV.I, LV.B, LV.U, LV.S, LV.nil, Nat.reduceEqDiff, Nat.reduceAdd, Nat.reduceMul, Nat.reduceSub, Nat.reduceLeDiff, Nat.reduceBEq, Nat.reduceDiv, Nat.reduceMod, Int.reduceToNat, Int.reduceLT, Int.reduceLE, Int.reduceAdd, Int.reduceSub, Int.reduceMul, Int.reduceEq, Int.reduceNeg, reduceCtorEq, resV, resAll, ARes.ev, LV.flat, ite_true, ite_false, exists_eq_left', exists_eq_left, keyOf, implies_true, fillC, capOf]
    rw [decide_eq_true (List.eq_nil_of_length_eq_zero (by simpa using hl.symm)).symm]
    exact cmp_drop0 rfl

theorem h_eqIntA3S_rn {l : List Cell} {t o : Nat} {M : Mem} (h : Tri M t o l) (hn : l.length ≤ 1000000000) : CallsTo PG F.laws_eqIntA3S [.ref t o l.length, .nil] M (.B (decide (l = []))) M := by
  refine calls_run K.laws_eqIntA3S rfl ?_
  simp (disch := omega) only [C.laws_eqIntA3S, ↓SXd, SXu, slBounds, ↓sop, ↓aop, ↓reduceIte, LV.cells, AOp.dst, LV.I, LV.B, LV.U, LV.S, LV.nil, Nat.reduceEqDiff, Nat.reduceAdd, Nat.reduceMul, Nat.reduceSub, Nat.reduceLeDiff, Nat.reduceBEq, Nat.reduceDiv, Nat.reduceMod, Int.reduceToNat, Int.reduceLT, Int.reduceLE, Int.reduceAdd, Int.reduceSub, Int.reduceMul, Int.reduceEq, Int.reduceNeg, reduceCtorEq, resV, resAll, ARes.ev, LV.flat, ite_true, ite_false, exists_eq_left', exists_eq_left, keyOf, implies_true, fillC, capOf]
  refine condC_dec (fun hl => ?_) (fun hl => ?_)
  rotate_left
  · rw [show decide (l = []) = false from decide_eq_false (fun e => by subst e; exact (hl rfl).elim)]
    simp (disch := omega) only [↓SXd, SXu, slBounds, ↓sop, ↓aop, ↓reduceIte, LV.cells, AOp.dst, LV.I, LV.B, LV.U, LV.S, LV.nil, Nat.reduceEqDiff, Nat.reduceAdd, Nat.reduceMul, Nat.reduceSub, Nat.reduceLeDiff, Nat.reduceBEq, Nat.reduceDiv, Nat.reduceMod, Int.reduceToNat, Int.reduceLT, Int.reduceLE, Int.reduceAdd, Int.reduceSub, Int.reduceMul, Int.reduceEq, Int.reduceNeg, reduceCtorEq, resV, resAll, ARes.ev, LV.flat, ite_true, ite_false, exists_eq_left', exists_eq_left, keyOf, implies_true, fillC, capOf]
    exact cmp_drop0 rfl
  · simp (disch := omega) only [↓SXd, SXu, slBounds, ↓sop, ↓aop, ↓reduceIte, LV.cells, AOp.dst, LV.I, LV.B, LV.U, LV.S, LV.nil, Nat.reduceEqDiff, Nat.reduceAdd, Nat.reduceMul, Nat.reduceSub, Nat.reduceLeDiff, Nat.reduceBEq, Nat.reduceDiv, Nat.reduceMod, Int.reduceToNat, Int.reduceLT, Int.reduceLE, Int.reduceAdd, Int.reduceSub, Int.reduceMul, Int.reduceEq, Int.reduceNeg, reduceCtorEq, resV, resAll, ARes.ev, LV.flat, ite_true, ite_false, exists_eq_left', exists_eq_left, keyOf, implies_true, fillC, capOf]
    have hz : l.length = 0 := by omega
    refine ev_loop (fun m fr M' => M' = M ∧ fr 0 = .ref t o l.length ∧ fr 5 = .I 0) 0 ⟨rfl, rfl, rfl⟩ ?_
    rintro m fr M' ⟨rfl, h0, h5⟩
    simp (disch := omega) only [h0, h5, hz, ↓SXd, SXu, slBounds, ↓sop, ↓aop, ↓reduceIte, LV.cells, AOp.dst, LV.I, LV.B, LV.U, LV.S, LV.nil, Nat.reduceEqDiff, Nat.reduceAdd, Nat.reduceMul, Nat.reduceSub, Nat.reduceLeDiff, Nat.reduceBEq, Nat.reduceDiv, Nat.reduceMod, Int.reduceToNat, Int.reduceLT, Int.reduceLE, Int.reduceAdd, Int.reduceSub, Int.reduceMul, Int.reduceEq, Int.reduceNeg, reduceCtorEq, resV, resAll, ARes.ev, LV.flat, ite_true, ite_false, exists_eq_left', exists_eq_left, keyOf, implies_true, fillC, capOf]
    rw [decide_eq_true (List.eq_nil_of_length_eq_zero hz)]
    exact cmp_drop0 rfl

theorem h_eqCells {l l' : List Cell} {v v' : LV} {M : Mem} (h : CellsV M v l) (h' : CellsV M v' l') (hn : l.length ≤ 1000000000) (hn' : l'.length ≤ 1000000000) :
    CallsTo PG F.laws_eqIntA3S [v, v'] M (.B (decide (l = l'))) M := by
  rcases h with ⟨rfl, rfl⟩ | ⟨t, o, rfl, h⟩
  · exact h_eqIntA3S_n h' hn'
  · rcases h' with ⟨rfl, rfl⟩ | ⟨t', o', rfl, h'⟩
    · exact h_eqIntA3S_rn h hn
    · exact h_eqIntA3S h h' hn hn'

theorem h_eqHeapV {x y z x' y' z' : Int} {v v' : LV} {cs ds : List Cell} {M : Mem} (h : CellsV M v cs) (h' : CellsV M v' ds) (hn : cs.length ≤ 1000000000) (hn' : ds.length ≤ 1000000000) :
    CallsTo PG F.laws_eqHeap [.agg [.I x, .I y, .I z, v], .agg [.I x', .I y', .I z', v']] M (.B (decide (x = x' ∧ y = y' ∧ z = z' ∧ cs = ds))) M := by
  have hv : ∀ {v : LV} {l : List Cell}, CellsV M v l → v.one = true ∧ v.cells = some [v] ∧ v.lo1 M.length = true := fun {v l} h => by
    rcases h with ⟨rfl, rfl⟩ | ⟨t, o, rfl, h⟩
    · exact ⟨rfl, rfl, rfl⟩
    · exact ⟨rfl, rfl, decide_eq_true h.lt⟩
  refine calls_run K.laws_eqHeap rfl ?_
  simp (disch := omega) only [C.laws_eqHeap, ↓SXd, SXu, slBounds, ↓sop, ↓aop, ↓reduceIte, LV.cells, AOp.dst, LV.I, LV.B, LV.U, LV.S, LV.nil, Nat.reduceEqDiff, Nat.reduceAdd, Nat.reduceMul, Nat.reduceSub, Nat.reduceLeDiff, Nat.reduceBEq, Nat.reduceDiv, Nat.reduceMod, Int.reduceToNat, Int.reduceLT, Int.reduceLE, Int.reduceAdd, Int.reduceSub, Int.reduceMul, Int.reduceEq, Int.reduceNeg, reduceCtorEq, resV, resAll, ARes.ev, LV.flat, ite_true, ite_false, exists_eq_left', exists_eq_left, keyOf, implies_true, fillC, capOf]
  refine condC_dec (fun h1 => ?_) (fun h1 => ?_) <;> simp (disch := omega) only [↓SXd, SXu, slBounds, ↓sop, ↓aop, ↓reduceIte, LV.cells, AOp.dst, LV.I, LV.B, LV.U, LV.S, LV.nil, Nat.reduceEqDiff, Nat.reduceAdd, Nat.reduceMul, Nat.reduceSub, Nat.reduceLeDiff, Nat.reduceBEq, Nat.reduceDiv, Nat.reduceMod, Int.reduceToNat, Int.reduceLT, Int.reduceLE, Int.reduceAdd, Int.reduceSub, Int.reduceMul, Int.reduceEq, Int.reduceNeg, reduceCtorEq, resV, resAll, ARes.ev, LV.flat, ite_true, ite_false, exists_eq_left', exists_eq_left, keyOf, implies_true, fillC, capOf]
  · refine condC_dec (fun h2 => ?_) (fun h2 => ?_) <;> simp (disch := omega) only [↓SXd, SXu, slBounds, ↓sop, ↓aop, ↓reduceIte, LV.cells, AOp.dst, LV.I, LV.B, LV.U, LV.S, LV.nil, Nat.reduceEqDiff, Nat.reduceAdd, Nat.reduceMul, Nat.reduceSub, Nat.reduceLeDiff, Nat.reduceBEq, Nat.reduceDiv, Nat.reduceMod, Int.reduceToNat, Int.reduceLT, Int.reduceLE, Int.reduceAdd, Int.reduceSub, Int.reduceMul, Int.reduceEq, Int.reduceNeg, reduceCtorEq, resV, resAll, ARes.ev, LV.flat, ite_true, ite_false, exists_eq_left', exists_eq_left, keyOf, implies_true, fillC, capOf]
    · refine condC_dec (fun h3 => ?_) (fun h3 => ?_) <;> simp (disch := omega) only [↓SXd, SXu, slBounds, ↓sop, ↓aop, ↓reduceIte, LV.cells, AOp.dst, LV.I, LV.B, LV.U, LV.S, LV.nil, Nat.reduceEqDiff, Nat.reduceAdd, Nat.reduceMul, Nat.reduceSub, Nat.reduceLeDiff, Nat.reduceBEq, Nat.reduceDiv, Nat.reduceMod, Int.reduceToNat, Int.reduceLT, Int.reduceLE, Int.reduceAdd, Int.reduceSub, Int.reduceMul, Int.reduceEq, Int.reduceNeg, reduceCtorEq, resV, resAll, ARes.ev, LV.flat, ite_true, ite_false, exists_eq_left', exists_eq_left, keyOf, implies_true, fillC, capOf]
      · refine callK_of (h_eqCells (h.pre (Pre.app _ _)) (h'.pre (Pre.app _ _)) hn hn') ?_
        simp (disch := omega) only [↓SXd, SXu, slBounds, ↓sop, ↓aop, ↓reduceIte, LV.cells, AOp.dst, LV.I, LV.B, LV.U, LV.S, LV.nil, Nat.reduceEqDiff, Nat.reduceAdd, Nat.reduceMul, Nat.reduceSub, Nat.reduceLeDiff, Nat.reduceBEq, Nat.reduceDiv, Nat.reduceMod, Int.reduceToNat, Int.reduceLT, Int.reduceLE, Int.reduceAdd, Int.reduceSub, Int.reduceMul, Int.reduceEq, Int.reduceNeg, reduceCtorEq, resV, resAll, ARes.ev, LV.flat, ite_true, ite_false, exists_eq_left', exists_eq_left, keyOf, implies_true, fillC, capOf]
        refine condC_dec (fun h4 => ?_) (fun h4 => ?_) <;> simp (disch := omega) only [↓SXd, SXu, slBounds, ↓sop, ↓aop, ↓reduceIte, LV.cells, AOp.dst, LV.I, LV.B, LV.U, LV.S, LV.nil, Nat.reduceEqDiff, Nat.reduceAdd, Nat.reduceMul, Nat.reduceSub, Nat.reduceLeDiff, Nat.reduceBEq, Nat.reduceDiv, Nat.reduceMod, Int.reduceToNat, Int.reduceLT, Int.reduceLE, Int.reduceAdd, Int.reduceSub, Int.reduceMul, Int.reduceEq, Int.reduceNeg, reduceCtorEq, resV, resAll, ARes.ev, LV.flat, ite_true, ite_false, exists_eq_left', exists_eq_left, keyOf, implies_true, fillC, capOf]
        · rw [decide_eq_true ⟨h1, h2, h3, h4⟩]; exact cmp_drop rfl
        · rw [decide_eq_false (fun e => h4 e.2.2.2)]; exact cmp_drop rfl
      · rw [decide_eq_false (fun e => h3 e.2.2.1)]; exact cmp_drop rfl
    · rw [decide_eq_false (fun e => h2 e.2.1)]; exact cmp_drop rfl
  · rw [decide_eq_false (fun e => h1 e.1)]; exact cmp_drop rfl

theorem marks3_step {k : Int} {l : List Cell} {i : Nat} (h : i < l.length) : (marks3 k i ++ l.drop i).set i ⟨k + 3 * i, k + 3 * i + 1, k + 3 * i + 2⟩ = marks3 k (i + 1) ++ l.drop (i + 1) := by
  rw [List.set_append_right _ _ (by rw [marks3_len]; omega), marks3_len, Nat.sub_self, List.drop_eq_getElem_cons h, List.set_cons_zero]
  simp [marks3, List.range_succ, List.append_assoc]

/-- What a marking leaves. -/
def Marked3 (M : Mem) (v : LV) (k : Int) (n : Nat) (r : LV) (N : Mem) : Prop := r = .I (k + 3 * n) ∧ SlC N v (marks3 k n) ∧ N.length = M.length ∧ ∀ u, Off v u → N[u]? = M[u]?

def cellSet (c : Cell) (j : Nat) (v : Int) : Cell := match j with | 0 => ⟨v, c.b, c.c⟩ | 1 => ⟨c.a, v, c.c⟩ | _ => ⟨c.a, c.b, v⟩
theorem triL_set1 (cs : List Cell) : ∀ (k j : Nat) (v : Int), k < cs.length → j < 3 → splice (triL cs) (k * 3 + j) [LV.val (.int .i64 v)] = triL (cs.set k (cellSet (cs.getD k default) j v)) := by
  induction cs with
  | nil => intro k j v h; simp at h
  | cons c cs ih =>
    intro k j v h hj
    rw [splice_1 (by rw [triL_len]; simp only [List.length_cons] at h ⊢; omega)]
    cases k with
    | zero =>
      match j, hj with
      | 0, _ => rfl
      | 1, _ => rfl
      | 2, _ => rfl
    | succ k =>
      have h2 := ih k j v (by simpa using h) hj
      rw [splice_1 (by rw [triL_len]; simp only [List.length_cons] at h; omega)] at h2
      have e : (k + 1) * 3 + j = (k * 3 + j) + 3 := by omega
      rw [e]
      show c.row ++ (triL cs).set (k * 3 + j) (LV.val (.int .i64 v)) = c.row ++ triL (cs.set k (cellSet (cs.getD k default) j v))
      rw [h2]

theorem memK_cell {M : Mem} {t k j : Nat} {cs : List Cell} {v : Int} {A : Mem → Prop} (ht : Live M t (.row (triL cs) true 3)) (hk : k < cs.length) (hj : j < 3)
    (hA : ∀ M', M'.length = M.length → Live M' t (.row (triL (cs.set k (cellSet (cs.getD k default) j v))) true 3) → (∀ u, u ≠ t → u < M.length → M'[u]? = M[u]?) → A M') :
    memK (setCells M t (k * 3 + j) [.val (.int .i64 v)]) A := by
  rw [ht.setC, if_pos (by rw [triL_len]; simp; omega), triL_set1 _ _ _ _ hk hj]
  exact hA _ (by simp) ht.set_eq fun u hu _ => List.getElem?_set_ne (fun e => hu e.symm)

theorem h_markIntA3S {v : LV} {l : List Cell} {k : Int} {M : Mem} (h : SlC M v l) (hn : l.length ≤ 1000000000) (hk : 0 ≤ k ∧ k ≤ 1000000000) :
    CallsR PG F.laws_markIntA3S [v, .I k] M (Marked3 M v k l.length) := by
  refine callsR_run K.laws_markIntA3S rfl ?_
  rcases h with ⟨rfl, rfl⟩ | ⟨t, ex, rfl, h⟩
  · simp (disch := omega) only [C.laws_markIntA3S, ↓SXd, SXu, slBounds, ↓sop, ↓aop, ↓reduceIte, LV.cells, AOp.dst, LV.I, LV.B, LV.U, LV.S, LV.nil, Nat.reduceEqDiff, Nat.reduceAdd, Nat.reduceMul, Nat.reduceSub, Nat.reduceLeDiff, Nat.reduceBEq, Nat.reduceDiv, Nat.reduceMod, Int.reduceToNat, Int.reduceLT, Int.reduceLE, Int.reduceAdd, Int.reduceSub, Int.reduceMul, Int.reduceEq, Int.reduceNeg, reduceCtorEq, resV, resAll, ARes.ev, LV.flat, ite_true, ite_false, exists_eq_left', exists_eq_left, keyOf, implies_true, fillC, capOf]
    refine ev_loop (fun m fr M' => M' = M ∧ fr 0 = .nil ∧ fr 1 = .I k ∧ fr 5 = .I 0) 0 ⟨rfl, rfl, rfl, rfl⟩ ?_
    rintro m fr M' ⟨rfl, h0, h1, h5⟩
    simp (disch := omega) only [h0, h1, h5, ↓SXd, SXu, slBounds, ↓sop, ↓aop, ↓reduceIte, LV.cells, AOp.dst, LV.I, LV.B, LV.U, LV.S, LV.nil, Nat.reduceEqDiff, Nat.reduceAdd, Nat.reduceMul, Nat.reduceSub, Nat.reduceLeDiff, Nat.reduceBEq, Nat.reduceDiv, Nat.reduceMod, Int.reduceToNat, Int.reduceLT, Int.reduceLE, Int.reduceAdd, Int.reduceSub, Int.reduceMul, Int.reduceEq, Int.reduceNeg, reduceCtorEq, resV, resAll, ARes.ev, LV.flat, ite_true, ite_false, exists_eq_left', exists_eq_left, keyOf, implies_true, fillC, capOf]
    exact ⟨eqI (by simp), (SlC.nil (N := M') : SlC M' LV.nil []), rfl, fun _ _ => rfl⟩
  · simp (disch := omega) only [C.laws_markIntA3S, ↓SXd, SXu, slBounds, ↓sop, ↓aop, ↓reduceIte, LV.cells, AOp.dst, LV.I, LV.B, LV.U, LV.S, LV.nil, Nat.reduceEqDiff, Nat.reduceAdd, Nat.reduceMul, Nat.reduceSub, Nat.reduceLeDiff, Nat.reduceBEq, Nat.reduceDiv, Nat.reduceMod, Int.reduceToNat, Int.reduceLT, Int.reduceLE, Int.reduceAdd, Int.reduceSub, Int.reduceMul, Int.reduceEq, Int.reduceNeg, reduceCtorEq, resV, resAll, ARes.ev, LV.flat, ite_true, ite_false, exists_eq_left', exists_eq_left, keyOf, implies_true, fillC, capOf]
    refine ev_loop (fun m fr M' => ∃ i : Nat, i + m = l.length ∧ M'.length = M.length ∧ Live M' t (.row (triL (marks3 k i ++ (l ++ ex).drop i)) true 3) ∧ (∀ u, u ≠ t → M'[u]? = M[u]?) ∧ fr 0 = .ref t 0 l.length ∧ fr 1 = .I (k + 3 * i) ∧ fr 5 = .I i) l.length
      ⟨0, by omega, rfl, by simpa [marks3] using h, fun _ _ => rfl, rfl, eqI (by omega), rfl⟩ ?_
    rintro m fr M' ⟨i, hi, hlen, hlive, hoff, h0, h1, h5⟩
    simp (disch := omega) only [h0, h1, h5, ↓SXd, SXu, slBounds, ↓sop, ↓aop, ↓reduceIte, LV.cells, AOp.dst, LV.I, LV.B, LV.U, LV.S, LV.nil, Nat.reduceEqDiff, Nat.reduceAdd, Nat.reduceMul, Nat.reduceSub, Nat.reduceLeDiff, Nat.reduceBEq, Nat.reduceDiv, Nat.reduceMod, Int.reduceToNat, Int.reduceLT, Int.reduceLE, Int.reduceAdd, Int.reduceSub, Int.reduceMul, Int.reduceEq, Int.reduceNeg, reduceCtorEq, resV, resAll, ARes.ev, LV.flat, ite_true, ite_false, exists_eq_left', exists_eq_left, keyOf, implies_true, fillC, capOf]
    refine condC_dec (fun hlt => ?_) (fun hlt => ?_)
    · simp (disch := omega) only [h0, h1, h5, ↓SXd, SXu, slBounds, ↓sop, ↓aop, ↓reduceIte, LV.cells, AOp.dst, LV.I, LV.B, LV.U, LV.S, LV.nil, Nat.reduceEqDiff, Nat.reduceAdd, Nat.reduceMul, Nat.reduceSub, Nat.reduceLeDiff, Nat.reduceBEq, Nat.reduceDiv, Nat.reduceMod, Int.reduceToNat, Int.reduceLT, Int.reduceLE, Int.reduceAdd, Int.reduceSub, Int.reduceMul, Int.reduceEq, Int.reduceNeg, reduceCtorEq, resV, resAll, ARes.ev, LV.flat, ite_true, ite_false, exists_eq_left', exists_eq_left, keyOf, implies_true, fillC, capOf]
      generalize hds : marks3 k i ++ (l ++ ex).drop i = ds at hlive
      have hdl : i < ds.length := by rw [← hds]; simp [marks3_len]; omega
      refine ev_loop (fun m2 fr N => ∃ j : Nat, j + m2 = 3 ∧ N.length = M.length ∧ Live N t (.row (triL (ds.set i ⟨if 0 < j then k + 3 * i else (ds.getD i default).a, if 1 < j then k + 3 * i + 1 else (ds.getD i default).b, if 2 < j then k + 3 * i + 2 else (ds.getD i default).c⟩)) true 3) ∧ (∀ u, u ≠ t → N[u]? = M[u]?) ∧
        fr 0 = .ref t 0 l.length ∧ fr 1 = .I (k + 3 * i + j) ∧ fr 5 = .I i ∧ fr 6 = .I j) 3
        ⟨0, rfl, hlen, by
          simp only [Nat.lt_irrefl, Nat.not_lt_zero, if_false]
          rw [show (ds.set i ⟨(ds.getD i default).a, (ds.getD i default).b, (ds.getD i default).c⟩) = ds from by
            rw [cell_eta]; simp [hdl]]
          exact hlive, hoff, h0, h1.trans (eqI (by omega)), h5, rfl⟩ ?_
      rintro m2 fr N ⟨j, hj, hlen, hlive, hoff, h0, h1, h5, h6⟩
      simp (disch := omega) only [h0, h1, h5, h6, ↓SXd, SXu, slBounds, ↓sop, ↓aop, ↓reduceIte, LV.cells, AOp.dst, LV.I, LV.B, LV.U, LV.S, LV.nil, Nat.reduceEqDiff, Nat.reduceAdd, Nat.reduceMul, Nat.reduceSub, Nat.reduceLeDiff, Nat.reduceBEq, Nat.reduceDiv, Nat.reduceMod, Int.reduceToNat, Int.reduceLT, Int.reduceLE, Int.reduceAdd, Int.reduceSub, Int.reduceMul, Int.reduceEq, Int.reduceNeg, reduceCtorEq, resV, resAll, ARes.ev, LV.flat, ite_true, ite_false, exists_eq_left', exists_eq_left, keyOf, implies_true, fillC, capOf]
      refine condC_dec (fun hlt2 => ?_) (fun hlt2 => ?_)
      · simp (disch := omega) only [h0, h1, h5, h6, ↓SXd, SXu, slBounds, ↓sop, ↓aop, ↓reduceIte, LV.cells, AOp.dst, LV.I, LV.B, LV.U, LV.S, LV.nil, Nat.reduceEqDiff, Nat.reduceAdd, Nat.reduceMul, Nat.reduceSub, Nat.reduceLeDiff, Nat.reduceBEq, Nat.reduceDiv, Nat.reduceMod, Int.reduceToNat, Int.reduceLT, Int.reduceLE, Int.reduceAdd, Int.reduceSub, Int.reduceMul, Int.reduceEq, Int.reduceNeg, reduceCtorEq, resV, resAll, ARes.ev, LV.flat, ite_true, ite_false, exists_eq_left', exists_eq_left, keyOf, implies_true, fillC, capOf]
        refine memK_cell hlive (by simpa using hdl) (by omega) fun N' l1 l2 l3 => ?_
        simp (disch := omega) only [h0, h1, h5, h6, ↓SXd, SXu, slBounds, ↓sop, ↓aop, ↓reduceIte, LV.cells, AOp.dst, LV.I, LV.B, LV.U, LV.S, LV.nil, Nat.reduceEqDiff, Nat.reduceAdd, Nat.reduceMul, Nat.reduceSub, Nat.reduceLeDiff, Nat.reduceBEq, Nat.reduceDiv, Nat.reduceMod, Int.reduceToNat, Int.reduceLT, Int.reduceLE, Int.reduceAdd, Int.reduceSub, Int.reduceMul, Int.reduceEq, Int.reduceNeg, reduceCtorEq, resV, resAll, ARes.ev, LV.flat, ite_true, ite_false, exists_eq_left', exists_eq_left, keyOf, implies_true, fillC, capOf]
        refine ⟨m2 - 1, by omega, j + 1, by omega, by omega, ?_, fun u hu => by
          rcases Nat.lt_or_ge u N.length with h2 | h2
          · rw [l3 u hu h2]; exact hoff u hu
          · rw [List.getElem?_eq_none (by omega), List.getElem?_eq_none (by omega)], h0, eqI (by omega), h5, eqI (natI _)⟩
        rw [List.set_set, getD_set, if_pos ⟨rfl, hdl⟩] at l2
        have hj3 : j = 0 ∨ j = 1 ∨ j = 2 := by omega
        rcases hj3 with rfl | rfl | rfl
        · simpa [cellSet] using l2
        · simpa [cellSet] using l2
        · simpa [cellSet] using l2
      · simp (disch := omega) only [h0, h1, h5, h6, ↓SXd, SXu, slBounds, ↓sop, ↓aop, ↓reduceIte, LV.cells, AOp.dst, LV.I, LV.B, LV.U, LV.S, LV.nil, Nat.reduceEqDiff, Nat.reduceAdd, Nat.reduceMul, Nat.reduceSub, Nat.reduceLeDiff, Nat.reduceBEq, Nat.reduceDiv, Nat.reduceMod, Int.reduceToNat, Int.reduceLT, Int.reduceLE, Int.reduceAdd, Int.reduceSub, Int.reduceMul, Int.reduceEq, Int.reduceNeg, reduceCtorEq, resV, resAll, ARes.ev, LV.flat, ite_true, ite_false, exists_eq_left', exists_eq_left, keyOf, implies_true, fillC, capOf]
        have : j = 3 := by omega
        subst this
        refine ⟨m - 1, by omega, i + 1, by omega, hlen, ?_, hoff, h0, h1.trans (eqI (by omega)), eqI (natI _)⟩
        rw [← hds] at hlive
        simp only [show (0 < 3) = True by simp, show (1 < 3) = True by simp, show (2 < 3) = True by simp, if_true] at hlive
        rw [marks3_step (by simp; omega)] at hlive
        exact hlive
    · simp (disch := omega) only [h0, h1, h5, ↓SXd, SXu, slBounds, ↓sop, ↓aop, ↓reduceIte, LV.cells, AOp.dst, LV.I, LV.B, LV.U, LV.S, LV.nil, Nat.reduceEqDiff, Nat.reduceAdd, Nat.reduceMul, Nat.reduceSub, Nat.reduceLeDiff, Nat.reduceBEq, Nat.reduceDiv, Nat.reduceMod, Int.reduceToNat, Int.reduceLT, Int.reduceLE, Int.reduceAdd, Int.reduceSub, Int.reduceMul, Int.reduceEq, Int.reduceNeg, reduceCtorEq, resV, resAll, ARes.ev, LV.flat, ite_true, ite_false, exists_eq_left', exists_eq_left, keyOf, implies_true, fillC, capOf]
      have : i = l.length := by omega
      subst this
      refine ⟨rfl, .inr ⟨t, ex, by rw [marks3_len], ?_⟩, hlen, fun u hu => hoff u hu⟩
      have e : (l ++ ex).drop l.length = ex := by simp
      rw [e] at hlive; exact hlive

theorem h_markHeap {x y z : Int} {v : LV} {l : List Cell} {k : Int} {M : Mem} (h : SlC M v l) (hn : l.length ≤ 1000000000) (hk : 0 ≤ k ∧ k ≤ 1000000000) :
    CallsR PG F.laws_markHeap [.agg [.I x, .I y, .I z, v], .I k] M fun r N => r = .I (k + 3 * l.length) ∧ SlC N v (marks3 k l.length) ∧ M.length ≤ N.length ∧ ∀ u, u < M.length → Off v u → N[u]? = M[u]? := by
  refine callsR_run K.laws_markHeap rfl ?_
  simp (disch := omega) only [C.laws_markHeap, ↓SXd, SXu, slBounds, ↓sop, ↓aop, ↓reduceIte, LV.cells, AOp.dst, LV.I, LV.B, LV.U, LV.S, LV.nil, Nat.reduceEqDiff, Nat.reduceAdd, Nat.reduceMul, Nat.reduceSub, Nat.reduceLeDiff, Nat.reduceBEq, Nat.reduceDiv, Nat.reduceMod, Int.reduceToNat, Int.reduceLT, Int.reduceLE, Int.reduceAdd, Int.reduceSub, Int.reduceMul, Int.reduceEq, Int.reduceNeg, reduceCtorEq, resV, resAll, ARes.ev, LV.flat, ite_true, ite_false, exists_eq_left', exists_eq_left, keyOf, implies_true, fillC, capOf]
  refine callR_of (h_markIntA3S (h.pre (Pre.app _ _)) hn hk) ?_
  rintro _ _ ⟨rfl, h1, h2, h3⟩
  simp (disch := omega) only [↓SXd, SXu, slBounds, ↓sop, ↓aop, ↓reduceIte, LV.cells, AOp.dst, LV.I, LV.B, LV.U, LV.S, LV.nil, Nat.reduceEqDiff, Nat.reduceAdd, Nat.reduceMul, Nat.reduceSub, Nat.reduceLeDiff, Nat.reduceBEq, Nat.reduceDiv, Nat.reduceMod, Int.reduceToNat, Int.reduceLT, Int.reduceLE, Int.reduceAdd, Int.reduceSub, Int.reduceMul, Int.reduceEq, Int.reduceNeg, reduceCtorEq, resV, resAll, ARes.ev, LV.flat, ite_true, ite_false, exists_eq_left', exists_eq_left, keyOf, implies_true, fillC, capOf]
  exact ⟨rfl, h1, by rw [h2]; simp, fun u hu ho => by rw [h3 u ho]; exact List.getElem?_append_left hu⟩
end Go.Ab

/- Memories of which one slice's block may have changed; what laws are told of results. -/
namespace Go.Ab
open Go
set_option linter.unusedSimpArgs false
set_option linter.unusedVariables false

/-- What M holds, N holds, but for the block of v. -/
def PreV (v : LV) (M N : Mem) : Prop := M.length ≤ N.length ∧ ∀ u, u < M.length → Off v u → N[u]? = M[u]?
/-- The slices v and w have not the same block. -/
def Apart (v w : LV) : Prop := ∀ t o n, w = .ref t o n → Off v t
theorem PreV.live {v : LV} {M N : Mem} {t : Nat} {b : Blk} (hp : PreV v M N) (h : Live M t b) (ho : Off v t) : Live N t b := by unfold Live; rw [hp.2 t h.lt ho]; exact h
theorem PreV.has {v : LV} {M N : Mem} {t o : Nat} {vs : List LV} (hp : PreV v M N) (h : Has M t o vs) (ho : Off v t) : Has N t o vs := by
  obtain ⟨row, h1, h2⟩ := h
  refine ⟨row, ?_, h2⟩
  unfold getRow at *
  rw [hp.2 t (row_lt (M := M) (by unfold getRow; exact h1)) ho]; exact h1
theorem PreV.slI {v w : LV} {M N : Mem} {l : List Int} (hp : PreV v M N) (h : SlI M w l) (ho : Apart v w) : SlI N w l := by
  rcases h with h | ⟨t, ex, h1, h2⟩
  · exact .inl h
  · exact .inr ⟨t, ex, h1, hp.live h2 (ho _ _ _ h1)⟩
theorem PreV.slC {v w : LV} {M N : Mem} {l : List Cell} (hp : PreV v M N) (h : SlC M w l) (ho : Apart v w) : SlC N w l := by
  rcases h with h | ⟨t, ex, h1, h2⟩
  · exact .inl h
  · exact .inr ⟨t, ex, h1, hp.live h2 (ho _ _ _ h1)⟩
theorem PreV.intsV {v w : LV} {M N : Mem} {l : List Int} (hp : PreV v M N) (h : IntsV M w l) (ho : Apart v w) : IntsV N w l := by
  rcases h with h | ⟨t, o, h1, h2⟩
  · exact .inl h
  · exact .inr ⟨t, o, h1, hp.has h2 (ho _ _ _ h1)⟩
theorem PreV.cellsV {v w : LV} {M N : Mem} {l : List Cell} (hp : PreV v M N) (h : CellsV M w l) (ho : Apart v w) : CellsV N w l := by
  rcases h with h | ⟨t, o, h1, h2⟩
  · exact .inl h
  · exact .inr ⟨t, o, h1, hp.has h2 (ho _ _ _ h1)⟩
theorem Marked.pre {M N : Mem} {v r : LV} {k : Int} {n : Nat} (h : Marked M v k n r N) : PreV v M N := ⟨by rw [h.2.2.1]; exact Nat.le_refl _, fun u _ ho => h.2.2.2 u ho⟩
theorem Marked3.pre {M N : Mem} {v r : LV} {k : Int} {n : Nat} (h : Marked3 M v k n r N) : PreV v M N := ⟨by rw [h.2.2.1]; exact Nat.le_refl _, fun u _ ho => h.2.2.2 u ho⟩
theorem PreV.pre {M0 M N : Mem} {v : LV} (hp : PreV v M N) (h : Pre M0 M) (hv : Newer M0 v) : Pre M0 N := ⟨Nat.le_trans h.1 hp.1, fun u hu => by rw [hp.2 u (Nat.lt_of_lt_of_le hu h.1) (hv u hu)]; exact h.2 u hu⟩
/-- The block of the slice lies in M. -/
def Older (M : Mem) (v : LV) : Prop := ∀ t o n, v = .ref t o n → t < M.length
theorem SlI.older {M : Mem} {v : LV} {l : List Int} (h : SlI M v l) : Older M v := fun t o n e => by
  rcases h with ⟨rfl, _⟩ | ⟨t', ex, h1, h2⟩
  · cases e
  · rw [h1] at e; cases e; exact h2.lt
theorem SlC.older {M : Mem} {v : LV} {l : List Cell} (h : SlC M v l) : Older M v := fun t o n e => by
  rcases h with ⟨rfl, _⟩ | ⟨t', ex, h1, h2⟩
  · cases e
  · rw [h1] at e; cases e; exact h2.lt
theorem CellsV.older {M : Mem} {v : LV} {l : List Cell} (h : CellsV M v l) : Older M v := fun t o n e => by
  rcases h with ⟨rfl, _⟩ | ⟨t', o', h1, h2⟩
  · cases e
  · rw [h1] at e; cases e; exact h2.lt
theorem IntsV.older {M : Mem} {v : LV} {l : List Int} (h : IntsV M v l) : Older M v := fun t o n e => by
  rcases h with ⟨rfl, _⟩ | ⟨t', o', h1, h2⟩
  · cases e
  · rw [h1] at e; cases e; exact h2.lt
/-- A newer slice is apart from an older one, and the other way. -/
theorem Newer.apart {M : Mem} {v w : LV} (hv : Newer M v) (hw : Older M w) : Apart v w := fun t o n e => hv t (hw t o n e)
theorem Apart.symm {v w : LV} (h : Apart v w) : Apart w v := fun t o n e => by
  cases w with
  | ref t' o' n' => have := h t' o' n' rfl; subst e; exact fun e => this e.symm
  | _ => trivial
theorem Newer.mono {M N : Mem} {v : LV} (h : Newer N v) (hp : Pre M N) : Newer M v := fun u hu => h u (Nat.lt_of_lt_of_le hu hp.1)

/-- A list of numbers, or none, and whether there is one. -/
def IntsRes (M : Mem) (r : Option (List Int)) (v : LV) (N : Mem) : Prop := ∃ w, v = .tup [w, .B r.isSome] ∧ SlI N w (r.getD []) ∧ Newer M w ∧ Pre M N
/-- A list of cells, or none, and whether there is one. -/
def CellsRes (M : Mem) (r : Option (List Cell)) (v : LV) (N : Mem) : Prop := ∃ w, v = .tup [w, .B r.isSome] ∧ SlC N w (r.getD []) ∧ Newer M w ∧ Pre M N
theorem CallsTo.ints1 {f : FuncId} {args : List LV} {M : Mem} {l : List Int} {ex : List Int} (h : CallsTo PG f args M (.tup [.ref M.length 0 l.length, .B true]) (M ++ [some (.row (intL (l ++ ex)) true 1)])) : CallsR PG f args M (IntsRes M (some l)) :=
  h.mono fun v N e => by
    rw [e.1, e.2]; exact ⟨_, rfl, .inr ⟨_, ex, rfl, Live.new⟩, Newer.of (Nat.le_refl _), Pre.app _ _⟩
theorem CallsTo.intsN {f : FuncId} {args : List LV} {M : Mem} (h : CallsTo PG f args M (.tup [.nil, .B false]) M) : CallsR PG f args M (IntsRes M none) :=
  h.mono fun v N e => by rw [e.1, e.2]; exact ⟨_, rfl, SlI.nil, Newer.nil, Pre.refl _⟩

/-- A call that leaves one new block: where it lies is forgotten. -/
theorem callN_of {P : Program} {f : FuncId} {args : List LV} {M : Mem} {n e : Nat} {vs : List LV} {A : LV → Mem → Prop} (h : CallsTo P f args M (.ref M.length 0 n) (M ++ [some (.row vs true e)]))
    (hA : ∀ (t : Nat) (N : Mem), M.length ≤ t → Pre M N → Live N t (.row vs true e) → A (.ref t 0 n) N) : callK P f args M A := callK_of h (hA _ _ (Nat.le_refl _) (Pre.app _ _) Live.new)

/-- The same for a heap. -/
theorem callH_of {P : Program} {f : FuncId} {args : List LV} {M : Mem} {n e : Nat} {a b c : LV} {vs : List LV} {A : LV → Mem → Prop} (h : CallsTo P f args M (.agg [a, b, c, .ref M.length 0 n]) (M ++ [some (.row vs true e)]))
    (hA : ∀ (t : Nat) (N : Mem), M.length ≤ t → Pre M N → Live N t (.row vs true e) → A (.agg [a, b, c, .ref t 0 n]) N) : callK P f args M A := callK_of h (hA _ _ (Nat.le_refl _) (Pre.app _ _) Live.new)
theorem Live.tri {M : Mem} {t k : Nat} {w : Bool} {cs ex : List Cell} (h : Live M t (.row (triL (cs ++ ex)) w 3)) (hk : k < cs.length) : getCells M t (k * 3) 3 = some (cs.getD k default).row := by
  rw [triL_append] at h
  have := Tri.get (cs := cs) h.hasL hk
  rwa [Nat.zero_add] at this
theorem Live.tri0 {M : Mem} {t k : Nat} {w : Bool} {cs : List Cell} (h : Live M t (.row (triL cs) w 3)) (hk : k < cs.length) : getCells M t (k * 3) 3 = some (cs.getD k default).row := Live.tri (ex := []) (by simpa using h) hk
end Go.Ab

/- Contracts: marks that are held, on lists of cells and on heaps. -/
namespace Go.Ab
open Go
set_option linter.unusedSimpArgs false
set_option linter.unusedVariables false

theorem h_heldIntA3S {v : LV} {n : Nat} {k : Int} {M : Mem} (h : CellsV M v (marks3 k n)) (hn : n ≤ 1000000000) (hk : 0 ≤ k ∧ k ≤ 1000000000) :
    CallsTo PG F.laws_heldIntA3S [v, .I k] M (.I (k + 3 * n)) M := by
  refine calls_run K.laws_heldIntA3S rfl ?_
  have hlen : lenV v = some (n : Int) := by
    rcases h with ⟨rfl, h⟩ | ⟨t, o, rfl, _⟩
    · have := congrArg List.length h; rw [marks3_len] at this; simp at this; subst this; rfl
    · rw [marks3_len]; rfl
  simp (disch := omega) only [C.laws_heldIntA3S, ↓SXd, SXu, slBounds, ↓sop, ↓aop, ↓reduceIte, LV.cells, AOp.dst, LV.I, LV.B, LV.U, LV.S, LV.nil, Nat.reduceEqDiff, Nat.reduceAdd, Nat.reduceMul, Nat.reduceSub, Nat.reduceLeDiff, Nat.reduceBEq, Nat.reduceDiv, Nat.reduceMod, Int.reduceToNat, Int.reduceLT, Int.reduceLE, Int.reduceAdd, Int.reduceSub, Int.reduceMul, Int.reduceEq, Int.reduceNeg, reduceCtorEq, resV, resAll, ARes.ev, LV.flat, ite_true, ite_false, exists_eq_left', exists_eq_left, keyOf, implies_true, fillC, capOf]
  refine ev_loop (fun m fr M' => ∃ i : Nat, i + m = n ∧ M' = M ∧ fr 0 = v ∧ fr 1 = .I (k + 3 * i) ∧ fr 5 = .I i) n ⟨0, by omega, rfl, rfl, eqI (by omega), rfl⟩ ?_
  rintro m fr M' ⟨i, hi, rfl, h0, h1, h5⟩
  simp (disch := omega) only [h0, h1, h5, hlen, ↓SXd, SXu, slBounds, ↓sop, ↓aop, ↓reduceIte, LV.cells, AOp.dst, LV.I, LV.B, LV.U, LV.S, LV.nil, Nat.reduceEqDiff, Nat.reduceAdd, Nat.reduceMul, Nat.reduceSub, Nat.reduceLeDiff, Nat.reduceBEq, Nat.reduceDiv, Nat.reduceMod, Int.reduceToNat, Int.reduceLT, Int.reduceLE, Int.reduceAdd, Int.reduceSub, Int.reduceMul, Int.reduceEq, Int.reduceNeg, reduceCtorEq, resV, resAll, ARes.ev, LV.flat, ite_true, ite_false, exists_eq_left', exists_eq_left, keyOf, implies_true, fillC, capOf]
  refine condC_dec (fun hlt => ?_) (fun hlt => ?_)
  · rcases h with ⟨_, h⟩ | ⟨t, o, rfl, h⟩
    · have := congrArg List.length h; rw [marks3_len] at this; simp at this; omega
    · have hml := marks3_len k n
      have h0' : fr 0 = .ref t o n := by rw [h0, hml]
      have hg := fun j (hj : j < 3) => Tri.get1 h (k := i) (j := j) (by omega) hj
      rw [marks3_get (by omega)] at hg
      simp (disch := omega) only [h0', h1, h5, ↓SXd, SXu, slBounds, ↓sop, ↓aop, ↓reduceIte, LV.cells, AOp.dst, LV.I, LV.B, LV.U, LV.S, LV.nil, Nat.reduceEqDiff, Nat.reduceAdd, Nat.reduceMul, Nat.reduceSub, Nat.reduceLeDiff, Nat.reduceBEq, Nat.reduceDiv, Nat.reduceMod, Int.reduceToNat, Int.reduceLT, Int.reduceLE, Int.reduceAdd, Int.reduceSub, Int.reduceMul, Int.reduceEq, Int.reduceNeg, reduceCtorEq, resV, resAll, ARes.ev, LV.flat, ite_true, ite_false, exists_eq_left', exists_eq_left, keyOf, implies_true, fillC, capOf]
      refine ev_loop (fun m2 fr N => ∃ j : Nat, j + m2 = 3 ∧ N = M' ∧ fr 0 = .ref t o n ∧ fr 1 = .I (k + 3 * i + j) ∧ fr 5 = .I i ∧ fr 6 = .I j) 3 ⟨0, rfl, rfl, h0', h1.trans (eqI (by omega)), h5, rfl⟩ ?_
      rintro m2 fr N ⟨j, hj, rfl, h0, h1, h5, h6⟩
      simp (disch := omega) only [h0, h1, h5, h6, ↓SXd, SXu, slBounds, ↓sop, ↓aop, ↓reduceIte, LV.cells, AOp.dst, LV.I, LV.B, LV.U, LV.S, LV.nil, Nat.reduceEqDiff, Nat.reduceAdd, Nat.reduceMul, Nat.reduceSub, Nat.reduceLeDiff, Nat.reduceBEq, Nat.reduceDiv, Nat.reduceMod, Int.reduceToNat, Int.reduceLT, Int.reduceLE, Int.reduceAdd, Int.reduceSub, Int.reduceMul, Int.reduceEq, Int.reduceNeg, reduceCtorEq, resV, resAll, ARes.ev, LV.flat, ite_true, ite_false, exists_eq_left', exists_eq_left, keyOf, implies_true, fillC, capOf]
      refine condC_dec (fun hlt2 => ?_) (fun hlt2 => ?_)
      · have hj3 : j = 0 ∨ j = 1 ∨ j = 2 := by omega
        have hgj := hg j (by omega)
        rcases hj3 with rfl | rfl | rfl
        all_goals
          simp only [Cell.row, List.getElem?_cons_zero, List.getElem?_cons_succ, Nat.add_zero] at hgj
          simp (disch := omega) only [h0, h1, h5, h6, hgj, ↓SXd, SXu, slBounds, ↓sop, ↓aop, ↓reduceIte, LV.cells, AOp.dst, LV.I, LV.B, LV.U, LV.S, LV.nil, Nat.reduceEqDiff, Nat.reduceAdd, Nat.reduceMul, Nat.reduceSub, Nat.reduceLeDiff, Nat.reduceBEq, Nat.reduceDiv, Nat.reduceMod, Int.reduceToNat, Int.reduceLT, Int.reduceLE, Int.reduceAdd, Int.reduceSub, Int.reduceMul, Int.reduceEq, Int.reduceNeg, reduceCtorEq, resV, resAll, ARes.ev, LV.flat, ite_true, ite_false, exists_eq_left', exists_eq_left, keyOf, implies_true, fillC, capOf]
          first
          | exact ⟨m2 - 1, by omega, 1, by omega, rfl, h0, eqI (by omega), h5, rfl⟩
          | exact ⟨m2 - 1, by omega, 2, by omega, rfl, h0, eqI (by omega), h5, rfl⟩
          | exact ⟨m2 - 1, by omega, 3, by omega, rfl, h0, eqI (by omega), h5, rfl⟩
      · simp (disch := omega) only [h0, h1, h5, h6, ↓SXd, SXu, slBounds, ↓sop, ↓aop, ↓reduceIte, LV.cells, AOp.dst, LV.I, LV.B, LV.U, LV.S, LV.nil, Nat.reduceEqDiff, Nat.reduceAdd, Nat.reduceMul, Nat.reduceSub, Nat.reduceLeDiff, Nat.reduceBEq, Nat.reduceDiv, Nat.reduceMod, Int.reduceToNat, Int.reduceLT, Int.reduceLE, Int.reduceAdd, Int.reduceSub, Int.reduceMul, Int.reduceEq, Int.reduceNeg, reduceCtorEq, resV, resAll, ARes.ev, LV.flat, ite_true, ite_false, exists_eq_left', exists_eq_left, keyOf, implies_true, fillC, capOf]
        have : j = 3 := by omega
        subst this
        exact ⟨m - 1, by omega, i + 1, by omega, rfl, by rw [hml]; exact h0, h1.trans (eqI (by omega)), eqI (natI _)⟩
  · simp (disch := omega) only [h0, h1, h5, ↓SXd, SXu, slBounds, ↓sop, ↓aop, ↓reduceIte, LV.cells, AOp.dst, LV.I, LV.B, LV.U, LV.S, LV.nil, Nat.reduceEqDiff, Nat.reduceAdd, Nat.reduceMul, Nat.reduceSub, Nat.reduceLeDiff, Nat.reduceBEq, Nat.reduceDiv, Nat.reduceMod, Int.reduceToNat, Int.reduceLT, Int.reduceLE, Int.reduceAdd, Int.reduceSub, Int.reduceMul, Int.reduceEq, Int.reduceNeg, reduceCtorEq, resV, resAll, ARes.ev, LV.flat, ite_true, ite_false, exists_eq_left', exists_eq_left, keyOf, implies_true, fillC, capOf]
    rw [show i = n by omega]
    exact cmp_drop0 rfl

theorem h_heldHeap {x y z : Int} {v : LV} {n : Nat} {k : Int} {M : Mem} (h : CellsV M v (marks3 k n)) (hn : n ≤ 1000000000) (hk : 0 ≤ k ∧ k ≤ 1000000000) :
    CallsTo PG F.laws_heldHeap [.agg [.I x, .I y, .I z, v], .I k] M (.I (k + 3 * n)) M := by
  have hv : v.cells = some [v] := by
    rcases h with ⟨rfl, _⟩ | ⟨t, o, rfl, _⟩ <;> rfl
  have hneg : ¬ (k + 3 * (n : Int) < 0) := by omega
  refine calls_run K.laws_heldHeap rfl ?_
  simp (disch := omega) only [C.laws_heldHeap, ↓SXd, SXu, slBounds, ↓sop, ↓aop, ↓reduceIte, LV.cells, AOp.dst, LV.I, LV.B, LV.U, LV.S, LV.nil, Nat.reduceEqDiff, Nat.reduceAdd, Nat.reduceMul, Nat.reduceSub, Nat.reduceLeDiff, Nat.reduceBEq, Nat.reduceDiv, Nat.reduceMod, Int.reduceToNat, Int.reduceLT, Int.reduceLE, Int.reduceAdd, Int.reduceSub, Int.reduceMul, Int.reduceEq, Int.reduceNeg, reduceCtorEq, resV, resAll, ARes.ev, LV.flat, ite_true, ite_false, exists_eq_left', exists_eq_left, keyOf, implies_true, fillC, capOf]
  refine callK_of (h_heldIntA3S (h.pre (Pre.app _ _)) hn hk) ?_
  simp (disch := omega) only [hneg, ↓SXd, SXu, slBounds, ↓sop, ↓aop, ↓reduceIte, LV.cells, AOp.dst, LV.I, LV.B, LV.U, LV.S, LV.nil, Nat.reduceEqDiff, Nat.reduceAdd, Nat.reduceMul, Nat.reduceSub, Nat.reduceLeDiff, Nat.reduceBEq, Nat.reduceDiv, Nat.reduceMod, Int.reduceToNat, Int.reduceLT, Int.reduceLE, Int.reduceAdd, Int.reduceSub, Int.reduceMul, Int.reduceEq, Int.reduceNeg, reduceCtorEq, resV, resAll, ARes.ev, LV.flat, ite_true, ite_false, exists_eq_left', exists_eq_left, keyOf, implies_true, fillC, capOf]
  exact cmp_drop rfl
end Go.Ab

/- What laws are told of heaps as results. -/
namespace Go.Ab
open Go

structure Hp where
  x : Int
  y : Int
  z : Int
  cs : List Cell
def Hp.none : Hp := ⟨0, 0, 0, []⟩
abbrev Hp.row (r : Hp) (w : LV) : Blk := .row [.I r.x, .I r.y, .I r.z, w] true 0
/-- A heap, or the one of all zeros, what else there is, and whether there is one. -/
def HeapRes (M : Mem) (r : Option Hp) (ext : List LV) (v : LV) (N : Mem) : Prop :=
  ∃ w, v = .tup (.agg [.I (r.getD Hp.none).x, .I (r.getD Hp.none).y, .I (r.getD Hp.none).z, w] :: (ext ++ [.B r.isSome])) ∧ SlC N w (r.getD Hp.none).cs ∧ Newer M w ∧ Pre M N
theorem Older.off {M : Mem} {v : LV} {u : Nat} (h : Older M v) (hu : M.length ≤ u) : Off v u := by
  cases v with
  | ref t o n => have := h t o n rfl; show u ≠ t; omega
  | _ => trivial
end Go.Ab

/- The abstract code of some functions (written by a program of mine from the translation, by way of prepF). -/
namespace Go.Ab.C
open Go.Ab
def spec_FillCavities : AFn :=
  ⟨1, 28, [.cellN 2 4, .tmp 3],
    .seq (.ops [(none, .box 1 (.t 0)),
       (none, .alloc 2 [(.I 0), (.I 0), (.I 0), .nil]),
       (none, .mv 3 (.c (.B false)))])
    (.seq (.seq (.ops [(none, .loadN 7 4 (.t 1)),
         (none, .call (some 8) F.spec_l2Heap [(.t 7)]),
         (none, .un 9 .not (.t 8))])
      (.cond (.t 9) (.seq (.ops [(none, .build 10 [(.I 0), (.I 0), (.I 0), .nil] []),
           (none, .store 4 (.t 2) (.t 10)),
           (none, .mv 3 (.c (.B false)))])
        (.ret))
       (.skip)))
     (.seq (.draw [⟨(none, .loadN 11 4 (.t 1)), [], []⟩,
         ⟨(none, .loadN 13 4 (.t 1)), [], []⟩,
         ⟨(none, .alloc 4 [(.I 0), (.I 0), (.I 0), .nil]), [], []⟩,
         ⟨(none, .call (some 12) F.spec_l2Own [(.t 11)]), [2], [1]⟩,
         ⟨(none, .call (some 14) F.spec_l6Enclosed [(.t 13)]), [2], []⟩,
         ⟨(none, .store 4 (.t 4) (.t 12)), [], []⟩,
         ⟨(none, .mv 5 (.t 14)), [], []⟩])
      (.seq (.seq (.ops [(none, .mv 6 (.c (.I 0)))])
        (.block 0 (.loop (.seq (.seq (.ops [(none, .mv 15 (.t 6)),
               (none, .mv 16 (.t 5)),
               (none, .len 17 (.t 16)),
               (none, .bin 18 .lss (.t 15) (.t 17))])
            (.cond (.t 18) (.skip)
             (.exit 0)))
           (.seq (.block 1 (.draw [⟨(none, .loadN 21 4 (.t 4)), [], []⟩,
                ⟨(none, .mv 22 (.t 5)), [], []⟩,
                ⟨(none, .mv 23 (.t 6)), [], []⟩,
                ⟨(none, .idxS 24 3 (.t 22) (.t 23)), [], []⟩,
                ⟨(none, .loadN 25 3 (.t 24)), [], []⟩,
                ⟨(none, .call (some 26) F.spec_l2With [(.t 21), (.t 25)]), [], []⟩,
                ⟨(none, .store 4 (.t 4) (.t 26)), [], []⟩]))
            (.ops [(none, .mv 19 (.t 6)),
               (none, .bin 20 .add (.t 19) (.c (.I 1))),
               (none, .mv 6 (.t 20))]))))))
       (.seq (.ops [(none, .loadN 27 4 (.t 4)),
           (none, .store 4 (.t 2) (.t 27)),
           (none, .mv 3 (.c (.B true)))])
        (.ret)))))⟩
end Go.Ab.C

/- That the program has this code. -/
namespace Go.Ab.K
open Go Go.Ab
theorem spec_FillCavities : prepF Go.Proofs.Try.prog F.spec_FillCavities = some C.spec_FillCavities := by kernel_rfl
end Go.Ab.K

/- The abstract code of some functions (written by a program of mine from the translation, by way of prepF). -/
namespace Go.Ab.C
open Go.Ab
def spec_l6Steps : AFn :=
  ⟨0, 8, [.cellN 0 18],
    .seq (.ops [(none, .alloc 0 [(.I 0), (.I 0), (.I 0), (.I 0), (.I 0), (.I 0), (.I 0), (.I 0), (.I 0), (.I 0), (.I 0), (.I 0), (.I 0), (.I 0), (.I 0), (.I 0), (.I 0), (.I 0)])])
    (.seq (.ops [(none, .build 1 [(.I 0), (.I 0), (.I 0)] [(0, 1, (.c (.I (-1)))), (1, 1, (.c (.I 0))), (2, 1, (.c (.I 0)))]),
        (none, .build 2 [(.I 0), (.I 0), (.I 0)] [(0, 1, (.c (.I 1))), (1, 1, (.c (.I 0))), (2, 1, (.c (.I 0)))]),
        (none, .build 3 [(.I 0), (.I 0), (.I 0)] [(0, 1, (.c (.I 0))), (1, 1, (.c (.I (-1)))), (2, 1, (.c (.I 0)))]),
        (none, .build 4 [(.I 0), (.I 0), (.I 0)] [(0, 1, (.c (.I 0))), (1, 1, (.c (.I 1))), (2, 1, (.c (.I 0)))]),
        (none, .build 5 [(.I 0), (.I 0), (.I 0)] [(0, 1, (.c (.I 0))), (1, 1, (.c (.I 0))), (2, 1, (.c (.I (-1))))]),
        (none, .build 6 [(.I 0), (.I 0), (.I 0)] [(0, 1, (.c (.I 0))), (1, 1, (.c (.I 0))), (2, 1, (.c (.I 1)))]),
        (none, .build 7 [(.I 0), (.I 0), (.I 0), (.I 0), (.I 0), (.I 0), (.I 0), (.I 0), (.I 0), (.I 0), (.I 0), (.I 0), (.I 0), (.I 0), (.I 0), (.I 0), (.I 0), (.I 0)] [(0, 3, (.t 1)), (3, 3, (.t 2)), (6, 3, (.t 3)), (9, 3, (.t 4)), (12, 3, (.t 5)), (15, 3, (.t 6))]),
        (none, .store 18 (.t 0) (.t 7))])
     (.ret))⟩
def spec_l6Beside : AFn :=
  ⟨2, 21, [.cellN 4 3],
    .seq (.ops [(none, .box 2 (.t 0)),
       (none, .box 3 (.t 1)),
       (none, .alloc 4 [(.I 0), (.I 0), (.I 0)])])
    (.seq (.ops [(none, .idxA 5 3 1 (.t 2) (.c (.I 0))),
        (none, .load1 6 (.t 5)),
        (none, .idxA 7 3 1 (.t 3) (.c (.I 0))),
        (none, .load1 8 (.t 7)),
        (none, .bin 9 .add (.t 6) (.t 8)),
        (none, .idxA 10 3 1 (.t 2) (.c (.I 1))),
        (none, .load1 11 (.t 10)),
        (none, .idxA 12 3 1 (.t 3) (.c (.I 1))),
        (none, .load1 13 (.t 12)),
        (none, .bin 14 .add (.t 11) (.t 13)),
        (none, .idxA 15 3 1 (.t 2) (.c (.I 2))),
        (none, .load1 16 (.t 15)),
        (none, .idxA 17 3 1 (.t 3) (.c (.I 2))),
        (none, .load1 18 (.t 17)),
        (none, .bin 19 .add (.t 16) (.t 18)),
        (none, .build 20 [(.I 0), (.I 0), (.I 0)] [(0, 1, (.t 9)), (1, 1, (.t 14)), (2, 1, (.t 19))]),
        (none, .store 3 (.t 4) (.t 20))])
     (.ret))⟩
def spec_l6Enclosed : AFn :=
  ⟨1, 129, [.tmp 2],
    .seq (.ops [(none, .box 1 (.t 0)),
       (none, .mv 2 (.c .nil))])
    (.seq (.ops [(none, .fieldAddr 15 (.t 1) 0),
        (none, .load1 16 (.t 15)),
        (none, .fieldAddr 17 (.t 1) 1),
        (none, .load1 18 (.t 17)),
        (none, .fieldAddr 19 (.t 1) 2),
        (none, .load1 20 (.t 19)),
        (none, .call (some 21) F.spec_l2Empty [(.t 16), (.t 18), (.t 20)]),
        (none, .alloc 3 [(.I 0), (.I 0), (.I 0), .nil]),
        (none, .store 4 (.t 3) (.t 21))])
     (.seq (.ops [(none, .buildSl 22 0 3 [] []),
         (none, .call (some 23) F.spec_l6Steps []),
         (none, .alloc 5 [(.I 0), (.I 0), (.I 0), (.I 0), (.I 0), (.I 0), (.I 0), (.I 0), (.I 0), (.I 0), (.I 0), (.I 0), (.I 0), (.I 0), (.I 0), (.I 0), (.I 0), (.I 0)]),
         (none, .mv 4 (.t 22)),
         (none, .store 18 (.t 5) (.t 23))])
      (.seq (.seq (.ops [(none, .mv 6 (.c (.I (-1))))])
        (.block 0 (.loop (.seq (.seq (.ops [(none, .mv 24 (.t 6)),
               (none, .fieldAddr 25 (.t 1) 0),
               (none, .load1 26 (.t 25)),
               (none, .bin 27 .leq (.t 24) (.t 26))])
            (.cond (.t 27) (.skip)
             (.exit 0)))
           (.seq (.block 1 (.seq (.ops [(none, .mv 7 (.c (.I (-1))))])
              (.block 2 (.loop (.seq (.seq (.ops [(none, .mv 30 (.t 7)),
                     (none, .fieldAddr 31 (.t 1) 1),
                     (none, .load1 32 (.t 31)),
                     (none, .bin 33 .leq (.t 30) (.t 32))])
                  (.cond (.t 33) (.skip)
                   (.exit 2)))
                 (.seq (.block 3 (.seq (.ops [(none, .mv 8 (.c (.I (-1))))])
                    (.block 4 (.loop (.seq (.seq (.ops [(none, .mv 36 (.t 8)),
                           (none, .fieldAddr 37 (.t 1) 2),
                           (none, .load1 38 (.t 37)),
                           (none, .bin 39 .leq (.t 36) (.t 38))])
                        (.cond (.t 39) (.skip)
                         (.exit 4)))
                       (.seq (.block 5 (.seq (.ops [(none, .loadN 42 4 (.t 1)),
                             (none, .mv 43 (.t 6)),
                             (none, .mv 44 (.t 7)),
                             (none, .mv 45 (.t 8)),
                             (none, .build 46 [(.I 0), (.I 0), (.I 0)] [(0, 1, (.t 43)), (1, 1, (.t 44)), (2, 1, (.t 45))]),
                             (none, .call (some 47) F.spec_l2In [(.t 42), (.t 46)]),
                             (none, .un 48 .not (.t 47))])
                          (.cond (.t 48) (.ops [(none, .mv 49 (.t 4)),
                              (none, .mv 50 (.t 6)),
                              (none, .mv 51 (.t 7)),
                              (none, .mv 52 (.t 8)),
                              (none, .build 53 [(.I 0), (.I 0), (.I 0)] [(0, 1, (.t 50)), (1, 1, (.t 51)), (2, 1, (.t 52))]),
                              (none, .buildSl 54 1 3 [(.I 0), (.I 0), (.I 0)] [(0, 3, (.t 53))]),
                              (none, .append 55 3 24 (.t 49) (.t 54)),
                              (none, .mv 4 (.t 55))])
                           (.skip))))
                        (.ops [(none, .mv 40 (.t 8)),
                           (none, .bin 41 .add (.t 40) (.c (.I 1))),
                           (none, .mv 8 (.t 41))])))))))
                  (.ops [(none, .mv 34 (.t 7)),
                     (none, .bin 35 .add (.t 34) (.c (.I 1))),
                     (none, .mv 7 (.t 35))])))))))
            (.ops [(none, .mv 28 (.t 6)),
               (none, .bin 29 .add (.t 28) (.c (.I 1))),
               (none, .mv 6 (.t 29))]))))))
       (.seq (.seq (.ops [(none, .mv 9 (.c (.I 0)))])
         (.block 6 (.loop (.seq (.seq (.ops [(none, .mv 56 (.t 9)),
                (none, .mv 57 (.t 4)),
                (none, .len 58 (.t 57)),
                (none, .bin 59 .lss (.t 56) (.t 58))])
             (.cond (.t 59) (.skip)
              (.exit 6)))
            (.seq (.block 7 (.seq (.ops [(none, .mv 10 (.c (.I 0)))])
               (.block 8 (.loop (.seq (.seq (.ops [(none, .mv 62 (.t 10)),
                      (none, .bin 63 .lss (.t 62) (.c (.I 6)))])
                   (.cond (.t 63) (.skip)
                    (.exit 8)))
                  (.seq (.block 9 (.seq (.draw [⟨(none, .mv 66 (.t 4)), [], []⟩,
                        ⟨(none, .mv 67 (.t 9)), [], []⟩,
                        ⟨(none, .idxS 68 3 (.t 66) (.t 67)), [], []⟩,
                        ⟨(none, .loadN 69 3 (.t 68)), [], []⟩,
                        ⟨(none, .mv 70 (.t 10)), [], []⟩,
                        ⟨(none, .idxA 71 6 3 (.t 5) (.t 70)), [], []⟩,
                        ⟨(none, .loadN 72 3 (.t 71)), [], []⟩,
                        ⟨(none, .alloc 11 [(.I 0), (.I 0), (.I 0)]), [], []⟩,
                        ⟨(none, .call (some 73) F.spec_l6Beside [(.t 69), (.t 72)]), [7], []⟩,
                        ⟨(none, .store 3 (.t 11) (.t 73)), [], []⟩])
                     (.seq (.ops [(none, .loadN 74 4 (.t 1)),
                         (none, .loadN 75 3 (.t 11)),
                         (none, .call (some 76) F.spec_l2In [(.t 74), (.t 75)]),
                         (none, .mv 77 (.t 76)),
                         (some (77, true), .loadN 78 4 (.t 1)),
                         (some (77, true), .loadN 79 3 (.t 11)),
                         (some (77, true), .call (some 80) F.spec_l2Has [(.t 78), (.t 79)]),
                         (some (77, true), .un 81 .not (.t 80)),
                         (none, .pick 82 (.t 77) (.t 81) (.c (.B false))),
                         (none, .mv 83 (.t 82)),
                         (some (83, true), .loadN 84 4 (.t 3)),
                         (some (83, true), .loadN 85 3 (.t 11)),
                         (some (83, true), .call (some 86) F.spec_l2Has [(.t 84), (.t 85)]),
                         (some (83, true), .un 87 .not (.t 86)),
                         (none, .pick 88 (.t 83) (.t 87) (.c (.B false)))])
                      (.cond (.t 88) (.seq (.ops [(none, .loadN 89 4 (.t 3)),
                           (none, .loadN 90 3 (.t 11)),
                           (none, .call (some 91) F.spec_l2With [(.t 89), (.t 90)]),
                           (none, .store 4 (.t 3) (.t 91))])
                        (.ops [(none, .mv 92 (.t 4)),
                           (none, .loadN 93 3 (.t 11)),
                           (none, .buildSl 94 1 3 [(.I 0), (.I 0), (.I 0)] [(0, 3, (.t 93))]),
                           (none, .append 95 3 24 (.t 92) (.t 94)),
                           (none, .mv 4 (.t 95))]))
                       (.skip)))))
                   (.ops [(none, .mv 64 (.t 10)),
                      (none, .bin 65 .add (.t 64) (.c (.I 1))),
                      (none, .mv 10 (.t 65))])))))))
             (.ops [(none, .mv 60 (.t 9)),
                (none, .bin 61 .add (.t 60) (.c (.I 1))),
                (none, .mv 9 (.t 61))]))))))
        (.seq (.ops [(none, .buildSl 96 0 3 [] []),
            (none, .loadN 97 4 (.t 1)),
            (none, .call (some 98) F.spec_l2All [(.t 97)]),
            (none, .mv 12 (.t 96)),
            (none, .mv 13 (.t 98))])
         (.seq (.seq (.ops [(none, .mv 14 (.c (.I 0)))])
           (.block 10 (.loop (.seq (.seq (.ops [(none, .mv 99 (.t 14)),
                  (none, .mv 100 (.t 13)),
                  (none, .len 101 (.t 100)),
                  (none, .bin 102 .lss (.t 99) (.t 101))])
               (.cond (.t 102) (.skip)
                (.exit 10)))
              (.seq (.block 11 (.seq (.draw [⟨(none, .loadN 105 4 (.t 1)), [], []⟩,
                    ⟨(none, .mv 106 (.t 13)), [], []⟩,
                    ⟨(none, .mv 107 (.t 14)), [], []⟩,
                    ⟨(none, .idxS 108 3 (.t 106) (.t 107)), [], []⟩,
                    ⟨(none, .loadN 109 3 (.t 108)), [], []⟩,
                    ⟨(none, .call (some 110) F.spec_l2Has [(.t 105), (.t 109)]), [], []⟩,
                    ⟨(none, .un 111 .not (.t 110)), [], []⟩,
                    ⟨(none, .mv 112 (.t 111)), [], []⟩,
                    ⟨(some (112, true), .loadN 113 4 (.t 3)), [], []⟩,
                    ⟨(some (112, true), .mv 114 (.t 13)), [], []⟩,
                    ⟨(some (112, true), .mv 115 (.t 14)), [], []⟩,
                    ⟨(some (112, true), .idxS 116 3 (.t 114) (.t 115)), [], []⟩,
                    ⟨(some (112, true), .loadN 117 3 (.t 116)), [], []⟩,
                    ⟨(some (112, true), .call (some 118) F.spec_l2Has [(.t 113), (.t 117)]), [], []⟩,
                    ⟨(some (112, true), .un 119 .not (.t 118)), [], []⟩,
                    ⟨(none, .pick 120 (.t 112) (.t 119) (.c (.B false))), [], []⟩])
                 (.cond (.t 120) (.ops [(none, .mv 121 (.t 12)),
                     (none, .mv 122 (.t 13)),
                     (none, .mv 123 (.t 14)),
                     (none, .idxS 124 3 (.t 122) (.t 123)),
                     (none, .loadN 125 3 (.t 124)),
                     (none, .buildSl 126 1 3 [(.I 0), (.I 0), (.I 0)] [(0, 3, (.t 125))]),
                     (none, .append 127 3 24 (.t 121) (.t 126)),
                     (none, .mv 12 (.t 127))])
                  (.skip))))
               (.ops [(none, .mv 103 (.t 14)),
                  (none, .bin 104 .add (.t 103) (.c (.I 1))),
                  (none, .mv 14 (.t 104))]))))))
          (.seq (.ops [(none, .mv 128 (.t 12)),
              (none, .mv 2 (.t 128))])
           (.ret))))))))⟩
end Go.Ab.C

/- That the program has this code. -/
namespace Go.Ab.K
open Go Go.Ab
theorem spec_l6Steps : prepF Go.Proofs.Try.prog F.spec_l6Steps = some C.spec_l6Steps := by kernel_rfl
theorem spec_l6Beside : prepF Go.Proofs.Try.prog F.spec_l6Beside = some C.spec_l6Beside := by kernel_rfl
theorem spec_l6Enclosed : prepF Go.Proofs.Try.prog F.spec_l6Enclosed = some C.spec_l6Enclosed := by kernel_rfl
end Go.Ab.K

/- The abstract code of some functions (written by a program of mine from the translation, by way of prepF). -/
namespace Go.Ab.C
open Go.Ab
def impl_Heap_enclosed : AFn :=
  ⟨1, 24, [.tmp 2],
    .seq (.ops [(none, .box 1 (.t 0)),
       (none, .mv 2 (.c (.U 0)))])
    (.seq (.ops [(none, .loadN 6 4 (.t 1)),
        (none, .call (some 7) F.impl_Heap_box [(.t 6)]),
        (none, .alloc 3 [(.I 0), (.I 0), (.I 0)]),
        (none, .store 3 (.t 3) (.t 7))])
     (.seq (.draw [⟨(none, .loadN 8 3 (.t 3)), [], []⟩,
         ⟨(none, .loadN 10 4 (.t 1)), [], []⟩,
         ⟨(none, .call (some 9) F.impl_box_full [(.t 8)]), [], [1]⟩,
         ⟨(none, .call (some 11) F.impl_Heap_cubes [(.t 10)]), [], []⟩,
         ⟨(none, .bin 12 .andNot (.t 9) (.t 11)), [], []⟩,
         ⟨(none, .mv 4 (.t 12)), [], []⟩])
      (.seq (.ops [(none, .loadN 13 3 (.t 3)),
          (none, .mkf 14 F.impl_Heap_enclosed_1 [(.t 3)]),
          (none, .call (some 15) F.impl_box_those [(.t 13), (.t 14)]),
          (none, .mv 5 (.t 15))])
       (.seq (.ops [(none, .mv 16 (.t 4)),
           (none, .loadN 17 3 (.t 3)),
           (none, .mv 18 (.t 4)),
           (none, .mv 19 (.t 5)),
           (none, .bin 20 .and (.t 18) (.t 19)),
           (none, .mv 21 (.t 4)),
           (none, .call (some 22) F.impl_box_grown [(.t 17), (.t 20), (.t 21)]),
           (none, .bin 23 .andNot (.t 16) (.t 22)),
           (none, .mv 2 (.t 23))])
        (.ret)))))⟩
def impl_Heap_enclosed_1 : AFn :=
  ⟨2, 9, [.tmp 3],
    .seq (.ops [(none, .box 2 (.t 0)),
       (none, .mv 3 (.c (.B false)))])
    (.seq (.ops [(none, .loadN 4 3 (.t 1)),
        (none, .loadN 5 3 (.t 2)),
        (none, .call (some 6) F.impl_box_near [(.t 4), (.t 5)]),
        (none, .call (some 7) F.impl_set_count [(.t 6)]),
        (none, .bin 8 .lss (.t 7) (.c (.I 6))),
        (none, .mv 3 (.t 8))])
     (.ret))⟩
def impl_FillCavities : AFn :=
  ⟨1, 16, [.cellN 2 4, .tmp 3],
    .seq (.ops [(none, .box 1 (.t 0)),
       (none, .alloc 2 [(.I 0), (.I 0), (.I 0), .nil]),
       (none, .mv 3 (.c (.B false)))])
    (.seq (.seq (.ops [(none, .loadN 4 4 (.t 1)),
         (none, .call (some 5) F.impl_IsHeap [(.t 4)]),
         (none, .un 6 .not (.t 5))])
      (.cond (.t 6) (.seq (.ops [(none, .build 7 [(.I 0), (.I 0), (.I 0), .nil] []),
           (none, .store 4 (.t 2) (.t 7)),
           (none, .mv 3 (.c (.B false)))])
        (.ret))
       (.skip)))
     (.seq (.draw [⟨(none, .loadN 8 4 (.t 1)), [], []⟩,
         ⟨(none, .loadN 10 4 (.t 1)), [], []⟩,
         ⟨(none, .loadN 12 4 (.t 1)), [], []⟩,
         ⟨(none, .call (some 9) F.impl_Heap_box [(.t 8)]), [], [1, 2]⟩,
         ⟨(none, .call (some 11) F.impl_Heap_cubes [(.t 10)]), [], [2]⟩,
         ⟨(none, .call (some 13) F.impl_Heap_enclosed [(.t 12)]), [], []⟩,
         ⟨(none, .bin 14 .or (.t 11) (.t 13)), [], []⟩,
         ⟨(none, .call (some 15) F.impl_box_heap [(.t 9), (.t 14)]), [], []⟩,
         ⟨(none, .store 4 (.t 2) (.t 15)), [], []⟩,
         ⟨(none, .mv 3 (.c (.B true))), [], []⟩])
      (.ret)))⟩
end Go.Ab.C

/- That the program has this code. -/
namespace Go.Ab.K
open Go Go.Ab
theorem impl_Heap_enclosed : prepF Go.Proofs.Try.prog F.impl_Heap_enclosed = some C.impl_Heap_enclosed := by kernel_rfl
theorem impl_Heap_enclosed_1 : prepF Go.Proofs.Try.prog F.impl_Heap_enclosed_1 = some C.impl_Heap_enclosed_1 := by kernel_rfl
theorem impl_FillCavities : prepF Go.Proofs.Try.prog F.impl_FillCavities = some C.impl_FillCavities := by kernel_rfl
end Go.Ab.K

/- The abstract code of some functions (written by a program of mine from the translation, by way of prepF). -/
namespace Go.Ab.C
open Go.Ab
def math_bits_OnesCount64 : AFn :=
  ⟨1, 35, [.tmp 2],
    .seq (.ops [(none, .mv 2 (.c (.I 0)))])
    (.seq (.ops [(none, .mv 3 (.t 0)),
        (none, .bin 4 .shr (.t 3) (.c (.U 1))),
        (none, .bin 5 .and (.t 4) (.c (.U 6148914691236517205))),
        (none, .mv 6 (.t 0)),
        (none, .bin 7 .and (.t 6) (.c (.U 6148914691236517205))),
        (none, .bin 8 .add (.t 5) (.t 7)),
        (none, .mv 0 (.t 8))])
     (.seq (.ops [(none, .mv 9 (.t 0)),
         (none, .bin 10 .shr (.t 9) (.c (.U 2))),
         (none, .bin 11 .and (.t 10) (.c (.U 3689348814741910323))),
         (none, .mv 12 (.t 0)),
         (none, .bin 13 .and (.t 12) (.c (.U 3689348814741910323))),
         (none, .bin 14 .add (.t 11) (.t 13)),
         (none, .mv 0 (.t 14))])
      (.seq (.ops [(none, .mv 15 (.t 0)),
          (none, .bin 16 .shr (.t 15) (.c (.U 4))),
          (none, .mv 17 (.t 0)),
          (none, .bin 18 .add (.t 16) (.t 17)),
          (none, .bin 19 .and (.t 18) (.c (.U 1085102592571150095))),
          (none, .mv 0 (.t 19))])
       (.seq (.ops [(none, .mv 20 (.t 0)),
           (none, .mv 21 (.t 0)),
           (none, .bin 22 .shr (.t 21) (.c (.U 8))),
           (none, .bin 23 .add (.t 20) (.t 22)),
           (none, .mv 0 (.t 23))])
        (.seq (.ops [(none, .mv 24 (.t 0)),
            (none, .mv 25 (.t 0)),
            (none, .bin 26 .shr (.t 25) (.c (.U 16))),
            (none, .bin 27 .add (.t 24) (.t 26)),
            (none, .mv 0 (.t 27))])
         (.seq (.ops [(none, .mv 28 (.t 0)),
             (none, .mv 29 (.t 0)),
             (none, .bin 30 .shr (.t 29) (.c (.U 32))),
             (none, .bin 31 .add (.t 28) (.t 30)),
             (none, .mv 0 (.t 31))])
          (.seq (.ops [(none, .mv 32 (.t 0)),
              (none, .conv 33 .i64 (.t 32)),
              (none, .bin 34 .and (.t 33) (.c (.I 127))),
              (none, .mv 2 (.t 34))])
           (.ret))))))))⟩
def impl_set_count : AFn :=
  ⟨1, 5, [.tmp 2],
    .seq (.ops [(none, .mv 2 (.c (.I 0)))])
    (.seq (.ops [(none, .mv 3 (.t 0)),
        (none, .call (some 4) F.math_bits_OnesCount64 [(.t 3)]),
        (none, .mv 2 (.t 4))])
     (.ret))⟩
end Go.Ab.C

/- That the program has this code. -/
namespace Go.Ab.K
open Go Go.Ab
theorem math_bits_OnesCount64 : prepF Go.Proofs.Try.prog F.math_bits_OnesCount64 = some C.math_bits_OnesCount64 := by kernel_rfl
theorem impl_set_count : prepF Go.Proofs.Try.prog F.impl_set_count = some C.impl_set_count := by kernel_rfl
end Go.Ab.K

/- Plain words for heaps: sides, cells, order, heights of columns. -/
namespace Go.Ab

def Sides (x y z : Int) : Prop := (1 ≤ x ∧ x ≤ 4) ∧ (1 ≤ y ∧ y ≤ 4) ∧ (1 ≤ z ∧ z ≤ 4)
instance (x y z : Int) : Decidable (Sides x y z) := by unfold Sides; infer_instance
def Cell.lt (p q : Cell) : Prop := p.a < q.a ∨ (p.a = q.a ∧ (p.b < q.b ∨ (p.b = q.b ∧ p.c < q.c)))
instance (p q : Cell) : Decidable (p.lt q) := by unfold Cell.lt; infer_instance
def Cell.inBox (x y z : Int) (c : Cell) : Prop := (0 ≤ c.a ∧ c.a ≤ x - 1) ∧ (0 ≤ c.b ∧ c.b ≤ y - 1) ∧ (0 ≤ c.c ∧ c.c ≤ z - 1)
instance (x y z : Int) (c : Cell) : Decidable (c.inBox x y z) := by unfold Cell.inBox; infer_instance
/-- A valid heap. -/
def HeapOK (x y z : Int) (cs : List Cell) : Prop :=
  Sides x y z ∧ ∀ k, k < cs.length → (cs.getD k default).inBox x y z ∧ (0 < k → (cs.getD (k - 1) default).lt (cs.getD k default))
noncomputable instance (x y z : Int) (cs : List Cell) : Decidable (HeapOK x y z cs) := Classical.propDecidable _

/-- The heights of columns. -/
def topStep (y : Int) (out : List Int) (c : Cell) : List Int := out.set (c.a * y + c.b).toNat (max (out.getD (c.a * y + c.b).toNat 0) (c.c + 1))
def topsOf (x y : Int) (cs : List Cell) : List Int := cs.foldl (topStep y) (List.replicate (x * y).toNat 0)

def apart (p q : Cell) : Int := max (p.a - q.a) (q.a - p.a) + max (p.b - q.b) (q.b - p.b) + max (p.c - q.c) (q.c - p.c)
def colOf (y p : Int) : Cell := ⟨p.tdiv y, p.tmod y, 0⟩
def nums (n : Nat) : List Int := (List.range n).map Int.ofNat
def nexts (x y p : Int) : List Int := (nums (x * y).toNat).filter fun q => decide (apart (colOf y p) (colOf y q) = 1)
def gap (a b : Int) : Int := max (a - b) (b - a)
def stepsOf (x y : Int) (ts : List Int) (p s : Int) : List Int := (nexts x y p).filter fun q => decide (gap (ts.getD q.toNat 0) (ts.getD p.toNat 0) ≤ s)

theorem nums_len (n : Nat) : (nums n).length = n := by simp [nums]
theorem nums_succ (n : Nat) : nums (n + 1) = nums n ++ [(n : Int)] := by simp [nums, List.range_succ]
theorem topsOf_len (x y : Int) (cs : List Cell) : (topsOf x y cs).length = (x * y).toNat := by
  unfold topsOf
  have : ∀ (cs : List Cell) (out : List Int), (cs.foldl (topStep y) out).length = out.length := by
    intro cs
    induction cs with
    | nil => intro out; rfl
    | cons c cs ih => intro out; rw [List.foldl_cons, ih]; simp [topStep]
  rw [this]; simp
theorem take_succ_foldl {α β : Type} (f : β → α → β) (b : β) (l : List α) (k : Nat) (d : α) (h : k < l.length) : (l.take (k + 1)).foldl f b = f ((l.take k).foldl f b) (l.getD k d) := by
  have e : l[k]? = some l[k] := getElem?_pos l k h
  rw [List.take_add_one, List.foldl_append, e, List.getD_eq_getElem?_getD, e]
  rfl
theorem mul_bound {x y : Int} (hx : 1 ≤ x ∧ x ≤ 4) (hy : 1 ≤ y ∧ y ≤ 4) : 1 ≤ x * y ∧ x * y ≤ 16 := by
  have h1 : x = 1 ∨ x = 2 ∨ x = 3 ∨ x = 4 := by omega
  have h2 : y = 1 ∨ y = 2 ∨ y = 3 ∨ y = 4 := by omega
  rcases h1 with rfl | rfl | rfl | rfl <;> omega
theorem col_bound {x y a b : Int} (hx : 1 ≤ x ∧ x ≤ 4) (hy : 1 ≤ y ∧ y ≤ 4) (ha : 0 ≤ a ∧ a ≤ x - 1) (hb : 0 ≤ b ∧ b ≤ y - 1) : 0 ≤ a * y + b ∧ a * y + b < x * y ∧ 0 ≤ a * y ∧ a * y ≤ 16 := by
  have h2 : y = 1 ∨ y = 2 ∨ y = 3 ∨ y = 4 := by omega
  rcases h2 with rfl | rfl | rfl | rfl <;> omega
theorem div_bound {y p : Int} (hy : 1 ≤ y ∧ y ≤ 4) (hp : 0 ≤ p ∧ p < 16) : 0 ≤ p.tdiv y ∧ p.tdiv y ≤ p ∧ 0 ≤ p.tmod y ∧ p.tmod y < y := by
  have h2 : y = 1 ∨ y = 2 ∨ y = 3 ∨ y = 4 := by omega
  rw [Int.tdiv_eq_ediv_of_nonneg hp.1, Int.tmod_eq_emod_of_nonneg hp.1]
  rcases h2 with rfl | rfl | rfl | rfl <;> omega
end Go.Ab

/- Plain words: the cells of a box in their order; sets of them as 64 bits. -/
namespace Go.Ab

def idx (y z : Int) (c : Cell) : Int := (c.a * y + c.b) * z + c.c
def cellAt (y z i : Int) : Cell := ⟨(i.tdiv z).tdiv y, (i.tdiv z).tmod y, i.tmod z⟩
def vol (x y z : Int) : Nat := (x * y * z).toNat
def cellsOf (x y z : Int) : List Cell := (List.range (vol x y z)).map fun (i : Nat) => cellAt y z i
/-- The cells of a box of which p holds, in order. -/
def pick (x y z : Int) (p : Cell → Bool) : List Cell := (cellsOf x y z).filter p

section
variable {x y z : Int} (hS : Sides x y z)
include hS
omit hS in
theorem getD_mem' {α : Type} {l : List α} {k : Nat} {d : α} (h : k < l.length) : l.getD k d ∈ l := by simp [h]
theorem vol_bound : 1 ≤ x * y * z ∧ x * y * z ≤ 64 ∧ 1 ≤ y * z ∧ y * z ≤ 16 ∧ 1 ≤ x * y ∧ x * y ≤ 16 := by
  obtain ⟨hx, hy, hz⟩ := hS
  have h2 : y = 1 ∨ y = 2 ∨ y = 3 ∨ y = 4 := by omega
  have h3 : z = 1 ∨ z = 2 ∨ z = 3 ∨ z = 4 := by omega
  rcases h2 with rfl | rfl | rfl | rfl <;> rcases h3 with rfl | rfl | rfl | rfl <;> omega
theorem vol_cast : ((vol x y z : Nat) : Int) = x * y * z ∧ 1 ≤ vol x y z ∧ vol x y z ≤ 64 := by
  have := vol_bound hS
  unfold vol; omega
theorem idx_in {c : Cell} (hc : c.inBox x y z) : 0 ≤ idx y z c ∧ idx y z c < x * y * z ∧ cellAt y z (idx y z c) = c := by
  obtain ⟨hx, hy, hz⟩ := hS
  obtain ⟨a, b, d⟩ := c
  obtain ⟨h1, h2, h3⟩ := hc
  simp only at h1 h2 h3
  have e2 : y = 1 ∨ y = 2 ∨ y = 3 ∨ y = 4 := by omega
  have e3 : z = 1 ∨ z = 2 ∨ z = 3 ∨ z = 4 := by omega
  unfold idx cellAt
  simp only
  have hn : 0 ≤ (a * y + b) * z + d := by rcases e2 with rfl | rfl | rfl | rfl <;> rcases e3 with rfl | rfl | rfl | rfl <;> omega
  refine ⟨hn, by rcases e2 with rfl | rfl | rfl | rfl <;> rcases e3 with rfl | rfl | rfl | rfl <;> omega, ?_⟩
  rw [Int.tdiv_eq_ediv_of_nonneg hn, Int.tmod_eq_emod_of_nonneg hn]
  have hq : 0 ≤ ((a * y + b) * z + d) / z := Int.ediv_nonneg hn (by omega)
  rw [Int.tdiv_eq_ediv_of_nonneg hq, Int.tmod_eq_emod_of_nonneg hq]
  rw [cell_eq]
  rcases e2 with rfl | rfl | rfl | rfl <;> rcases e3 with rfl | rfl | rfl | rfl <;> simp only <;> omega
theorem cellAt_in {i : Int} (h0 : 0 ≤ i) (hi : i < x * y * z) : (cellAt y z i).inBox x y z ∧ idx y z (cellAt y z i) = i := by
  obtain ⟨hx, hy, hz⟩ := hS
  have e1 : x = 1 ∨ x = 2 ∨ x = 3 ∨ x = 4 := by omega
  have e2 : y = 1 ∨ y = 2 ∨ y = 3 ∨ y = 4 := by omega
  have e3 : z = 1 ∨ z = 2 ∨ z = 3 ∨ z = 4 := by omega
  unfold idx cellAt Cell.inBox
  simp only
  rw [Int.tdiv_eq_ediv_of_nonneg h0, Int.tmod_eq_emod_of_nonneg h0]
  have hq : 0 ≤ i / z := Int.ediv_nonneg h0 (by omega)
  rw [Int.tdiv_eq_ediv_of_nonneg hq, Int.tmod_eq_emod_of_nonneg hq]
  rcases e2 with rfl | rfl | rfl | rfl <;> rcases e3 with rfl | rfl | rfl | rfl <;> (refine ⟨⟨⟨?_, ?_⟩, ⟨?_, ?_⟩, ⟨?_, ?_⟩⟩, ?_⟩ <;> omega)
theorem lt_iff {c d : Cell} (hc : c.inBox x y z) (hd : d.inBox x y z) : c.lt d ↔ idx y z c < idx y z d := by
  obtain ⟨hx, hy, hz⟩ := hS
  obtain ⟨a, b, e⟩ := c
  obtain ⟨a', b', e'⟩ := d
  obtain ⟨h1, h2, h3⟩ := hc
  obtain ⟨k1, k2, k3⟩ := hd
  simp only at h1 h2 h3 k1 k2 k3
  unfold idx Cell.lt
  simp only
  have e2 : y = 1 ∨ y = 2 ∨ y = 3 ∨ y = 4 := by omega
  have e3 : z = 1 ∨ z = 2 ∨ z = 3 ∨ z = 4 := by omega
  rcases e2 with rfl | rfl | rfl | rfl <;> rcases e3 with rfl | rfl | rfl | rfl <;> omega

theorem mem_cellsOf {c : Cell} : c ∈ cellsOf x y z ↔ c.inBox x y z := by
  unfold cellsOf
  rw [List.mem_map]
  have hv := vol_cast hS
  constructor
  · rintro ⟨i, hi, rfl⟩
    exact (cellAt_in hS (by omega) (by have := List.mem_range.1 hi; omega)).1
  · intro hc
    obtain ⟨h1, h2, h3⟩ := idx_in hS hc
    refine ⟨(idx y z c).toNat, List.mem_range.2 (by omega), ?_⟩
    rw [Int.toNat_of_nonneg h1, h3]
theorem mem_pick {p : Cell → Bool} {c : Cell} : c ∈ pick x y z p ↔ c.inBox x y z ∧ p c = true := by
  unfold pick
  rw [List.mem_filter, mem_cellsOf hS]
theorem cellsOf_sorted : (cellsOf x y z).Pairwise Cell.lt := by
  unfold cellsOf
  rw [List.pairwise_map]
  have hv := vol_cast hS
  refine List.Pairwise.imp_of_mem (R := fun a b => a < b) ?_ (List.pairwise_lt_range)
  intro i j hi hj hij
  have hi := List.mem_range.1 hi
  have hj := List.mem_range.1 hj
  obtain ⟨h1, h2⟩ := cellAt_in hS (i := (i : Int)) (by omega) (by omega)
  obtain ⟨h3, h4⟩ := cellAt_in hS (i := (j : Int)) (by omega) (by omega)
  rw [lt_iff hS h1 h3, h2, h4]; omega
theorem pick_sorted (p : Cell → Bool) : (pick x y z p).Pairwise Cell.lt := (cellsOf_sorted hS).filter p
end

theorem take_dec {cs : List Cell} {k : Nat} {c : Cell} (h : k < cs.length) : (decide (c ∈ cs.take k) || decide (c = cs.getD k default)) = decide (c ∈ cs.take (k + 1)) := by
  rw [List.take_succ, List.getElem?_eq_getElem h]
  have e : cs.getD k default = cs[k] := by simp [h]
  rw [e]
  simp only [Option.toList, List.mem_append, List.mem_singleton, Bool.decide_or]

theorem Cell.lt_irrefl (c : Cell) : ¬ c.lt c := by unfold Cell.lt; omega
theorem Cell.lt_trans {a b c : Cell} (h : a.lt b) (k : b.lt c) : a.lt c := by unfold Cell.lt at *; omega
theorem Cell.lt_tri (a b : Cell) : a.lt b ∨ a = b ∨ b.lt a := by rw [cell_eq]; unfold Cell.lt; omega

/-- Sorted lists with the same members are the same. -/
theorem sorted_ext : ∀ {l m : List Cell}, l.Pairwise Cell.lt → m.Pairwise Cell.lt → (∀ c, c ∈ l ↔ c ∈ m) → l = m
  | [], [], _, _, _ => rfl
  | [], b :: m, _, _, h => by have := (h b).2 (by simp); simp at this
  | a :: l, [], _, _, h => by have := (h a).1 (by simp); simp at this
  | a :: l, b :: m, hl, hm, h => by
    rw [List.pairwise_cons] at hl hm
    have hab : a = b := by
      rcases List.mem_cons.1 ((h a).1 (by simp)) with h1 | h1
      · exact h1
      · rcases List.mem_cons.1 ((h b).2 (by simp)) with h2 | h2
        · exact h2.symm
        · exact absurd (Cell.lt_trans (hm.1 a h1) (hl.1 b h2)) (Cell.lt_irrefl b)
    subst hab
    congr 1
    refine sorted_ext hl.2 hm.2 fun c => ?_
    have h1 : ∀ {c}, c ∈ l → a ≠ c := fun hc e => Cell.lt_irrefl a (by have := hl.1 _ hc; rw [← e] at this; exact this)
    have h2 : ∀ {c}, c ∈ m → a ≠ c := fun hc e => Cell.lt_irrefl a (by have := hm.1 _ hc; rw [← e] at this; exact this)
    have := h c
    simp only [List.mem_cons] at this
    constructor
    · intro hc; exact (this.1 (.inr hc)).resolve_left fun e => h1 hc e.symm
    · intro hc; exact (this.2 (.inr hc)).resolve_left fun e => h2 hc e.symm

theorem HeapOK.sorted {x y z : Int} {cs : List Cell} (h : HeapOK x y z cs) : cs.Pairwise Cell.lt := by
  rw [List.pairwise_iff_getElem]
  have key : ∀ (d i : Nat) (h1 : i < cs.length) (h2 : i + d + 1 < cs.length), (cs.getD i default).lt (cs.getD (i + d + 1) default) := by
    intro d
    induction d with
    | zero => intro i h1 h2; have := (h.2 (i + 1) h2).2 (by omega); simpa using this
    | succ d ih =>
      intro i h1 h2
      have h3 := ih i h1 (by omega)
      have h4 := (h.2 (i + (d + 1) + 1) h2).2 (by omega)
      rw [show i + (d + 1) + 1 - 1 = i + d + 1 by omega] at h4
      exact Cell.lt_trans h3 h4
  intro i j hi hj hij
  have := key (j - i - 1) i hi (by omega)
  rw [show i + (j - i - 1) + 1 = j by omega] at this
  simpa [hi, hj] using this
theorem HeapOK.mem {x y z : Int} {cs : List Cell} (h : HeapOK x y z cs) {c : Cell} (hc : c ∈ cs) : c.inBox x y z := by
  obtain ⟨i, hi, rfl⟩ := List.getElem_of_mem hc
  have := (h.2 i hi).1
  simpa [hi] using this
theorem HeapOK.of {x y z : Int} {cs : List Cell} (hS : Sides x y z) (hs : cs.Pairwise Cell.lt) (hm : ∀ c ∈ cs, c.inBox x y z) : HeapOK x y z cs := by
  refine ⟨hS, fun k hk => ⟨hm _ (by simp [hk]), fun h0 => ?_⟩⟩
  rw [List.pairwise_iff_getElem] at hs
  have := hs (k - 1) k (by omega) hk (by omega)
  have h1 : k - 1 < cs.length := by omega
  simpa [hk, h1] using this
theorem pick_ok {x y z : Int} (hS : Sides x y z) (p : Cell → Bool) : HeapOK x y z (pick x y z p) := HeapOK.of hS (pick_sorted hS p) fun c hc => ((mem_pick hS).1 hc).1
/-- A valid heap's cells are those of its box that it has, in order. -/
theorem HeapOK.pick {x y z : Int} {cs : List Cell} (h : HeapOK x y z cs) : cs = pick x y z fun c => decide (c ∈ cs) := by
  refine sorted_ext h.sorted (pick_sorted h.1 _) fun c => ?_
  rw [mem_pick h.1]
  simp only [decide_eq_true_eq]
  exact ⟨fun hc => ⟨h.mem hc, hc⟩, fun hc => hc.2⟩
theorem pick_len {x y z : Int} (hS : Sides x y z) (p : Cell → Bool) : (pick x y z p).length ≤ 64 := by
  have h1 := List.length_filter_le p (cellsOf x y z)
  have h2 : (cellsOf x y z).length = vol x y z := by simp [cellsOf]
  have h3 := vol_cast hS
  unfold Go.Ab.pick
  omega
theorem HeapOK.len {x y z : Int} {cs : List Cell} (h : HeapOK x y z cs) : cs.length ≤ 64 := by rw [h.pick]; exact pick_len h.1 _
theorem pick_congr {x y z : Int} (hS : Sides x y z) {p q : Cell → Bool} (h : ∀ c, c.inBox x y z → p c = q c) : pick x y z p = pick x y z q :=
  List.filter_congr fun c hc => h c ((mem_cellsOf hS).1 hc)
theorem HeapOK.nodup {x y z : Int} {cs : List Cell} (h : HeapOK x y z cs) : cs.Nodup := h.sorted.imp fun {a b} hab e => by subst e; exact Cell.lt_irrefl _ hab

/-! ### Bits -/
def bsN (n : Nat) (f : Nat → Bool) : BitVec 64 := (List.range n).foldl (fun s i => if f i then s ||| (1#64 <<< i) else s) 0#64
theorem bsN_succ (n : Nat) (f : Nat → Bool) : bsN (n + 1) f = if f n then bsN n f ||| (1#64 <<< n) else bsN n f := by
  simp [bsN, List.range_succ, List.foldl_append]
theorem bit_one {n i : Nat} (hn : n < 64) : (1#64 <<< n).getLsbD i = decide (i = n) := by
  rw [BitVec.getLsbD_shiftLeft, BitVec.getLsbD_one]
  by_cases h1 : i < 64
  · by_cases h2 : i < n
    · simp [h1, h2]; omega
    · simp [h1, h2]; omega
  · simp [h1]; omega
theorem bsN_bit {f : Nat → Bool} : ∀ {n : Nat}, n ≤ 64 → ∀ i, (bsN n f).getLsbD i = (decide (i < n) && f i)
  | 0, _, i => by simp [bsN]
  | n + 1, hn, i => by
    rw [bsN_succ]
    have ih := bsN_bit (f := f) (n := n) (by omega) i
    by_cases hf : f n = true
    · rw [if_pos hf, BitVec.getLsbD_or, ih, bit_one (by omega)]
      by_cases h1 : i = n
      · subst h1; simp [hf]
      · have : decide (i < n + 1) = decide (i < n) := decide_eq_decide.2 (by omega)
        rw [this]; simp [h1]
    · rw [if_neg hf, ih]
      by_cases h1 : i = n
      · subst h1; simp [hf]
      · have : decide (i < n + 1) = decide (i < n) := decide_eq_decide.2 (by omega)
        rw [this]

/-- The set of the cells of a box of which p holds. -/
def bs (x y z : Int) (p : Cell → Bool) : BitVec 64 := bsN (vol x y z) fun i => p (cellAt y z i)

section
variable {x y z : Int} (hS : Sides x y z)
include hS
theorem bs_bit (p : Cell → Bool) (i : Nat) : (bs x y z p).getLsbD i = (decide (i < vol x y z) && p (cellAt y z i)) := bsN_bit (vol_cast hS).2.2 i
theorem bs_has {p : Cell → Bool} {c : Cell} (hc : c.inBox x y z) : (bs x y z p).getLsbD (idx y z c).toNat = p c := by
  obtain ⟨h1, h2, h3⟩ := idx_in hS hc
  have hv := vol_cast hS
  rw [bs_bit hS, Int.toNat_of_nonneg h1, h3, decide_eq_true (by omega)]; rfl
theorem bs_ext {p : Cell → Bool} {s : BitVec 64} (h : ∀ i : Nat, i < vol x y z → s.getLsbD i = p (cellAt y z i)) (h' : ∀ i, vol x y z ≤ i → s.getLsbD i = false) : s = bs x y z p := by
  apply BitVec.eq_of_getLsbD_eq
  intro i _
  rw [bs_bit hS]
  by_cases hi : i < vol x y z
  · rw [h i hi, decide_eq_true hi]; rfl
  · rw [h' i (by omega), decide_eq_false hi]; rfl
theorem bs_eq {p q : Cell → Bool} : bs x y z p = bs x y z q ↔ ∀ c, c.inBox x y z → p c = q c := by
  constructor
  · intro h c hc; rw [← bs_has (p := p) hS hc, h, bs_has hS hc]
  · intro h
    have hv := vol_cast hS
    refine bs_ext hS (fun i hi => ?_) fun i hi => ?_
    · rw [bs_bit hS, decide_eq_true hi]; exact h _ (cellAt_in hS (by omega) (by omega)).1
    · rw [bs_bit hS, decide_eq_false (by omega)]; rfl
theorem bs_or (p q : Cell → Bool) : bs x y z p ||| bs x y z q = bs x y z fun c => p c || q c :=
  bs_ext hS (fun i hi => by rw [BitVec.getLsbD_or, bs_bit hS, bs_bit hS, decide_eq_true hi]; rfl) fun i hi => by rw [BitVec.getLsbD_or, bs_bit hS, bs_bit hS, decide_eq_false (by omega)]; rfl
theorem bs_and (p q : Cell → Bool) : bs x y z p &&& bs x y z q = bs x y z fun c => p c && q c :=
  bs_ext hS (fun i hi => by rw [BitVec.getLsbD_and, bs_bit hS, bs_bit hS, decide_eq_true hi]; rfl) fun i hi => by rw [BitVec.getLsbD_and, bs_bit hS, bs_bit hS, decide_eq_false (by omega)]; rfl
theorem bs_diff (p q : Cell → Bool) : bs x y z p &&& ~~~bs x y z q = bs x y z fun c => p c && !q c :=
  bs_ext hS (fun i hi => by
    have := vol_cast hS
    rw [BitVec.getLsbD_and, BitVec.getLsbD_not, bs_bit hS, bs_bit hS, decide_eq_true hi, decide_eq_true (show i < 64 by omega)]; rfl) fun i hi => by rw [BitVec.getLsbD_and, bs_bit hS, decide_eq_false (by omega)]; rfl
theorem bs_none : (0#64) = bs x y z fun _ => false := bs_ext hS (fun i _ => by simp) fun i _ => by simp
theorem bs_zero {p : Cell → Bool} : bs x y z p = 0#64 ↔ ∀ c, c.inBox x y z → p c = false := by rw [bs_none hS, bs_eq hS]
theorem bs_one {c : Cell} (hc : c.inBox x y z) : 1#64 <<< (idx y z c).toNat = bs x y z fun d => decide (d = c) := by
  obtain ⟨h1, h2, h3⟩ := idx_in hS hc
  have hv := vol_cast hS
  refine bs_ext hS (fun i hi => ?_) fun i hi => ?_
  · rw [bit_one (by omega)]
    refine decide_eq_decide.2 ⟨fun e => ?_, fun e => ?_⟩
    · rw [e, Int.toNat_of_nonneg h1, h3]
    · have := (cellAt_in hS (i := (i : Int)) (by omega) (by omega)).2
      rw [e] at this; omega
  · rw [bit_one (by omega)]; exact decide_eq_false (by omega)
theorem bs_full : (1#64 <<< vol x y z) - 1#64 = bs x y z fun _ => true := by
  have hv := vol_cast hS
  refine bs_ext hS (fun i hi => ?_) fun i hi => ?_
  all_goals
    have key : ∀ n, n ≤ 64 → ((1#64 <<< n) - 1#64).toNat = 2 ^ n - 1 := by
      intro n hn
      rw [BitVec.toNat_sub, BitVec.toNat_shiftLeft, Nat.shiftLeft_eq]
      rcases Nat.lt_or_ge n 64 with h | h
      · have h2 : 2 ^ n < 2 ^ 64 := Nat.pow_lt_pow_right (by decide) h
        have h3 : 1 ≤ 2 ^ n := Nat.one_le_two_pow
        simp only [BitVec.toNat_ofNat, Nat.one_mul] at *
        rw [Nat.mod_eq_of_lt (show 1 % 2 ^ 64 * 2 ^ n < 2 ^ 64 by simpa using h2)]
        omega
      · have : n = 64 := by omega
        subst this; rfl
    have := key (vol x y z) hv.2.2
    unfold BitVec.getLsbD
    rw [this, Nat.testBit_two_pow_sub_one]
  · exact decide_eq_true hi
  · exact decide_eq_false (by omega)
/-- The first cell of a set. -/
theorem bs_low {p : Cell → Bool} {c : Cell} (hc : c.inBox x y z) (hp : p c = true) (hl : ∀ d, d.inBox x y z → p d = true → ¬ d.lt c) : bs x y z p &&& -bs x y z p = bs x y z fun d => decide (d = c) := by
  obtain ⟨h1, h2, h3⟩ := idx_in hS hc
  have hv := vol_cast hS
  refine bs_ext hS (fun i hi => ?_) fun i hi => ?_
  · rw [BitVec.getLsbD_and, BitVec.getLsbD_neg]
    have hb := bs_bit hS p
    have hin := cellAt_in hS (i := (i : Int)) (by omega) (by omega)
    by_cases hpi : p (cellAt y z i) = true
    · have hbi : (bs x y z p).getLsbD i = true := by rw [hb, decide_eq_true hi, hpi]; rfl
      rw [hbi]
      have hge : (idx y z c).toNat ≤ i := by
        have := hl _ hin.1 hpi
        rw [lt_iff hS hin.1 hc, hin.2] at this
        omega
      by_cases e : cellAt y z i = c
      · have hi' : i = (idx y z c).toNat := by have := hin.2; rw [e] at this; omega
        have hno : ¬ ∃ j, j < i ∧ (bs x y z p).getLsbD j = true := by
          rintro ⟨j, hj, hbj⟩
          rw [hb, decide_eq_true (by omega)] at hbj
          have hjn := cellAt_in hS (i := (j : Int)) (by omega) (by omega)
          have := hl _ hjn.1 (by simpa using hbj)
          rw [lt_iff hS hjn.1 hc, hjn.2] at this
          omega
        simp [e, hno]
      · have hyes : ∃ j, j < i ∧ (bs x y z p).getLsbD j = true := by
          refine ⟨(idx y z c).toNat, ?_, by rw [bs_has hS hc]; exact hp⟩
          rcases Nat.lt_or_ge (idx y z c).toNat i with h | h
          · exact h
          · exfalso; apply e; rw [← h3]; congr 1; omega
        simp [e, hyes]; omega
    · have hbi : (bs x y z p).getLsbD i = false := by rw [hb, decide_eq_true hi]; simpa using hpi
      rw [hbi]
      have : cellAt y z i ≠ c := fun e => hpi (by rw [e]; exact hp)
      simp [this]
  · rw [BitVec.getLsbD_and, bs_bit hS, decide_eq_false (by omega)]; rfl
theorem bs_cells {cs : List Cell} (h : ∀ c ∈ cs, c.inBox x y z) : ∀ (q : Cell → Bool), cs.foldl (fun s c => s ||| (1#64 <<< (idx y z c).toNat)) (bs x y z q) = bs x y z fun d => q d || decide (d ∈ cs) := by
  induction cs with
  | nil => intro q; simp
  | cons c cs ih =>
    intro q
    rw [List.foldl_cons, bs_one hS (h c (by simp)), bs_or hS, ih (fun d hd => h d (by simp [hd]))]
    refine (bs_eq hS).2 fun d _ => ?_
    by_cases h1 : d = c
    · subst h1; simp
    · simp [h1]
end
end Go.Ab

/- Plain words: how many cells a set has, as the library counts. -/
namespace Go.Ab

def swar1 (x : BitVec 64) : BitVec 64 := (x >>> 1 &&& 6148914691236517205#64) + (x &&& 6148914691236517205#64)
def swar2 (x : BitVec 64) : BitVec 64 := (x >>> 2 &&& 3689348814741910323#64) + (x &&& 3689348814741910323#64)
def swar3 (x : BitVec 64) : BitVec 64 := (x >>> 4 + x) &&& 1085102592571150095#64
def swar4 (x : BitVec 64) : BitVec 64 := x + x >>> 8
def swar5 (x : BitVec 64) : BitVec 64 := x + x >>> 16
def swar6 (x : BitVec 64) : BitVec 64 := x + x >>> 32
def swar (x : BitVec 64) : BitVec 64 := swar6 (swar5 (swar4 (swar3 (swar2 (swar1 x))))) &&& 127#64

def onRim (x y z : Int) (c : Cell) : Bool := decide (c.a = 0 ∨ c.b = 0 ∨ c.c = 0 ∨ c.a = x - 1 ∨ c.b = y - 1 ∨ c.c = z - 1)
theorem rim_small : ∀ x : Nat, x < 4 → ∀ y : Nat, y < 4 → ∀ z : Nat, z < 4 → ∀ i : Nat, i < (x + 1) * (y + 1) * (z + 1) →
    decide ((swar (bs ((x + 1 : Nat) : Int) ((y + 1 : Nat) : Int) ((z + 1 : Nat) : Int) fun d => decide (apart (cellAt ((y + 1 : Nat) : Int) ((z + 1 : Nat) : Int) i) d = 1))).toNat < 6) = onRim ((x + 1 : Nat) : Int) ((y + 1 : Nat) : Int) ((z + 1 : Nat) : Int) (cellAt ((y + 1 : Nat) : Int) ((z + 1 : Nat) : Int) i) := by
  decide +kernel
end Go.Ab
