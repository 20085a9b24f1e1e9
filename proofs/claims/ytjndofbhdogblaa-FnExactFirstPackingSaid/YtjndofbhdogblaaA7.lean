/- Parts of the proof of FnExactFirstPackingSaid: Ya C_Zm K_Zm C_Zk K_Zk C_Zj K_Zj C_Zh K_Zh C_Zg K_Zg C_Ze K_Ze C_Zd K_Zd C_Zc K_Zc C_Zb K_Zb C_Za K_Za Za C_Yh K_Yh C_Yf K_Yf C_Yd K_Yd C_Yc K_Yc C_Yb K_Yb C_Tc K_Tc C_Tb K_Tb Ge Ta Tb Tc C_Td K_Td Td Yb. -/
import Derived.Test.YtjndofbhdogblaaA5
import Derived.Test.YtjndofbhdogblaaA4
import Derived.Test.YtjndofbhdogblaaA6
import Derived.Test.YtjndofbhdogblaaA3
import Derived.Test.YtjndofbhdogblaaProg
import Derived.KernelRfl
set_option linter.all false
/- Contracts: the laws' helpers on lists of pieces. -/
namespace Go.Ab
open Go
set_option linter.unusedSimpArgs false
set_option linter.unusedVariables false
set_option maxRecDepth 20000

/-- Lists of cells of one's own, all behind M. -/
def PcsO (M N : Mem) (t : Nat) (L : List (List Cell)) : Prop := M.length ≤ t ∧ ∃ (refs : List LV) (hi : Nat), Live N t (.row refs true 1) ∧ refs.length = L.length ∧ Css N (t + 1) hi refs L ∧ hi ≤ N.length
theorem PcsO.pcs {M N : Mem} {t : Nat} {L : List (List Cell)} (h : PcsO M N t L) : Pcs N t L := by
  obtain ⟨_, refs, hi, h1, h2, h3, _⟩ := h
  exact ⟨refs, h1.has, h2, fun i hi => by obtain ⟨u, _, _, a, b⟩ := h3.get hi; exact ⟨u, 0, a, b.has⟩⟩
theorem PcsO.slcc {M N : Mem} {t : Nat} {L : List (List Cell)} (h : PcsO M N t L) : SlCC M N (.ref t 0 L.length) L := by
  obtain ⟨h0, refs, hi, h1, h2, h3, _⟩ := h
  rw [← h2]; exact SlCC.of h0 (by omega) h1 h3
theorem PcsO.pre {M N N' : Mem} {t : Nat} {L : List (List Cell)} (h : PcsO M N t L) (hp : Pre N N') : PcsO M N' t L := by
  obtain ⟨h0, refs, hi, h1, h2, h3, h4⟩ := h
  exact ⟨h0, refs, hi, h1.pre hp, h2, h3.pre hp, Nat.le_trans h4 hp.1⟩
theorem PcsO.lt {M N : Mem} {t : Nat} {L : List (List Cell)} (h : PcsO M N t L) : t < N.length := by obtain ⟨_, refs, hi, h1, _⟩ := h; exact h1.lt

theorem tot_le_mem {L : List (List Cell)} : ∀ {l : List Cell}, l ∈ L → l.length ≤ tot L := by
  induction L with
  | nil => intro l h; cases h
  | cons a L ih =>
    intro l h
    rcases List.mem_cons.1 h with rfl | h
    · simp only [tot]; omega
    · have := ih h; simp only [tot]; omega
theorem h_szIntA3SS {t : Nat} {L : List (List Cell)} {left : Int} {M : Mem} (h : Pcs M t L) (h0 : 0 ≤ left) (h1 : left ≤ 10000000) (hn : L.length ≤ 9223372036854775807 ∧ ∀ l ∈ L, l.length ≤ 9223372036854775807) :
    CallsTo PG F.laws_szIntA3SS [.ref t 0 L.length, .I left] M (.I (if left < L.length + tot L then -1 else left - L.length - tot L)) M := by
  refine calls_run K.laws_szIntA3SS rfl ?_
  obtain ⟨hn1, hn2⟩ := hn
  simp (disch := omega) only [C.laws_szIntA3SS, ↓SXd, SXu, slBounds, ↓sop, ↓aop, ↓reduceIte, LV.cells, AOp.dst, LV.I, LV.B, LV.U, LV.S, LV.nil, Nat.reduceEqDiff, Nat.reduceAdd, Nat.reduceMul, Nat.reduceSub, Nat.reduceLeDiff, Nat.reduceBEq, Nat.reduceDiv, Nat.reduceMod, Int.reduceToNat, Int.reduceLT, Int.reduceLE, Int.reduceAdd, Int.reduceSub, Int.reduceMul, Int.reduceEq, Int.reduceNeg, reduceCtorEq, resV, resAll, ARes.ev, LV.flat, ite_true, ite_false, exists_eq_left', exists_eq_left, keyOf, implies_true, fillC, capOf]
  by_cases hl : left < L.length
  · have hl' : left - (L.length : Nat) < 0 := by omega
    simp (disch := omega) only [hl', ↓SXd, SXu, slBounds, ↓sop, ↓aop, ↓reduceIte, LV.cells, AOp.dst, LV.I, LV.B, LV.U, LV.S, LV.nil, Nat.reduceEqDiff, Nat.reduceAdd, Nat.reduceMul, Nat.reduceSub, Nat.reduceLeDiff, Nat.reduceBEq, Nat.reduceDiv, Nat.reduceMod, Int.reduceToNat, Int.reduceLT, Int.reduceLE, Int.reduceAdd, Int.reduceSub, Int.reduceMul, Int.reduceEq, Int.reduceNeg, reduceCtorEq, resV, resAll, ARes.ev, LV.flat, ite_true, ite_false, exists_eq_left', exists_eq_left, keyOf, implies_true, fillC, capOf]
    rw [if_pos (by omega)]
    exact cmp_drop0 rfl
  · have hl' : ¬ (left - (L.length : Nat) < 0) := by omega
    simp (disch := omega) only [hl', ↓SXd, SXu, slBounds, ↓sop, ↓aop, ↓reduceIte, LV.cells, AOp.dst, LV.I, LV.B, LV.U, LV.S, LV.nil, Nat.reduceEqDiff, Nat.reduceAdd, Nat.reduceMul, Nat.reduceSub, Nat.reduceLeDiff, Nat.reduceBEq, Nat.reduceDiv, Nat.reduceMod, Int.reduceToNat, Int.reduceLT, Int.reduceLE, Int.reduceAdd, Int.reduceSub, Int.reduceMul, Int.reduceEq, Int.reduceNeg, reduceCtorEq, resV, resAll, ARes.ev, LV.flat, ite_true, ite_false, exists_eq_left', exists_eq_left, keyOf, implies_true, fillC, capOf]
    refine ev_loop (fun m fr M' => ∃ i : Nat, i + m = L.length ∧ M' = M ∧ (tot (L.take i) : Int) ≤ left - (L.length : Nat) ∧ fr 0 = .ref t 0 L.length ∧ fr 1 = .I (left - (L.length : Nat) - (tot (L.take i) : Nat)) ∧ fr 5 = .I i) L.length
      ⟨0, by omega, rfl, by simp [tot]; omega, rfl, by show LV.I _ = LV.I _; simp [tot], rfl⟩ ?_
    rintro m fr M' ⟨i, hi, rfl, ht, f0, f1, f5⟩
    simp (disch := omega) only [f0, f1, f5, ↓SXd, SXu, slBounds, ↓sop, ↓aop, ↓reduceIte, LV.cells, AOp.dst, LV.I, LV.B, LV.U, LV.S, LV.nil, Nat.reduceEqDiff, Nat.reduceAdd, Nat.reduceMul, Nat.reduceSub, Nat.reduceLeDiff, Nat.reduceBEq, Nat.reduceDiv, Nat.reduceMod, Int.reduceToNat, Int.reduceLT, Int.reduceLE, Int.reduceAdd, Int.reduceSub, Int.reduceMul, Int.reduceEq, Int.reduceNeg, reduceCtorEq, resV, resAll, ARes.ev, LV.flat, ite_true, ite_false, exists_eq_left', exists_eq_left, keyOf, implies_true, fillC, capOf]
    refine condC_dec (fun hlt => ?_) (fun hlt => ?_)
    · have hil : i < L.length := by omega
      obtain ⟨u, o, hg, hT⟩ := h.get hil
      have hm := hn2 _ (getD_mem' (d := []) hil)
      have hts := tot_take_succ hil
      have htot : tot (L.take (i + 1)) ≤ tot L := by
        have := tot_take_le (L := L) (i := i + 1); exact this
      generalize L.getD i [] = l at hg hT hm hts
      simp (disch := omega) only [f0, f1, f5, hg, Nat.mul_one, Nat.zero_add, ↓SXd, SXu, slBounds, ↓sop, ↓aop, ↓reduceIte, LV.cells, AOp.dst, LV.I, LV.B, LV.U, LV.S, LV.nil, Nat.reduceEqDiff, Nat.reduceAdd, Nat.reduceMul, Nat.reduceSub, Nat.reduceLeDiff, Nat.reduceBEq, Nat.reduceDiv, Nat.reduceMod, Int.reduceToNat, Int.reduceLT, Int.reduceLE, Int.reduceAdd, Int.reduceSub, Int.reduceMul, Int.reduceEq, Int.reduceNeg, reduceCtorEq, resV, resAll, ARes.ev, LV.flat, ite_true, ite_false, exists_eq_left', exists_eq_left, keyOf, implies_true, fillC, capOf]
      refine callK_of (h_szIntA3S (by omega) (by omega) hm) ?_
      simp (disch := omega) only [f0, f1, f5, ↓SXd, SXu, slBounds, ↓sop, ↓aop, ↓reduceIte, LV.cells, AOp.dst, LV.I, LV.B, LV.U, LV.S, LV.nil, Nat.reduceEqDiff, Nat.reduceAdd, Nat.reduceMul, Nat.reduceSub, Nat.reduceLeDiff, Nat.reduceBEq, Nat.reduceDiv, Nat.reduceMod, Int.reduceToNat, Int.reduceLT, Int.reduceLE, Int.reduceAdd, Int.reduceSub, Int.reduceMul, Int.reduceEq, Int.reduceNeg, reduceCtorEq, resV, resAll, ARes.ev, LV.flat, ite_true, ite_false, exists_eq_left', exists_eq_left, keyOf, implies_true, fillC, capOf]
      by_cases hl2 : left - (L.length : Nat) - (tot (L.take i) : Nat) < l.length
      · rw [if_pos hl2]
        simp (disch := omega) only [f0, f1, f5, Int.reduceLT, ↓SXd, SXu, slBounds, ↓sop, ↓aop, ↓reduceIte, LV.cells, AOp.dst, LV.I, LV.B, LV.U, LV.S, LV.nil, Nat.reduceEqDiff, Nat.reduceAdd, Nat.reduceMul, Nat.reduceSub, Nat.reduceLeDiff, Nat.reduceBEq, Nat.reduceDiv, Nat.reduceMod, Int.reduceToNat, Int.reduceLT, Int.reduceLE, Int.reduceAdd, Int.reduceSub, Int.reduceMul, Int.reduceEq, Int.reduceNeg, reduceCtorEq, resV, resAll, ARes.ev, LV.flat, ite_true, ite_false, exists_eq_left', exists_eq_left, keyOf, implies_true, fillC, capOf]
        rw [if_pos (by omega)]
        exact cmp_drop0 rfl
      · rw [if_neg hl2]
        have hl3 : ¬ (left - (L.length : Nat) - (tot (L.take i) : Nat) - (l.length : Nat) < 0) := by omega
        simp (disch := omega) only [f0, f1, f5, hl3, ↓SXd, SXu, slBounds, ↓sop, ↓aop, ↓reduceIte, LV.cells, AOp.dst, LV.I, LV.B, LV.U, LV.S, LV.nil, Nat.reduceEqDiff, Nat.reduceAdd, Nat.reduceMul, Nat.reduceSub, Nat.reduceLeDiff, Nat.reduceBEq, Nat.reduceDiv, Nat.reduceMod, Int.reduceToNat, Int.reduceLT, Int.reduceLE, Int.reduceAdd, Int.reduceSub, Int.reduceMul, Int.reduceEq, Int.reduceNeg, reduceCtorEq, resV, resAll, ARes.ev, LV.flat, ite_true, ite_false, exists_eq_left', exists_eq_left, keyOf, implies_true, fillC, capOf]
        exact ⟨m - 1, by omega, i + 1, by omega, rfl, by omega, f0, eqI (by omega), eqI (natI _)⟩
    · simp (disch := omega) only [f0, f1, f5, ↓SXd, SXu, slBounds, ↓sop, ↓aop, ↓reduceIte, LV.cells, AOp.dst, LV.I, LV.B, LV.U, LV.S, LV.nil, Nat.reduceEqDiff, Nat.reduceAdd, Nat.reduceMul, Nat.reduceSub, Nat.reduceLeDiff, Nat.reduceBEq, Nat.reduceDiv, Nat.reduceMod, Int.reduceToNat, Int.reduceLT, Int.reduceLE, Int.reduceAdd, Int.reduceSub, Int.reduceMul, Int.reduceEq, Int.reduceNeg, reduceCtorEq, resV, resAll, ARes.ev, LV.flat, ite_true, ite_false, exists_eq_left', exists_eq_left, keyOf, implies_true, fillC, capOf]
      have : i = L.length := by omega
      subst this
      rw [List.take_length] at ht f1 ⊢
      rw [if_neg (by omega)]
      exact cmp_drop0 rfl
theorem made_nil (n : Nat) : (List.replicate n [LV.val (Value.slice none 0 0)]).flatten = List.replicate n (LV.val (Value.slice none 0 0)) := by
  simp
theorem h_toIntA3SS {t : Nat} {L : List (List Cell)} {M : Mem} (h : Pcs M t L) (hn : L.length + tot L ≤ 10000000) :
    CallsR PG F.laws_toIntA3SS [.ref t 0 L.length] M fun v N => ∃ u, v = .ref u 0 L.length ∧ PcsO M N u L ∧ Pre M N := by
  have ht := h.lt
  refine callsR_run K.laws_toIntA3SS rfl ?_
  simp (disch := omega) only [C.laws_toIntA3SS, made_nil, ↓SXd, SXu, slBounds, ↓sop, ↓aop, ↓reduceIte, LV.cells, AOp.dst, LV.I, LV.B, LV.U, LV.S, LV.nil, Nat.reduceEqDiff, Nat.reduceAdd, Nat.reduceMul, Nat.reduceSub, Nat.reduceLeDiff, Nat.reduceBEq, Nat.reduceDiv, Nat.reduceMod, Int.reduceToNat, Int.reduceLT, Int.reduceLE, Int.reduceAdd, Int.reduceSub, Int.reduceMul, Int.reduceEq, Int.reduceNeg, reduceCtorEq, resV, resAll, ARes.ev, LV.flat, ite_true, ite_false, exists_eq_left', exists_eq_left, keyOf, implies_true, fillC, capOf]
  refine ev_loop (fun m fr M' => ∃ (i : Nat) (rs : List LV), i + m = L.length ∧ Pre M M' ∧ Live M' M.length (.row (rs ++ List.replicate (L.length - i) (LV.val (Value.slice none 0 0))) true 1) ∧ rs.length = i ∧ Css M' (M.length + 1) M'.length rs (L.take i) ∧ fr 0 = .ref t 0 L.length ∧ fr 3 = .ref M.length 0 L.length ∧ fr 4 = .I i) L.length
    ⟨0, [], by omega, Pre.app _ _, by simpa using Live.new, rfl, trivial, rfl, rfl, rfl⟩ ?_
  rintro m fr M' ⟨i, rs, hi, hpre, hout, hrs, hcss, f0, f3, f4⟩
  simp (disch := omega) only [f0, f3, f4, ↓SXd, SXu, slBounds, ↓sop, ↓aop, ↓reduceIte, LV.cells, AOp.dst, LV.I, LV.B, LV.U, LV.S, LV.nil, Nat.reduceEqDiff, Nat.reduceAdd, Nat.reduceMul, Nat.reduceSub, Nat.reduceLeDiff, Nat.reduceBEq, Nat.reduceDiv, Nat.reduceMod, Int.reduceToNat, Int.reduceLT, Int.reduceLE, Int.reduceAdd, Int.reduceSub, Int.reduceMul, Int.reduceEq, Int.reduceNeg, reduceCtorEq, resV, resAll, ARes.ev, LV.flat, ite_true, ite_false, exists_eq_left', exists_eq_left, keyOf, implies_true, fillC, capOf]
  refine condC_dec (fun hlt => ?_) (fun hlt => ?_)
  · have hil : i < L.length := by omega
    obtain ⟨u, o, hg, hT⟩ := (h.pre hpre).get hil
    have hml := tot_le_mem (getD_mem' (d := []) hil)
    have hts : L.take (i + 1) = L.take i ++ [L.getD i []] := by
      rw [List.take_succ, List.getElem?_eq_getElem hil]; simp [hil]
    generalize L.getD i [] = l at hg hT hml hts
    simp (disch := omega) only [f0, f3, f4, hg, Nat.mul_one, Nat.zero_add, ↓SXd, SXu, slBounds, ↓sop, ↓aop, ↓reduceIte, LV.cells, AOp.dst, LV.I, LV.B, LV.U, LV.S, LV.nil, Nat.reduceEqDiff, Nat.reduceAdd, Nat.reduceMul, Nat.reduceSub, Nat.reduceLeDiff, Nat.reduceBEq, Nat.reduceDiv, Nat.reduceMod, Int.reduceToNat, Int.reduceLT, Int.reduceLE, Int.reduceAdd, Int.reduceSub, Int.reduceMul, Int.reduceEq, Int.reduceNeg, reduceCtorEq, resV, resAll, ARes.ev, LV.flat, ite_true, ite_false, exists_eq_left', exists_eq_left, keyOf, implies_true, fillC, capOf]
    refine callN_of (h_toIntA3S hT (by omega)) ?_
    intro v N hv hp2 hl
    have hout2 := hout.pre hp2
    simp (disch := omega) only [f0, f3, f4, ↓SXd, SXu, slBounds, ↓sop, ↓aop, ↓reduceIte, LV.cells, AOp.dst, LV.I, LV.B, LV.U, LV.S, LV.nil, Nat.reduceEqDiff, Nat.reduceAdd, Nat.reduceMul, Nat.reduceSub, Nat.reduceLeDiff, Nat.reduceBEq, Nat.reduceDiv, Nat.reduceMod, Int.reduceToNat, Int.reduceLT, Int.reduceLE, Int.reduceAdd, Int.reduceSub, Int.reduceMul, Int.reduceEq, Int.reduceNeg, reduceCtorEq, resV, resAll, ARes.ev, LV.flat, ite_true, ite_false, exists_eq_left', exists_eq_left, keyOf, implies_true, fillC, capOf]
    refine memK_one hout2 (by rw [List.length_append, hrs, List.length_replicate]; omega) fun N3 k1 k2 k3 => ?_
    simp (disch := omega) only [f0, f3, f4, ↓SXd, SXu, slBounds, ↓sop, ↓aop, ↓reduceIte, LV.cells, AOp.dst, LV.I, LV.B, LV.U, LV.S, LV.nil, Nat.reduceEqDiff, Nat.reduceAdd, Nat.reduceMul, Nat.reduceSub, Nat.reduceLeDiff, Nat.reduceBEq, Nat.reduceDiv, Nat.reduceMod, Int.reduceToNat, Int.reduceLT, Int.reduceLE, Int.reduceAdd, Int.reduceSub, Int.reduceMul, Int.reduceEq, Int.reduceNeg, reduceCtorEq, resV, resAll, ARes.ev, LV.flat, ite_true, ite_false, exists_eq_left', exists_eq_left, keyOf, implies_true, fillC, capOf]
    have hol := hout.lt
    have hset : (rs ++ List.replicate (L.length - i) (LV.val (Value.slice none 0 0))).set i (.ref v 0 l.length) = (rs ++ [.ref v 0 l.length]) ++ List.replicate (L.length - (i + 1)) (LV.val (Value.slice none 0 0)) := by
      rw [List.set_append_right _ _ (by omega), hrs, Nat.sub_self, show L.length - i = (L.length - (i + 1)) + 1 by omega, List.replicate_succ, List.set_cons_zero, List.append_assoc]; rfl
    rw [hset] at k2
    refine ⟨m - 1, by omega, i + 1, rs ++ [.ref v 0 l.length], by omega, pre_step (hpre.trans hp2) (by omega) (j := 0) k1 k3, k2, by simp [hrs], ?_, f0, f3, eqI (natI _)⟩
    rw [hts]
    have hvl := hl.lt
    exact ((hcss.pre hp2).keep (.inl (.inr (by omega))) k3).snoc hv (by omega) (live_step hl (by omega) k3) (by have := hpre.1; omega)
  · simp (disch := omega) only [f0, f3, f4, ↓SXd, SXu, slBounds, ↓sop, ↓aop, ↓reduceIte, LV.cells, AOp.dst, LV.I, LV.B, LV.U, LV.S, LV.nil, Nat.reduceEqDiff, Nat.reduceAdd, Nat.reduceMul, Nat.reduceSub, Nat.reduceLeDiff, Nat.reduceBEq, Nat.reduceDiv, Nat.reduceMod, Int.reduceToNat, Int.reduceLT, Int.reduceLE, Int.reduceAdd, Int.reduceSub, Int.reduceMul, Int.reduceEq, Int.reduceNeg, reduceCtorEq, resV, resAll, ARes.ev, LV.flat, ite_true, ite_false, exists_eq_left', exists_eq_left, keyOf, implies_true, fillC, capOf]
    have : i = L.length := by omega
    subst this
    rw [List.take_length] at hcss
    rw [Nat.sub_self, List.replicate_zero, List.append_nil] at hout
    exact ⟨_, rfl, ⟨Nat.le_refl _, rs, _, hout, hrs, hcss, Nat.le_refl _⟩, hpre⟩
/-- Marks in lists of cells: what lies elsewhere stays. -/
theorem h_markPcs {L : List (List Cell)} {k : Int} {t lo hi : Nat} {refs : List LV} {M : Mem} (ht : Live M t (.row refs true 1)) (hrl : refs.length = L.length) (hc : Css M lo hi refs L) (htl : t < lo) (hn : L.length + tot L ≤ 10000000) (hk : 0 ≤ k ∧ k ≤ 100000000) :
    CallsR PG F.laws_markIntA3SS [.ref t 0 L.length, .I k] M fun r N => r = .I (k + 3 * (tot L : Nat)) ∧ N.length = M.length ∧ ∀ u, u < lo ∨ hi ≤ u → N[u]? = M[u]? := by
  have hpw := hc.pair
  rw [List.pairwise_iff_getElem] at hpw
  have hget := fun (j : Nat) (hj : j < L.length) => hc.get hj
  refine callsR_run K.laws_markIntA3SS rfl ?_
  simp (disch := omega) only [C.laws_markIntA3SS, ↓SXd, SXu, slBounds, ↓sop, ↓aop, ↓reduceIte, LV.cells, AOp.dst, LV.I, LV.B, LV.U, LV.S, LV.nil, Nat.reduceEqDiff, Nat.reduceAdd, Nat.reduceMul, Nat.reduceSub, Nat.reduceLeDiff, Nat.reduceBEq, Nat.reduceDiv, Nat.reduceMod, Int.reduceToNat, Int.reduceLT, Int.reduceLE, Int.reduceAdd, Int.reduceSub, Int.reduceMul, Int.reduceEq, Int.reduceNeg, reduceCtorEq, resV, resAll, ARes.ev, LV.flat, ite_true, ite_false, exists_eq_left', exists_eq_left, keyOf, implies_true, fillC, capOf]
  refine ev_loop (fun m fr M' => ∃ i : Nat, i + m = L.length ∧ M'.length = M.length ∧ Live M' t (.row refs true 1) ∧ (∀ j, i ≤ j → j < L.length → ∃ u, lo ≤ u ∧ u < hi ∧ refs[j]? = some (.ref u 0 (L.getD j []).length) ∧ Live M' u (.row (triL (L.getD j [])) true 3)) ∧ (∀ u, u < lo ∨ hi ≤ u → M'[u]? = M[u]?) ∧ fr 0 = .ref t 0 L.length ∧ fr 1 = .I (k + 3 * (tot (L.take i) : Nat)) ∧ fr 5 = .I i) L.length
    ⟨0, by omega, rfl, ht, fun j _ hj => hget j hj, fun _ _ => rfl, rfl, eqI (by simp [tot]), rfl⟩ ?_
  rintro m fr M' ⟨i, hi', hlen, hrow, hsub, hoff, f0, f1, f5⟩
  simp (disch := omega) only [f0, f1, f5, ↓SXd, SXu, slBounds, ↓sop, ↓aop, ↓reduceIte, LV.cells, AOp.dst, LV.I, LV.B, LV.U, LV.S, LV.nil, Nat.reduceEqDiff, Nat.reduceAdd, Nat.reduceMul, Nat.reduceSub, Nat.reduceLeDiff, Nat.reduceBEq, Nat.reduceDiv, Nat.reduceMod, Int.reduceToNat, Int.reduceLT, Int.reduceLE, Int.reduceAdd, Int.reduceSub, Int.reduceMul, Int.reduceEq, Int.reduceNeg, reduceCtorEq, resV, resAll, ARes.ev, LV.flat, ite_true, ite_false, exists_eq_left', exists_eq_left, keyOf, implies_true, fillC, capOf]
  refine condC_dec (fun hlt => ?_) (fun hlt => ?_)
  · have hil : i < L.length := by omega
    obtain ⟨u, hu1, hu2, hu3, hu4⟩ := hsub i (Nat.le_refl _) hil
    have hg := hrow.cell (o := i)
    rw [hu3] at hg
    have hml := tot_le_mem (getD_mem' (d := []) hil)
    have hts := tot_take_succ hil
    have htl2 := tot_take_le (L := L) (i := i + 1)
    simp (disch := omega) only [f0, f1, f5, hg, Nat.mul_one, Nat.zero_add, ↓SXd, SXu, slBounds, ↓sop, ↓aop, ↓reduceIte, LV.cells, AOp.dst, LV.I, LV.B, LV.U, LV.S, LV.nil, Nat.reduceEqDiff, Nat.reduceAdd, Nat.reduceMul, Nat.reduceSub, Nat.reduceLeDiff, Nat.reduceBEq, Nat.reduceDiv, Nat.reduceMod, Int.reduceToNat, Int.reduceLT, Int.reduceLE, Int.reduceAdd, Int.reduceSub, Int.reduceMul, Int.reduceEq, Int.reduceNeg, reduceCtorEq, resV, resAll, ARes.ev, LV.flat, ite_true, ite_false, exists_eq_left', exists_eq_left, keyOf, implies_true, fillC, capOf]
    refine callR_of (h_markIntA3S (SlC.of hu4) (by omega) (by omega)) ?_
    rintro _ N ⟨rfl, _, hNl, hNo⟩
    simp (disch := omega) only [f0, f1, f5, ↓SXd, SXu, slBounds, ↓sop, ↓aop, ↓reduceIte, LV.cells, AOp.dst, LV.I, LV.B, LV.U, LV.S, LV.nil, Nat.reduceEqDiff, Nat.reduceAdd, Nat.reduceMul, Nat.reduceSub, Nat.reduceLeDiff, Nat.reduceBEq, Nat.reduceDiv, Nat.reduceMod, Int.reduceToNat, Int.reduceLT, Int.reduceLE, Int.reduceAdd, Int.reduceSub, Int.reduceMul, Int.reduceEq, Int.reduceNeg, reduceCtorEq, resV, resAll, ARes.ev, LV.flat, ite_true, ite_false, exists_eq_left', exists_eq_left, keyOf, implies_true, fillC, capOf]
    refine ⟨m - 1, by omega, i + 1, by omega, by omega, Live.at hrow (hNo t (by show t ≠ u; omega)), fun j hj1 hj2 => ?_, fun v hv => ?_, f0, eqI (by omega), eqI (natI _)⟩
    · obtain ⟨v, hv1, hv2, hv3, hv4⟩ := hsub j (by omega) hj2
      refine ⟨v, hv1, hv2, hv3, Live.at hv4 (hNo v ?_)⟩
      have hii : i < refs.length := by omega
      have hjj : j < refs.length := by omega
      have := hpw i j hii hjj (by omega)
      rw [List.getElem?_eq_getElem hii, Option.some.injEq] at hu3
      rw [List.getElem?_eq_getElem hjj, Option.some.injEq] at hv3
      rw [hu3, hv3] at this
      exact this _ _ _ rfl
    · rw [hNo v (by show v ≠ u; omega)]; exact hoff v hv
  · simp (disch := omega) only [f0, f1, f5, ↓SXd, SXu, slBounds, ↓sop, ↓aop, ↓reduceIte, LV.cells, AOp.dst, LV.I, LV.B, LV.U, LV.S, LV.nil, Nat.reduceEqDiff, Nat.reduceAdd, Nat.reduceMul, Nat.reduceSub, Nat.reduceLeDiff, Nat.reduceBEq, Nat.reduceDiv, Nat.reduceMod, Int.reduceToNat, Int.reduceLT, Int.reduceLE, Int.reduceAdd, Int.reduceSub, Int.reduceMul, Int.reduceEq, Int.reduceNeg, reduceCtorEq, resV, resAll, ARes.ev, LV.flat, ite_true, ite_false, exists_eq_left', exists_eq_left, keyOf, implies_true, fillC, capOf]
    have : i = L.length := by omega
    subst this
    rw [List.take_length]
    exact ⟨rfl, hlen, hoff⟩
end Go.Ab

/- The abstract code of some functions (written by a program of mine from the translation, by way of prepF). -/
namespace Go.Ab.C
open Go.Ab
def impl_FirstPacking : AFn :=
  ⟨2, 18, [.tmp 4, .tmp 5],
    .seq (.ops [(none, .box 2 (.t 0)),
       (none, .mv 4 (.c .nil)),
       (none, .mv 5 (.c (.B false)))])
    (.seq (.seq (.ops [(none, .loadN 7 4 (.t 2)),
         (none, .mv 8 (.t 1)),
         (none, .call (some 9) F.impl_arePacked [(.t 7), (.t 8)]),
         (none, .un 10 .not (.t 9))])
      (.cond (.t 10) (.seq (.ops [(none, .mv 4 (.c .nil)),
           (none, .mv 5 (.c (.B false)))])
        (.ret))
       (.skip)))
     (.seq (.ops [(none, .alloc 6 [.nil]),
         (none, .store 1 (.t 6) (.c .nil))])
      (.seq (.ops [(none, .loadN 11 4 (.t 2)),
          (none, .mv 12 (.t 1)),
          (none, .mkf 13 F.impl_FirstPacking_1 [(.t 6)]),
          (none, .call (some 14) F.impl_Heap_packings [(.t 11), (.t 12), (.t 13)])])
       (.seq (.draw [⟨(none, .load1 15 (.t 6)), [], []⟩,
           ⟨(none, .load1 16 (.t 6)), [], []⟩,
           ⟨(none, .eqb 17 true (.t 16) (.c .nil)), [], []⟩,
           ⟨(none, .mv 4 (.t 15)), [], []⟩,
           ⟨(none, .mv 5 (.t 17)), [], []⟩])
        (.ret)))))⟩
def impl_FirstPacking_1 : AFn :=
  ⟨2, 6, [.tmp 3],
    .seq (.ops [(none, .mv 3 (.c (.B false)))])
    (.seq (.ops [(none, .mv 4 (.t 0)),
        (none, .call (some 5) F.slices_Clone_Sint_int [(.t 4)]),
        (none, .store 1 (.t 1) (.t 5))])
     (.seq (.ops [(none, .mv 3 (.c (.B false)))])
      (.ret)))⟩
def slices_Clone_Sint_int : AFn :=
  ⟨1, 8, [.tmp 2],
    .seq (.ops [(none, .mv 2 (.c .nil))])
    (.seq (.seq (.ops [(none, .mv 3 (.t 0)),
         (none, .eqb 4 false (.t 3) (.c .nil))])
      (.cond (.t 4) (.seq (.ops [(none, .mv 2 (.c .nil))])
        (.ret))
       (.skip)))
     (.seq (.ops [(none, .buildSl 5 0 1 [] []),
         (none, .mv 6 (.t 0)),
         (none, .append 7 1 8 (.t 5) (.t 6)),
         (none, .mv 2 (.t 7))])
      (.ret)))⟩
end Go.Ab.C

/- That the program has this code. -/
namespace Go.Ab.K
open Go Go.Ab
theorem impl_FirstPacking : prepF Go.Proofs.Try.prog F.impl_FirstPacking = some C.impl_FirstPacking := by kernel_rfl
theorem impl_FirstPacking_1 : prepF Go.Proofs.Try.prog F.impl_FirstPacking_1 = some C.impl_FirstPacking_1 := by kernel_rfl
theorem slices_Clone_Sint_int : prepF Go.Proofs.Try.prog F.slices_Clone_Sint_int = some C.slices_Clone_Sint_int := by kernel_rfl
end Go.Ab.K

/- The abstract code of some functions (written by a program of mine from the translation, by way of prepF). -/
namespace Go.Ab.C
open Go.Ab
def impl_Heap_packings : AFn :=
  ⟨3, 25, [],
    .seq (.ops [(none, .box 3 (.t 0)),
       (none, .box 4 (.t 1)),
       (none, .box 5 (.t 2))])
    (.seq (.ops [(none, .loadN 9 4 (.t 3)),
        (none, .call (some 10) F.impl_Heap_box [(.t 9)]),
        (none, .buildSl 11 0 1 [] []),
        (none, .alloc 6 [(.I 0), (.I 0), (.I 0)]),
        (none, .alloc 7 [.nil]),
        (none, .store 3 (.t 6) (.t 10)),
        (none, .store 1 (.t 7) (.t 11))])
     (.seq (.seq (.ops [(none, .loadN 12 3 (.t 6)),
          (none, .call (some 13) F.impl_box_size [(.t 12)]),
          (none, .mv 14 (.c (.I 0)))])
       (.block 0 (.loop (.seq (.ops [(none, .bin 15 .lss (.t 14) (.t 13))])
          (.seq (.cond (.t 15) (.skip)
            (.exit 0))
           (.seq (.block 1 (.ops [(none, .load1 16 (.t 7)),
                (none, .buildSl 17 1 1 [(.I 0)] [(0, 1, (.c (.I (-1))))]),
                (none, .append 18 1 8 (.t 16) (.t 17)),
                (none, .store 1 (.t 7) (.t 18))]))
            (.ops [(none, .bin 19 .add (.t 14) (.c (.I 1))),
               (none, .mv 14 (.t 19))])))))))
      (.seq (.ops [(none, .alloc 8 [(.val .nilFunc)])])
       (.seq (.ops [(none, .mkf 20 F.impl_Heap_packings_1 [(.t 4), (.t 5), (.t 7), (.t 6), (.t 8)]),
           (none, .store 1 (.t 8) (.t 20))])
        (.draw [⟨(none, .load1 21 (.t 8)), [], []⟩,
           ⟨(none, .loadN 22 4 (.t 3)), [], []⟩,
           ⟨(none, .call (some 23) F.impl_Heap_free [(.t 22)]), [], [0]⟩,
           ⟨(none, .callV (some 24) (.t 21) [(.t 23), (.c (.I 0))]), [], []⟩])))))⟩
end Go.Ab.C

/- That the program has this code. -/
namespace Go.Ab.K
open Go Go.Ab
theorem impl_Heap_packings : prepF Go.Proofs.Try.prog F.impl_Heap_packings = some C.impl_Heap_packings := by kernel_rfl
end Go.Ab.K

/- The abstract code of some functions (written by a program of mine from the translation, by way of prepF). -/
namespace Go.Ab.C
open Go.Ab
def impl_Heap_packings_1 : AFn :=
  ⟨7, 102, [.tmp 9],
    .seq (.ops [(none, .mv 9 (.c (.B false)))])
    (.seq (.seq (.ops [(none, .mv 17 (.t 0)),
         (none, .bin 18 .eql (.t 17) (.c (.U 0)))])
      (.cond (.t 18) (.seq (.ops [(none, .mv 19 (.t 1)),
           (none, .load1 20 (.t 2)),
           (none, .len 21 (.t 20)),
           (none, .bin 22 .shl (.c (.I 1)) (.t 21)),
           (none, .bin 23 .sub (.t 22) (.c (.I 1))),
           (none, .bin 24 .neq (.t 19) (.t 23)),
           (none, .mv 25 (.t 24)),
           (some (25, false), .load1 26 (.t 3)),
           (some (25, false), .load1 27 (.t 4)),
           (some (25, false), .callV (some 28) (.t 26) [(.t 27)]),
           (none, .pick 29 (.t 25) (.c (.B true)) (.t 28)),
           (none, .mv 9 (.t 29))])
        (.ret))
       (.skip)))
     (.seq (.ops [(none, .loadN 30 3 (.t 5)),
         (none, .mv 31 (.t 0)),
         (none, .mv 32 (.t 0)),
         (none, .un 33 .neg (.t 32)),
         (none, .bin 34 .and (.t 31) (.t 33)),
         (none, .call (some 35) F.impl_box_list [(.t 30), (.t 34)]),
         (none, .idxS 36 3 (.t 35) (.c (.I 0))),
         (none, .loadN 37 3 (.t 36)),
         (none, .alloc 10 [(.I 0), (.I 0), (.I 0)]),
         (none, .store 3 (.t 10) (.t 37))])
      (.seq (.seq (.ops [(none, .load1 38 (.t 2)),
           (none, .len 39 (.t 38)),
           (none, .mv 40 (.c (.I 0)))])
        (.block 0 (.loop (.seq (.ops [(none, .bin 41 .lss (.t 40) (.t 39))])
           (.seq (.cond (.t 41) (.skip)
             (.exit 0))
            (.seq (.block 1 (.seq (.ops [(none, .mv 42 (.t 40)),
                  (none, .idxS 43 1 (.t 38) (.t 40)),
                  (none, .load1 44 (.t 43)),
                  (none, .mv 11 (.t 42)),
                  (none, .mv 12 (.t 44))])
               (.seq (.seq (.ops [(none, .mv 45 (.t 1)),
                    (none, .mv 46 (.t 11)),
                    (none, .bin 47 .shr (.t 45) (.t 46)),
                    (none, .bin 48 .and (.t 47) (.c (.I 1))),
                    (none, .bin 49 .eql (.t 48) (.c (.I 1)))])
                 (.cond (.t 49) (.exit 1)
                  (.skip)))
                (.seq (.draw [⟨(none, .loadN 50 3 (.t 10)), [], []⟩,
                    ⟨(none, .mv 51 (.t 12)), [], []⟩,
                    ⟨(none, .idxS 52 3 (.t 51) (.c (.I 0))), [], []⟩,
                    ⟨(none, .idxA 53 3 1 (.t 52) (.c (.I 0))), [], []⟩,
                    ⟨(none, .load1 54 (.t 53)), [], []⟩,
                    ⟨(none, .un 55 .neg (.t 54)), [], []⟩,
                    ⟨(none, .mv 56 (.t 12)), [], []⟩,
                    ⟨(none, .idxS 57 3 (.t 56) (.c (.I 0))), [], []⟩,
                    ⟨(none, .idxA 58 3 1 (.t 57) (.c (.I 1))), [], []⟩,
                    ⟨(none, .load1 59 (.t 58)), [], []⟩,
                    ⟨(none, .un 60 .neg (.t 59)), [], []⟩,
                    ⟨(none, .mv 61 (.t 12)), [], []⟩,
                    ⟨(none, .idxS 62 3 (.t 61) (.c (.I 0))), [], []⟩,
                    ⟨(none, .idxA 63 3 1 (.t 62) (.c (.I 2))), [], []⟩,
                    ⟨(none, .load1 64 (.t 63)), [], []⟩,
                    ⟨(none, .un 65 .neg (.t 64)), [], []⟩,
                    ⟨(none, .build 66 [(.I 0), (.I 0), (.I 0)] [(0, 1, (.t 55)), (1, 1, (.t 60)), (2, 1, (.t 65))]), [], []⟩,
                    ⟨(none, .alloc 13 [(.I 0), (.I 0), (.I 0)]), [], []⟩,
                    ⟨(none, .call (some 67) F.impl_added [(.t 50), (.t 66)]), [17], []⟩,
                    ⟨(none, .store 3 (.t 13) (.t 67)), [], []⟩])
                 (.seq (.ops [(none, .loadN 69 3 (.t 5)),
                     (none, .mv 70 (.t 0)),
                     (none, .mv 71 (.t 12)),
                     (none, .loadN 72 3 (.t 13)),
                     (none, .call (some 73) F.impl_box_placed [(.t 69), (.t 70), (.t 71), (.t 72)]),
                     (none, .mv 68 (.t 73)),
                     (none, .extract 74 (.t 68) 0),
                     (none, .extract 75 (.t 68) 1),
                     (none, .mv 14 (.t 74)),
                     (none, .mv 15 (.t 75))])
                  (.seq (.seq (.ops [(none, .mv 76 (.t 15)),
                       (none, .un 77 .not (.t 76))])
                    (.cond (.t 77) (.exit 1)
                     (.skip)))
                   (.seq (.seq (.ops [(none, .load1 78 (.t 4)),
                        (none, .len 79 (.t 78)),
                        (none, .mv 80 (.c (.I 0)))])
                     (.block 2 (.loop (.seq (.ops [(none, .bin 81 .lss (.t 80) (.t 79))])
                        (.seq (.cond (.t 81) (.skip)
                          (.exit 2))
                         (.seq (.block 3 (.seq (.ops [(none, .mv 82 (.t 80)),
                               (none, .mv 16 (.t 82))])
                            (.seq (.ops [(none, .mv 83 (.t 14)),
                                (none, .mv 84 (.t 16)),
                                (none, .call (some 85) F.impl_set_has [(.t 83), (.t 84)])])
                             (.cond (.t 85) (.ops [(none, .load1 86 (.t 4)),
                                 (none, .mv 87 (.t 16)),
                                 (none, .mv 88 (.t 11)),
                                 (none, .idxS 89 1 (.t 86) (.t 87)),
                                 (none, .store 1 (.t 89) (.t 88))])
                              (.skip)))))
                          (.ops [(none, .bin 90 .add (.t 80) (.c (.I 1))),
                             (none, .mv 80 (.t 90))])))))))
                    (.seq (.draw [⟨(none, .load1 91 (.t 6)), [], []⟩,
                        ⟨(none, .mv 92 (.t 0)), [], []⟩,
                        ⟨(none, .mv 93 (.t 14)), [], []⟩,
                        ⟨(none, .bin 94 .andNot (.t 92) (.t 93)), [], []⟩,
                        ⟨(none, .mv 95 (.t 1)), [], []⟩,
                        ⟨(none, .mv 96 (.t 11)), [], []⟩,
                        ⟨(none, .bin 97 .shl (.c (.I 1)) (.t 96)), [], []⟩,
                        ⟨(none, .bin 98 .or (.t 95) (.t 97)), [], []⟩,
                        ⟨(none, .callV (some 99) (.t 91) [(.t 94), (.t 98)]), [], []⟩,
                        ⟨(none, .un 100 .not (.t 99)), [], []⟩])
                     (.cond (.t 100) (.seq (.ops [(none, .mv 9 (.c (.B false)))])
                       (.ret))
                      (.skip))))))))))
             (.ops [(none, .bin 101 .add (.t 40) (.c (.I 1))),
                (none, .mv 40 (.t 101))])))))))
       (.seq (.ops [(none, .mv 9 (.c (.B true)))])
        (.ret)))))⟩
end Go.Ab.C

/- That the program has this code. -/
namespace Go.Ab.K
open Go Go.Ab
theorem impl_Heap_packings_1 : prepF Go.Proofs.Try.prog F.impl_Heap_packings_1 = some C.impl_Heap_packings_1 := by kernel_rfl
end Go.Ab.K

/- The abstract code of some functions (written by a program of mine from the translation, by way of prepF). -/
namespace Go.Ab.C
open Go.Ab
def spec_l9Find : AFn :=
  ⟨3, 32, [.cellN 6 2],
    .seq (.ops [(none, .box 3 (.t 0)),
       (none, .alloc 6 [.nil, (.I 0)])])
    (.seq (.seq (.draw [⟨(none, .mv 7 (.t 1)), [], []⟩,
         ⟨(none, .fieldAddr 9 (.t 3) 3), [], []⟩,
         ⟨(none, .load1 10 (.t 9)), [], []⟩,
         ⟨(none, .len 11 (.t 10)), [], []⟩,
         ⟨(none, .fieldAddr 13 (.t 3) 0), [], []⟩,
         ⟨(none, .load1 14 (.t 13)), [], []⟩,
         ⟨(none, .fieldAddr 15 (.t 3) 1), [], []⟩,
         ⟨(none, .load1 16 (.t 15)), [], []⟩,
         ⟨(none, .bin 17 .mul (.t 14) (.t 16)), [], []⟩,
         ⟨(none, .fieldAddr 18 (.t 3) 2), [], []⟩,
         ⟨(none, .load1 19 (.t 18)), [], []⟩,
         ⟨(none, .bin 20 .mul (.t 17) (.t 19)), [], []⟩,
         ⟨(none, .call (some 8) F.spec_l9Cells [(.t 7)]), [], [1, 2, 3, 4, 5, 6, 7, 8, 9, 10, 11]⟩,
         ⟨(none, .bin 12 .add (.t 8) (.t 11)), [], []⟩,
         ⟨(none, .bin 21 .neq (.t 12) (.t 20)), [], []⟩])
      (.cond (.t 21) (.seq (.ops [(none, .buildSl 22 0 1 [] []),
           (none, .build 23 [.nil, (.I 0)] [(0, 1, (.t 22))]),
           (none, .store 2 (.t 6) (.t 23))])
        (.ret))
       (.skip)))
     (.seq (.draw [⟨(none, .loadN 24 4 (.t 3)), [], []⟩,
         ⟨(none, .mv 25 (.t 1)), [], []⟩,
         ⟨(none, .loadN 26 4 (.t 3)), [], []⟩,
         ⟨(none, .mv 28 (.t 2)), [], []⟩,
         ⟨(none, .buildSl 29 0 1 [] []), [], []⟩,
         ⟨(none, .build 30 [.nil, (.I 0)] [(0, 1, (.t 29))]), [], []⟩,
         ⟨(none, .call (some 27) F.spec_l9Start [(.t 26)]), [4], [0, 1, 3, 5]⟩,
         ⟨(none, .call (some 31) F.spec_l9Search [(.t 24), (.t 25), (.t 27), (.t 28), (.t 30)]), [], []⟩,
         ⟨(none, .store 2 (.t 6) (.t 31)), [], []⟩])
      (.ret)))⟩
end Go.Ab.C

/- That the program has this code. -/
namespace Go.Ab.K
open Go Go.Ab
theorem spec_l9Find : prepF Go.Proofs.Try.prog F.spec_l9Find = some C.spec_l9Find := by kernel_rfl
end Go.Ab.K

/- The abstract code of some functions (written by a program of mine from the translation, by way of prepF). -/
namespace Go.Ab.C
open Go.Ab
def spec_l9Search : AFn :=
  ⟨5, 120, [.cellN 10 2],
    .seq (.ops [(none, .box 5 (.t 0)),
       (none, .box 9 (.t 4)),
       (none, .alloc 10 [.nil, (.I 0)])])
    (.seq (.ops [(none, .mv 11 (.c (.I 0)))])
     (.seq (.block 0 (.loop (.seq (.seq (.ops [(none, .mv 18 (.t 11)),
             (none, .mv 19 (.t 2)),
             (none, .len 20 (.t 19)),
             (none, .bin 21 .lss (.t 18) (.t 20)),
             (none, .mv 22 (.t 21)),
             (some (22, true), .mv 23 (.t 2)),
             (some (22, true), .mv 24 (.t 11)),
             (some (22, true), .idxS 25 1 (.t 23) (.t 24)),
             (some (22, true), .load1 26 (.t 25)),
             (some (22, true), .bin 27 .neq (.t 26) (.c (.I (-2)))),
             (none, .pick 28 (.t 22) (.t 27) (.c (.B false)))])
          (.cond (.t 28) (.skip)
           (.exit 0)))
         (.block 1 (.ops [(none, .mv 29 (.t 11)),
             (none, .bin 30 .add (.t 29) (.c (.I 1))),
             (none, .mv 11 (.t 30))])))))
      (.seq (.seq (.ops [(none, .mv 31 (.t 11)),
           (none, .mv 32 (.t 2)),
           (none, .len 33 (.t 32)),
           (none, .bin 34 .eql (.t 31) (.t 33))])
        (.cond (.t 34) (.seq (.seq (.ops [(none, .mv 12 (.c (.I 0)))])
           (.block 2 (.loop (.seq (.seq (.ops [(none, .mv 35 (.t 12)),
                  (none, .mv 36 (.t 1)),
                  (none, .len 37 (.t 36)),
                  (none, .bin 38 .lss (.t 35) (.t 37))])
               (.cond (.t 38) (.skip)
                (.exit 2)))
              (.seq (.block 3 (.seq (.ops [(none, .mv 41 (.t 2)),
                    (none, .mv 42 (.t 12)),
                    (none, .call (some 43) F.spec_l1Has [(.t 41), (.t 42)]),
                    (none, .un 44 .not (.t 43))])
                 (.cond (.t 44) (.seq (.ops [(none, .loadN 45 2 (.t 9)),
                      (none, .store 2 (.t 10) (.t 45))])
                   (.ret))
                  (.skip))))
               (.ops [(none, .mv 39 (.t 12)),
                  (none, .bin 40 .add (.t 39) (.c (.I 1))),
                  (none, .mv 12 (.t 40))]))))))
          (.seq (.seq (.ops [(none, .fieldAddr 46 (.t 9) 1),
               (none, .load1 47 (.t 46)),
               (none, .bin 48 .eql (.t 47) (.c (.I 0)))])
            (.cond (.t 48) (.ops [(none, .mv 49 (.t 2)),
                (none, .fieldAddr 50 (.t 9) 0),
                (none, .store 1 (.t 50) (.t 49))])
             (.skip)))
           (.seq (.ops [(none, .fieldAddr 51 (.t 9) 1),
               (none, .load1 52 (.t 51)),
               (none, .bin 53 .add (.t 52) (.c (.I 1))),
               (none, .fieldAddr 54 (.t 9) 1),
               (none, .store 1 (.t 54) (.t 53))])
            (.seq (.ops [(none, .loadN 55 2 (.t 9)),
                (none, .store 2 (.t 10) (.t 55))])
             (.ret)))))
         (.skip)))
       (.seq (.ops [(none, .loadN 56 4 (.t 5)),
           (none, .call (some 57) F.spec_l2All [(.t 56)]),
           (none, .mv 58 (.t 11)),
           (none, .idxS 59 3 (.t 57) (.t 58)),
           (none, .loadN 60 3 (.t 59)),
           (none, .alloc 13 [(.I 0), (.I 0), (.I 0)]),
           (none, .store 3 (.t 13) (.t 60))])
        (.seq (.seq (.ops [(none, .mv 14 (.c (.I 0)))])
          (.block 4 (.loop (.seq (.seq (.ops [(none, .mv 61 (.t 14)),
                 (none, .mv 62 (.t 1)),
                 (none, .len 63 (.t 62)),
                 (none, .bin 64 .lss (.t 61) (.t 63)),
                 (none, .mv 65 (.t 64)),
                 (some (65, true), .mv 66 (.t 3)),
                 (some (65, true), .mv 67 (.t 66)),
                 (some (67, true), .fieldAddr 68 (.t 9) 1),
                 (some (67, true), .load1 69 (.t 68)),
                 (some (67, true), .bin 70 .gtr (.t 69) (.c (.I 0))),
                 (some (65, true), .pick 71 (.t 67) (.t 70) (.c (.B false))),
                 (some (65, true), .un 72 .not (.t 71)),
                 (none, .pick 73 (.t 65) (.t 72) (.c (.B false)))])
              (.cond (.t 73) (.skip)
               (.exit 4)))
             (.seq (.block 5 (.seq (.seq (.ops [(none, .mv 76 (.t 2)),
                    (none, .mv 77 (.t 14)),
                    (none, .call (some 78) F.spec_l1Has [(.t 76), (.t 77)])])
                 (.cond (.t 78) (.exit 5)
                  (.skip)))
                (.seq (.ops [(none, .mv 79 (.t 1)),
                    (none, .mv 80 (.t 14)),
                    (none, .idxS 81 1 (.t 79) (.t 80)),
                    (none, .load1 82 (.t 81)),
                    (none, .idxS 83 3 (.t 82) (.c (.I 0))),
                    (none, .loadN 84 3 (.t 83)),
                    (none, .alloc 15 [(.I 0), (.I 0), (.I 0)]),
                    (none, .store 3 (.t 15) (.t 84))])
                 (.seq (.draw [⟨(none, .loadN 86 4 (.t 5)), [], []⟩,
                     ⟨(none, .mv 87 (.t 1)), [], []⟩,
                     ⟨(none, .mv 88 (.t 14)), [], []⟩,
                     ⟨(none, .idxS 89 1 (.t 87) (.t 88)), [], []⟩,
                     ⟨(none, .load1 90 (.t 89)), [], []⟩,
                     ⟨(none, .idxA 91 3 1 (.t 13) (.c (.I 0))), [], []⟩,
                     ⟨(none, .load1 92 (.t 91)), [], []⟩,
                     ⟨(none, .idxA 93 3 1 (.t 15) (.c (.I 0))), [], []⟩,
                     ⟨(none, .load1 94 (.t 93)), [], []⟩,
                     ⟨(none, .bin 95 .sub (.t 92) (.t 94)), [], []⟩,
                     ⟨(none, .idxA 96 3 1 (.t 13) (.c (.I 1))), [], []⟩,
                     ⟨(none, .load1 97 (.t 96)), [], []⟩,
                     ⟨(none, .idxA 98 3 1 (.t 15) (.c (.I 1))), [], []⟩,
                     ⟨(none, .load1 99 (.t 98)), [], []⟩,
                     ⟨(none, .bin 100 .sub (.t 97) (.t 99)), [], []⟩,
                     ⟨(none, .idxA 101 3 1 (.t 13) (.c (.I 2))), [], []⟩,
                     ⟨(none, .load1 102 (.t 101)), [], []⟩,
                     ⟨(none, .idxA 103 3 1 (.t 15) (.c (.I 2))), [], []⟩,
                     ⟨(none, .load1 104 (.t 103)), [], []⟩,
                     ⟨(none, .bin 105 .sub (.t 102) (.t 104)), [], []⟩,
                     ⟨(none, .build 106 [(.I 0), (.I 0), (.I 0)] [(0, 1, (.t 95)), (1, 1, (.t 100)), (2, 1, (.t 105))]), [], []⟩,
                     ⟨(none, .mv 107 (.t 2)), [], []⟩,
                     ⟨(none, .mv 108 (.t 14)), [], []⟩,
                     ⟨(none, .call (some 109) F.spec_l9Put [(.t 86), (.t 90), (.t 106), (.t 107), (.t 108)]), [], []⟩,
                     ⟨(none, .mv 85 (.t 109)), [], []⟩,
                     ⟨(none, .extract 110 (.t 85) 0), [], []⟩,
                     ⟨(none, .extract 111 (.t 85) 1), [], []⟩,
                     ⟨(none, .mv 16 (.t 110)), [], []⟩,
                     ⟨(none, .mv 17 (.t 111)), [], []⟩])
                  (.seq (.ops [(none, .mv 112 (.t 17))])
                   (.cond (.t 112) (.ops [(none, .loadN 113 4 (.t 5)),
                       (none, .mv 114 (.t 1)),
                       (none, .mv 115 (.t 16)),
                       (none, .mv 116 (.t 3)),
                       (none, .loadN 117 2 (.t 9)),
                       (none, .call (some 118) F.spec_l9Search [(.t 113), (.t 114), (.t 115), (.t 116), (.t 117)]),
                       (none, .store 2 (.t 9) (.t 118))])
                    (.skip)))))))
              (.ops [(none, .mv 74 (.t 14)),
                 (none, .bin 75 .add (.t 74) (.c (.I 1))),
                 (none, .mv 14 (.t 75))]))))))
         (.seq (.ops [(none, .loadN 119 2 (.t 9)),
             (none, .store 2 (.t 10) (.t 119))])
          (.ret)))))))⟩
end Go.Ab.C

/- That the program has this code. -/
namespace Go.Ab.K
open Go Go.Ab
theorem spec_l9Search : prepF Go.Proofs.Try.prog F.spec_l9Search = some C.spec_l9Search := by kernel_rfl
end Go.Ab.K

/- The abstract code of some functions (written by a program of mine from the translation, by way of prepF). -/
namespace Go.Ab.C
open Go.Ab
def spec_l9Put : AFn :=
  ⟨5, 53, [.tmp 10, .tmp 11],
    .seq (.ops [(none, .box 5 (.t 0)),
       (none, .box 7 (.t 2)),
       (none, .mv 10 (.c .nil)),
       (none, .mv 11 (.c (.B false)))])
    (.seq (.seq (.ops [(none, .loadN 15 4 (.t 5)),
         (none, .mv 16 (.t 1)),
         (none, .loadN 17 3 (.t 7)),
         (none, .call (some 18) F.spec_l9Fits [(.t 15), (.t 16), (.t 17)]),
         (none, .un 19 .not (.t 18))])
      (.cond (.t 19) (.seq (.ops [(none, .buildSl 20 0 1 [] []),
           (none, .mv 10 (.t 20)),
           (none, .mv 11 (.c (.B false)))])
        (.ret))
       (.skip)))
     (.seq (.draw [⟨(none, .mv 21 (.t 3)), [], []⟩,
         ⟨(none, .mv 23 (.t 1)), [], []⟩,
         ⟨(none, .loadN 24 3 (.t 7)), [], []⟩,
         ⟨(none, .call (some 22) F.spec_l1Own [(.t 21)]), [], [1, 2]⟩,
         ⟨(none, .call (some 25) F.spec_l9Moved [(.t 23), (.t 24)]), [], []⟩,
         ⟨(none, .mv 12 (.t 22)), [], []⟩,
         ⟨(none, .mv 13 (.t 25)), [], []⟩])
      (.seq (.seq (.ops [(none, .mv 14 (.c (.I 0)))])
        (.block 0 (.loop (.seq (.seq (.ops [(none, .mv 26 (.t 14)),
               (none, .mv 27 (.t 13)),
               (none, .len 28 (.t 27)),
               (none, .bin 29 .lss (.t 26) (.t 28))])
            (.cond (.t 29) (.skip)
             (.exit 0)))
           (.seq (.block 1 (.seq (.seq (.draw [⟨(none, .mv 32 (.t 12)), [], []⟩,
                  ⟨(none, .loadN 33 4 (.t 5)), [], []⟩,
                  ⟨(none, .mv 34 (.t 13)), [], []⟩,
                  ⟨(none, .mv 35 (.t 14)), [], []⟩,
                  ⟨(none, .idxS 36 3 (.t 34) (.t 35)), [], []⟩,
                  ⟨(none, .loadN 37 3 (.t 36)), [], []⟩,
                  ⟨(none, .call (some 38) F.spec_l9Place [(.t 33), (.t 37)]), [], [0]⟩,
                  ⟨(none, .idxS 39 1 (.t 32) (.t 38)), [], []⟩,
                  ⟨(none, .load1 40 (.t 39)), [], []⟩,
                  ⟨(none, .bin 41 .neq (.t 40) (.c (.I (-2)))), [], []⟩])
               (.cond (.t 41) (.seq (.ops [(none, .buildSl 42 0 1 [] []),
                    (none, .mv 10 (.t 42)),
                    (none, .mv 11 (.c (.B false)))])
                 (.ret))
                (.skip)))
              (.draw [⟨(none, .mv 43 (.t 12)), [], []⟩,
                 ⟨(none, .loadN 44 4 (.t 5)), [], []⟩,
                 ⟨(none, .mv 45 (.t 13)), [], []⟩,
                 ⟨(none, .mv 46 (.t 14)), [], []⟩,
                 ⟨(none, .idxS 47 3 (.t 45) (.t 46)), [], []⟩,
                 ⟨(none, .loadN 48 3 (.t 47)), [], []⟩,
                 ⟨(none, .mv 50 (.t 4)), [], []⟩,
                 ⟨(none, .call (some 49) F.spec_l9Place [(.t 44), (.t 48)]), [], [0, 6]⟩,
                 ⟨(none, .idxS 51 1 (.t 43) (.t 49)), [], []⟩,
                 ⟨(none, .store 1 (.t 51) (.t 50)), [], []⟩])))
            (.ops [(none, .mv 30 (.t 14)),
               (none, .bin 31 .add (.t 30) (.c (.I 1))),
               (none, .mv 14 (.t 31))]))))))
       (.seq (.ops [(none, .mv 52 (.t 12)),
           (none, .mv 10 (.t 52)),
           (none, .mv 11 (.c (.B true)))])
        (.ret)))))⟩
end Go.Ab.C

/- That the program has this code. -/
namespace Go.Ab.K
open Go Go.Ab
theorem spec_l9Put : prepF Go.Proofs.Try.prog F.spec_l9Put = some C.spec_l9Put := by kernel_rfl
end Go.Ab.K

/- The abstract code of some functions (written by a program of mine from the translation, by way of prepF). -/
namespace Go.Ab.C
open Go.Ab
def spec_l9Moved : AFn :=
  ⟨2, 43, [.tmp 4],
    .seq (.ops [(none, .box 3 (.t 1)),
       (none, .mv 4 (.c .nil))])
    (.seq (.ops [(none, .buildSl 7 0 3 [] []),
        (none, .mv 5 (.t 7))])
     (.seq (.seq (.ops [(none, .mv 6 (.c (.I 0)))])
       (.block 0 (.loop (.seq (.seq (.ops [(none, .mv 8 (.t 6)),
              (none, .mv 9 (.t 0)),
              (none, .len 10 (.t 9)),
              (none, .bin 11 .lss (.t 8) (.t 10))])
           (.cond (.t 11) (.skip)
            (.exit 0)))
          (.seq (.block 1 (.draw [⟨(none, .mv 14 (.t 5)), [], []⟩,
               ⟨(none, .mv 15 (.t 0)), [], []⟩,
               ⟨(none, .mv 16 (.t 6)), [], []⟩,
               ⟨(none, .idxS 17 3 (.t 15) (.t 16)), [], []⟩,
               ⟨(none, .idxA 18 3 1 (.t 17) (.c (.I 0))), [], []⟩,
               ⟨(none, .load1 19 (.t 18)), [], []⟩,
               ⟨(none, .idxA 20 3 1 (.t 3) (.c (.I 0))), [], []⟩,
               ⟨(none, .load1 21 (.t 20)), [], []⟩,
               ⟨(none, .bin 22 .add (.t 19) (.t 21)), [], []⟩,
               ⟨(none, .mv 23 (.t 0)), [], []⟩,
               ⟨(none, .mv 24 (.t 6)), [], []⟩,
               ⟨(none, .idxS 25 3 (.t 23) (.t 24)), [], []⟩,
               ⟨(none, .idxA 26 3 1 (.t 25) (.c (.I 1))), [], []⟩,
               ⟨(none, .load1 27 (.t 26)), [], []⟩,
               ⟨(none, .idxA 28 3 1 (.t 3) (.c (.I 1))), [], []⟩,
               ⟨(none, .load1 29 (.t 28)), [], []⟩,
               ⟨(none, .bin 30 .add (.t 27) (.t 29)), [], []⟩,
               ⟨(none, .mv 31 (.t 0)), [], []⟩,
               ⟨(none, .mv 32 (.t 6)), [], []⟩,
               ⟨(none, .idxS 33 3 (.t 31) (.t 32)), [], []⟩,
               ⟨(none, .idxA 34 3 1 (.t 33) (.c (.I 2))), [], []⟩,
               ⟨(none, .load1 35 (.t 34)), [], []⟩,
               ⟨(none, .idxA 36 3 1 (.t 3) (.c (.I 2))), [], []⟩,
               ⟨(none, .load1 37 (.t 36)), [], []⟩,
               ⟨(none, .bin 38 .add (.t 35) (.t 37)), [], []⟩,
               ⟨(none, .build 39 [(.I 0), (.I 0), (.I 0)] [(0, 1, (.t 22)), (1, 1, (.t 30)), (2, 1, (.t 38))]), [], []⟩,
               ⟨(none, .buildSl 40 1 3 [(.I 0), (.I 0), (.I 0)] [(0, 3, (.t 39))]), [], []⟩,
               ⟨(none, .append 41 3 24 (.t 14) (.t 40)), [], []⟩,
               ⟨(none, .mv 5 (.t 41)), [], []⟩]))
           (.ops [(none, .mv 12 (.t 6)),
              (none, .bin 13 .add (.t 12) (.c (.I 1))),
              (none, .mv 6 (.t 13))]))))))
      (.seq (.ops [(none, .mv 42 (.t 5)),
          (none, .mv 4 (.t 42))])
       (.ret))))⟩
def spec_l9Place : AFn :=
  ⟨2, 19, [.tmp 4],
    .seq (.ops [(none, .box 2 (.t 0)),
       (none, .box 3 (.t 1)),
       (none, .mv 4 (.c (.I 0)))])
    (.seq (.ops [(none, .idxA 5 3 1 (.t 3) (.c (.I 0))),
        (none, .load1 6 (.t 5)),
        (none, .fieldAddr 7 (.t 2) 1),
        (none, .load1 8 (.t 7)),
        (none, .bin 9 .mul (.t 6) (.t 8)),
        (none, .idxA 10 3 1 (.t 3) (.c (.I 1))),
        (none, .load1 11 (.t 10)),
        (none, .bin 12 .add (.t 9) (.t 11)),
        (none, .fieldAddr 13 (.t 2) 2),
        (none, .load1 14 (.t 13)),
        (none, .bin 15 .mul (.t 12) (.t 14)),
        (none, .idxA 16 3 1 (.t 3) (.c (.I 2))),
        (none, .load1 17 (.t 16)),
        (none, .bin 18 .add (.t 15) (.t 17)),
        (none, .mv 4 (.t 18))])
     (.ret))⟩
def spec_l1Has : AFn :=
  ⟨2, 18, [.tmp 4],
    .seq (.ops [(none, .mv 4 (.c (.B false)))])
    (.seq (.seq (.ops [(none, .mv 5 (.c (.I 0)))])
      (.block 0 (.loop (.seq (.seq (.ops [(none, .mv 6 (.t 5)),
             (none, .mv 7 (.t 0)),
             (none, .len 8 (.t 7)),
             (none, .bin 9 .lss (.t 6) (.t 8))])
          (.cond (.t 9) (.skip)
           (.exit 0)))
         (.seq (.block 1 (.seq (.ops [(none, .mv 12 (.t 0)),
               (none, .mv 13 (.t 5)),
               (none, .idxS 14 1 (.t 12) (.t 13)),
               (none, .load1 15 (.t 14)),
               (none, .mv 16 (.t 1)),
               (none, .bin 17 .eql (.t 15) (.t 16))])
            (.cond (.t 17) (.seq (.ops [(none, .mv 4 (.c (.B true)))])
              (.ret))
             (.skip))))
          (.ops [(none, .mv 10 (.t 5)),
             (none, .bin 11 .add (.t 10) (.c (.I 1))),
             (none, .mv 5 (.t 11))]))))))
     (.seq (.ops [(none, .mv 4 (.c (.B false)))])
      (.ret)))⟩
def spec_l9Fits : AFn :=
  ⟨3, 43, [.tmp 6],
    .seq (.ops [(none, .box 3 (.t 0)),
       (none, .box 5 (.t 2)),
       (none, .mv 6 (.c (.B false)))])
    (.seq (.seq (.ops [(none, .mv 7 (.c (.I 0)))])
      (.block 0 (.loop (.seq (.seq (.ops [(none, .mv 10 (.t 7)),
             (none, .bin 11 .lss (.t 10) (.c (.I 3)))])
          (.cond (.t 11) (.skip)
           (.exit 0)))
         (.seq (.block 1 (.seq (.ops [(none, .mv 14 (.t 7)),
               (none, .idxA 15 3 1 (.t 5) (.t 14)),
               (none, .load1 16 (.t 15)),
               (none, .call (some 17) F.spec_l1In [(.t 16), (.c (.I 0)), (.c (.I 3))]),
               (none, .un 18 .not (.t 17))])
            (.cond (.t 18) (.seq (.ops [(none, .mv 6 (.c (.B false)))])
              (.ret))
             (.skip))))
          (.ops [(none, .mv 12 (.t 7)),
             (none, .bin 13 .add (.t 12) (.c (.I 1))),
             (none, .mv 7 (.t 13))]))))))
     (.seq (.ops [(none, .mv 19 (.t 1)),
         (none, .loadN 20 3 (.t 5)),
         (none, .call (some 21) F.spec_l9Moved [(.t 19), (.t 20)]),
         (none, .mv 8 (.t 21))])
      (.seq (.seq (.ops [(none, .mv 9 (.c (.I 0)))])
        (.block 2 (.loop (.seq (.seq (.ops [(none, .mv 22 (.t 9)),
               (none, .mv 23 (.t 8)),
               (none, .len 24 (.t 23)),
               (none, .bin 25 .lss (.t 22) (.t 24))])
            (.cond (.t 25) (.skip)
             (.exit 2)))
           (.seq (.block 3 (.seq (.draw [⟨(none, .loadN 28 4 (.t 3)), [], []⟩,
                 ⟨(none, .mv 29 (.t 8)), [], []⟩,
                 ⟨(none, .mv 30 (.t 9)), [], []⟩,
                 ⟨(none, .idxS 31 3 (.t 29) (.t 30)), [], []⟩,
                 ⟨(none, .loadN 32 3 (.t 31)), [], []⟩,
                 ⟨(none, .call (some 33) F.spec_l2In [(.t 28), (.t 32)]), [], []⟩,
                 ⟨(none, .un 34 .not (.t 33)), [], []⟩,
                 ⟨(none, .mv 35 (.t 34)), [], []⟩,
                 ⟨(some (35, false), .loadN 36 4 (.t 3)), [], []⟩,
                 ⟨(some (35, false), .mv 37 (.t 8)), [], []⟩,
                 ⟨(some (35, false), .mv 38 (.t 9)), [], []⟩,
                 ⟨(some (35, false), .idxS 39 3 (.t 37) (.t 38)), [], []⟩,
                 ⟨(some (35, false), .loadN 40 3 (.t 39)), [], []⟩,
                 ⟨(some (35, false), .call (some 41) F.spec_l2Has [(.t 36), (.t 40)]), [], []⟩,
                 ⟨(none, .pick 42 (.t 35) (.c (.B true)) (.t 41)), [], []⟩])
              (.cond (.t 42) (.seq (.ops [(none, .mv 6 (.c (.B false)))])
                (.ret))
               (.skip))))
            (.ops [(none, .mv 26 (.t 9)),
               (none, .bin 27 .add (.t 26) (.c (.I 1))),
               (none, .mv 9 (.t 27))]))))))
       (.seq (.ops [(none, .mv 6 (.c (.B true)))])
        (.ret)))))⟩
def spec_l9Start : AFn :=
  ⟨1, 28, [.tmp 2],
    .seq (.ops [(none, .box 1 (.t 0)),
       (none, .mv 2 (.c .nil))])
    (.seq (.ops [(none, .buildSl 6 0 1 [] []),
        (none, .mv 3 (.t 6))])
     (.seq (.ops [(none, .loadN 7 4 (.t 1)),
         (none, .call (some 8) F.spec_l2All [(.t 7)]),
         (none, .mv 4 (.t 8))])
      (.seq (.seq (.ops [(none, .mv 5 (.c (.I 0)))])
        (.block 0 (.loop (.seq (.seq (.ops [(none, .mv 9 (.t 5)),
               (none, .mv 10 (.t 4)),
               (none, .len 11 (.t 10)),
               (none, .bin 12 .lss (.t 9) (.t 11))])
            (.cond (.t 12) (.skip)
             (.exit 0)))
           (.seq (.block 1 (.seq (.draw [⟨(none, .loadN 15 4 (.t 1)), [], []⟩,
                 ⟨(none, .mv 16 (.t 4)), [], []⟩,
                 ⟨(none, .mv 17 (.t 5)), [], []⟩,
                 ⟨(none, .idxS 18 3 (.t 16) (.t 17)), [], []⟩,
                 ⟨(none, .loadN 19 3 (.t 18)), [], []⟩,
                 ⟨(none, .call (some 20) F.spec_l2Has [(.t 15), (.t 19)]), [], []⟩])
              (.cond (.t 20) (.ops [(none, .mv 21 (.t 3)),
                  (none, .buildSl 22 1 1 [(.I 0)] [(0, 1, (.c (.I (-1))))]),
                  (none, .append 23 1 8 (.t 21) (.t 22)),
                  (none, .mv 3 (.t 23))])
               (.ops [(none, .mv 24 (.t 3)),
                  (none, .buildSl 25 1 1 [(.I 0)] [(0, 1, (.c (.I (-2))))]),
                  (none, .append 26 1 8 (.t 24) (.t 25)),
                  (none, .mv 3 (.t 26))]))))
            (.ops [(none, .mv 13 (.t 5)),
               (none, .bin 14 .add (.t 13) (.c (.I 1))),
               (none, .mv 5 (.t 14))]))))))
       (.seq (.ops [(none, .mv 27 (.t 3)),
           (none, .mv 2 (.t 27))])
        (.ret)))))⟩
end Go.Ab.C

/- That the program has this code. -/
namespace Go.Ab.K
open Go Go.Ab
theorem spec_l9Moved : prepF Go.Proofs.Try.prog F.spec_l9Moved = some C.spec_l9Moved := by kernel_rfl
theorem spec_l9Place : prepF Go.Proofs.Try.prog F.spec_l9Place = some C.spec_l9Place := by kernel_rfl
theorem spec_l1Has : prepF Go.Proofs.Try.prog F.spec_l1Has = some C.spec_l1Has := by kernel_rfl
theorem spec_l9Fits : prepF Go.Proofs.Try.prog F.spec_l9Fits = some C.spec_l9Fits := by kernel_rfl
theorem spec_l9Start : prepF Go.Proofs.Try.prog F.spec_l9Start = some C.spec_l9Start := by kernel_rfl
end Go.Ab.K

/- The abstract code of some functions (written by a program of mine from the translation, by way of prepF). -/
namespace Go.Ab.C
open Go.Ab
end Go.Ab.C

/- That the program has this code. -/
namespace Go.Ab.K
open Go Go.Ab
end Go.Ab.K

/- The abstract code of some functions (written by a program of mine from the translation, by way of prepF). -/
namespace Go.Ab.C
open Go.Ab
end Go.Ab.C

/- That the program has this code. -/
namespace Go.Ab.K
open Go Go.Ab
end Go.Ab.K

/- The abstract code of some functions (written by a program of mine from the translation, by way of prepF). -/
namespace Go.Ab.C
open Go.Ab
end Go.Ab.C

/- That the program has this code. -/
namespace Go.Ab.K
open Go Go.Ab
end Go.Ab.K

/- Contracts: the laws' helpers on lists of pairs of numbers. -/
namespace Go.Ab
open Go
set_option linter.unusedSimpArgs false
set_option linter.unusedVariables false
set_option maxRecDepth 20000

/-- A list of n pairs, number by number, that is one's own. -/
def SlF (N : Mem) (v : LV) (n : Nat) (Z : List Int) : Prop := Z.length = n * 2 ∧ ((v = .nil ∧ n = 0) ∨ ∃ t, v = .ref t 0 n ∧ Live N t (.row (intL Z) true 2))
theorem SlF.pre {M N : Mem} {v : LV} {n : Nat} {Z : List Int} (h : SlF M v n Z) (hp : Pre M N) : SlF N v n Z := by
  obtain ⟨h0, h | ⟨t, h1, h2⟩⟩ := h
  · exact ⟨h0, .inl h⟩
  · exact ⟨h0, .inr ⟨t, h1, h2.pre hp⟩⟩
theorem SlF.lenV {N : Mem} {v : LV} {n : Nat} {Z : List Int} (h : SlF N v n Z) : lenV v = some (n : Int) := by
  obtain ⟨h0, ⟨rfl, rfl⟩ | ⟨t, rfl, h2⟩⟩ := h <;> rfl
theorem SlF.older {M : Mem} {v : LV} {n : Nat} {Z : List Int} (h : SlF M v n Z) : Older M v := fun t o m e => by
  obtain ⟨h0, ⟨rfl, rfl⟩ | ⟨t', rfl, h2⟩⟩ := h
  · cases e
  · cases e; exact h2.lt
theorem SlF.at {M N : Mem} {w : LV} {n : Nat} {Z : List Int} (h : SlF M w n Z) (hk : ∀ t o m, w = .ref t o m → N[t]? = M[t]?) : SlF N w n Z := by
  obtain ⟨h0, h | ⟨t, h1, h2⟩⟩ := h
  · exact ⟨h0, .inl h⟩
  · refine ⟨h0, .inr ⟨t, h1, ?_⟩⟩
    unfold Live; rw [hk _ _ _ h1]; exact h2
end Go.Ab

/- The abstract code of some functions (written by a program of mine from the translation, by way of prepF). -/
namespace Go.Ab.C
open Go.Ab
def spec_l9Cells : AFn :=
  ⟨1, 19, [.tmp 2],
    .seq (.ops [(none, .mv 2 (.c (.I 0)))])
    (.seq (.ops [(none, .mv 3 (.c (.I 0)))])
     (.seq (.seq (.ops [(none, .mv 4 (.c (.I 0)))])
       (.block 0 (.loop (.seq (.seq (.ops [(none, .mv 5 (.t 4)),
              (none, .mv 6 (.t 0)),
              (none, .len 7 (.t 6)),
              (none, .bin 8 .lss (.t 5) (.t 7))])
           (.cond (.t 8) (.skip)
            (.exit 0)))
          (.seq (.block 1 (.ops [(none, .mv 11 (.t 3)),
               (none, .mv 12 (.t 0)),
               (none, .mv 13 (.t 4)),
               (none, .idxS 14 1 (.t 12) (.t 13)),
               (none, .load1 15 (.t 14)),
               (none, .len 16 (.t 15)),
               (none, .bin 17 .add (.t 11) (.t 16)),
               (none, .mv 3 (.t 17))]))
           (.ops [(none, .mv 9 (.t 4)),
              (none, .bin 10 .add (.t 9) (.c (.I 1))),
              (none, .mv 4 (.t 10))]))))))
      (.seq (.ops [(none, .mv 18 (.t 3)),
          (none, .mv 2 (.t 18))])
       (.ret))))⟩
end Go.Ab.C

/- That the program has this code. -/
namespace Go.Ab.K
open Go Go.Ab
theorem spec_l9Cells : prepF Go.Proofs.Try.prog F.spec_l9Cells = some C.spec_l9Cells := by kernel_rfl
end Go.Ab.K

/- The abstract code of some functions (written by a program of mine from the translation, by way of prepF). -/
namespace Go.Ab.C
open Go.Ab
def impl_box_placed : AFn :=
  ⟨4, 46, [.tmp 8, .tmp 9],
    .seq (.ops [(none, .box 4 (.t 0)),
       (none, .box 7 (.t 3)),
       (none, .mv 8 (.c (.U 0))),
       (none, .mv 9 (.c (.B false)))])
    (.seq (.ops [(none, .mv 10 (.c (.U 0)))])
     (.seq (.seq (.ops [(none, .slA 14 3 1 (.t 7) none none),
          (none, .call (some 15) F.impl_allWithin [(.t 14), (.c (.I 0)), (.c (.I 4))]),
          (none, .un 16 .not (.t 15))])
       (.cond (.t 16) (.seq (.ops [(none, .mv 8 (.c (.U 0))),
            (none, .mv 9 (.c (.B false)))])
         (.ret))
        (.skip)))
      (.seq (.seq (.ops [(none, .mv 17 (.t 2)),
           (none, .len 18 (.t 17)),
           (none, .mv 19 (.c (.I 0)))])
        (.block 0 (.loop (.seq (.ops [(none, .bin 20 .lss (.t 19) (.t 18))])
           (.seq (.cond (.t 20) (.skip)
             (.exit 0))
            (.seq (.block 1 (.seq (.ops [(none, .idxS 21 3 (.t 17) (.t 19)),
                  (none, .loadN 22 3 (.t 21)),
                  (none, .alloc 12 [(.I 0), (.I 0), (.I 0)]),
                  (none, .store 3 (.t 12) (.t 22))])
               (.seq (.ops [(none, .loadN 23 3 (.t 12)),
                   (none, .loadN 24 3 (.t 7)),
                   (none, .call (some 25) F.impl_added [(.t 23), (.t 24)]),
                   (none, .alloc 13 [(.I 0), (.I 0), (.I 0)]),
                   (none, .store 3 (.t 13) (.t 25))])
                (.seq (.seq (.ops [(none, .loadN 26 3 (.t 4)),
                     (none, .loadN 27 3 (.t 13)),
                     (none, .call (some 28) F.impl_box_has [(.t 26), (.t 27)]),
                     (none, .un 29 .not (.t 28)),
                     (none, .mv 30 (.t 29)),
                     (some (30, false), .mv 31 (.t 1)),
                     (some (30, false), .loadN 32 3 (.t 4)),
                     (some (30, false), .loadN 33 3 (.t 13)),
                     (some (30, false), .call (some 34) F.impl_box_index [(.t 32), (.t 33)]),
                     (some (30, false), .call (some 35) F.impl_set_has [(.t 31), (.t 34)]),
                     (some (30, false), .un 36 .not (.t 35)),
                     (none, .pick 37 (.t 30) (.c (.B true)) (.t 36))])
                  (.cond (.t 37) (.seq (.ops [(none, .mv 8 (.c (.U 0))),
                       (none, .mv 9 (.c (.B false)))])
                    (.ret))
                   (.skip)))
                 (.ops [(none, .mv 38 (.t 10)),
                    (none, .loadN 39 3 (.t 4)),
                    (none, .loadN 40 3 (.t 13)),
                    (none, .call (some 41) F.impl_box_index [(.t 39), (.t 40)]),
                    (none, .bin 42 .shl (.c (.U 1)) (.t 41)),
                    (none, .bin 43 .or (.t 38) (.t 42)),
                    (none, .mv 10 (.t 43))])))))
             (.ops [(none, .bin 44 .add (.t 19) (.c (.I 1))),
                (none, .mv 19 (.t 44))])))))))
       (.seq (.ops [(none, .mv 45 (.t 10)),
           (none, .mv 8 (.t 45)),
           (none, .mv 9 (.c (.B true)))])
        (.ret)))))⟩
end Go.Ab.C

/- That the program has this code. -/
namespace Go.Ab.K
open Go Go.Ab
theorem impl_box_placed : prepF Go.Proofs.Try.prog F.impl_box_placed = some C.impl_box_placed := by kernel_rfl
end Go.Ab.K

/- The abstract code of some functions (written by a program of mine from the translation, by way of prepF). -/
namespace Go.Ab.C
open Go.Ab
def impl_Heap_free : AFn :=
  ⟨1, 9, [.tmp 2],
    .seq (.ops [(none, .box 1 (.t 0)),
       (none, .mv 2 (.c (.U 0)))])
    (.seq (.draw [⟨(none, .loadN 3 4 (.t 1)), [], []⟩,
        ⟨(none, .loadN 6 4 (.t 1)), [], []⟩,
        ⟨(none, .call (some 4) F.impl_Heap_box [(.t 3)]), [], [1]⟩,
        ⟨(none, .call (some 5) F.impl_box_full [(.t 4)]), [], [1]⟩,
        ⟨(none, .call (some 7) F.impl_Heap_cubes [(.t 6)]), [], []⟩,
        ⟨(none, .bin 8 .andNot (.t 5) (.t 7)), [], []⟩,
        ⟨(none, .mv 2 (.t 8)), [], []⟩])
     (.ret))⟩
end Go.Ab.C

/- That the program has this code. -/
namespace Go.Ab.K
open Go Go.Ab
theorem impl_Heap_free : prepF Go.Proofs.Try.prog F.impl_Heap_free = some C.impl_Heap_free := by kernel_rfl
end Go.Ab.K

/- The abstract code of some functions (written by a program of mine from the translation, by way of prepF). -/
namespace Go.Ab.C
open Go.Ab
def impl_isPacked : AFn :=
  ⟨2, 12, [.tmp 4],
    .seq (.ops [(none, .box 2 (.t 0)),
       (none, .mv 4 (.c (.B false)))])
    (.seq (.ops [(none, .loadN 5 4 (.t 2)),
        (none, .call (some 6) F.impl_IsHeap [(.t 5)]),
        (none, .mv 7 (.t 6)),
        (some (7, true), .mv 8 (.t 1)),
        (some (7, true), .call (some 9) F.slices_ContainsFunc_SSA3int_SA3int [(.t 8), (.c (.clo F.impl_isPacked_1 []))]),
        (some (7, true), .un 10 .not (.t 9)),
        (none, .pick 11 (.t 7) (.t 10) (.c (.B false))),
        (none, .mv 4 (.t 11))])
     (.ret))⟩
def impl_isPacked_1 : AFn :=
  ⟨1, 6, [.tmp 2],
    .seq (.ops [(none, .mv 2 (.c (.B false)))])
    (.seq (.ops [(none, .mv 3 (.t 0)),
        (none, .call (some 4) F.impl_IsPiece [(.t 3)]),
        (none, .un 5 .not (.t 4)),
        (none, .mv 2 (.t 5))])
     (.ret))⟩
def impl_arePacked : AFn :=
  ⟨2, 13, [.tmp 4],
    .seq (.ops [(none, .box 2 (.t 0)),
       (none, .mv 4 (.c (.B false)))])
    (.seq (.ops [(none, .loadN 5 4 (.t 2)),
        (none, .mv 6 (.t 1)),
        (none, .call (some 7) F.impl_isPacked [(.t 5), (.t 6)]),
        (none, .mv 8 (.t 7)),
        (some (8, true), .mv 9 (.t 1)),
        (some (8, true), .len 10 (.t 9)),
        (some (8, true), .bin 11 .leq (.t 10) (.c (.I 8))),
        (none, .pick 12 (.t 8) (.t 11) (.c (.B false))),
        (none, .mv 4 (.t 12))])
     (.ret))⟩
def slices_ContainsFunc_SSA3int_SA3int : AFn :=
  ⟨2, 9, [.tmp 4],
    .seq (.ops [(none, .mv 4 (.c (.B false)))])
    (.seq (.ops [(none, .mv 5 (.t 0)),
        (none, .mv 6 (.t 1)),
        (none, .call (some 7) F.slices_IndexFunc_SSA3int_SA3int [(.t 5), (.t 6)]),
        (none, .bin 8 .geq (.t 7) (.c (.I 0))),
        (none, .mv 4 (.t 8))])
     (.ret))⟩
def slices_IndexFunc_SSA3int_SA3int : AFn :=
  ⟨2, 19, [.tmp 4],
    .seq (.ops [(none, .mv 4 (.c (.I 0)))])
    (.seq (.seq (.ops [(none, .mv 6 (.t 0)),
         (none, .len 7 (.t 6)),
         (none, .mv 8 (.c (.I 0)))])
      (.block 0 (.loop (.seq (.ops [(none, .bin 9 .lss (.t 8) (.t 7))])
         (.seq (.cond (.t 9) (.skip)
           (.exit 0))
          (.seq (.block 1 (.seq (.ops [(none, .mv 10 (.t 8)),
                (none, .mv 5 (.t 10))])
             (.seq (.ops [(none, .mv 11 (.t 1)),
                 (none, .mv 12 (.t 0)),
                 (none, .mv 13 (.t 5)),
                 (none, .idxS 14 1 (.t 12) (.t 13)),
                 (none, .load1 15 (.t 14)),
                 (none, .callV (some 16) (.t 11) [(.t 15)])])
              (.cond (.t 16) (.seq (.ops [(none, .mv 17 (.t 5)),
                   (none, .mv 4 (.t 17))])
                (.ret))
               (.skip)))))
           (.ops [(none, .bin 18 .add (.t 8) (.c (.I 1))),
              (none, .mv 8 (.t 18))])))))))
     (.seq (.ops [(none, .mv 4 (.c (.I (-1))))])
      (.ret)))⟩
def spec_l9Ask : AFn :=
  ⟨2, 25, [.tmp 4],
    .seq (.ops [(none, .box 2 (.t 0)),
       (none, .mv 4 (.c (.B false)))])
    (.seq (.seq (.ops [(none, .mv 5 (.c (.I 0)))])
      (.block 0 (.loop (.seq (.seq (.ops [(none, .mv 6 (.t 5)),
             (none, .mv 7 (.t 1)),
             (none, .len 8 (.t 7)),
             (none, .bin 9 .lss (.t 6) (.t 8))])
          (.cond (.t 9) (.skip)
           (.exit 0)))
         (.seq (.block 1 (.seq (.ops [(none, .mv 12 (.t 1)),
               (none, .mv 13 (.t 5)),
               (none, .idxS 14 1 (.t 12) (.t 13)),
               (none, .load1 15 (.t 14)),
               (none, .call (some 16) F.spec_l9Piece [(.t 15)]),
               (none, .un 17 .not (.t 16))])
            (.cond (.t 17) (.seq (.ops [(none, .mv 4 (.c (.B false)))])
              (.ret))
             (.skip))))
          (.ops [(none, .mv 10 (.t 5)),
             (none, .bin 11 .add (.t 10) (.c (.I 1))),
             (none, .mv 5 (.t 11))]))))))
     (.seq (.ops [(none, .loadN 18 4 (.t 2)),
         (none, .call (some 19) F.spec_l2Heap [(.t 18)]),
         (none, .mv 20 (.t 19)),
         (some (20, true), .mv 21 (.t 1)),
         (some (20, true), .len 22 (.t 21)),
         (some (20, true), .bin 23 .leq (.t 22) (.c (.I 8))),
         (none, .pick 24 (.t 20) (.t 23) (.c (.B false))),
         (none, .mv 4 (.t 24))])
      (.ret)))⟩
end Go.Ab.C

/- That the program has this code. -/
namespace Go.Ab.K
open Go Go.Ab
theorem impl_isPacked : prepF Go.Proofs.Try.prog F.impl_isPacked = some C.impl_isPacked := by kernel_rfl
theorem impl_isPacked_1 : prepF Go.Proofs.Try.prog F.impl_isPacked_1 = some C.impl_isPacked_1 := by kernel_rfl
theorem impl_arePacked : prepF Go.Proofs.Try.prog F.impl_arePacked = some C.impl_arePacked := by kernel_rfl
theorem slices_ContainsFunc_SSA3int_SA3int : prepF Go.Proofs.Try.prog F.slices_ContainsFunc_SSA3int_SA3int = some C.slices_ContainsFunc_SSA3int_SA3int := by kernel_rfl
theorem slices_IndexFunc_SSA3int_SA3int : prepF Go.Proofs.Try.prog F.slices_IndexFunc_SSA3int_SA3int = some C.slices_IndexFunc_SSA3int_SA3int := by kernel_rfl
theorem spec_l9Ask : prepF Go.Proofs.Try.prog F.spec_l9Ask = some C.spec_l9Ask := by kernel_rfl
end Go.Ab.K

/- The abstract code of some functions (written by a program of mine from the translation, by way of prepF). -/
namespace Go.Ab.C
open Go.Ab
def spec_l9Piece : AFn :=
  ⟨1, 59, [.tmp 2],
    .seq (.ops [(none, .mv 2 (.c (.B false)))])
    (.seq (.seq (.ops [(none, .mv 6 (.t 0)),
         (none, .len 7 (.t 6)),
         (none, .call (some 8) F.spec_l1In [(.t 7), (.c (.I 1)), (.c (.I 5))]),
         (none, .un 9 .not (.t 8))])
      (.cond (.t 9) (.seq (.ops [(none, .mv 2 (.c (.B false)))])
        (.ret))
       (.skip)))
     (.seq (.ops [(none, .build 10 [(.I 0), (.I 0), (.I 0)] [(0, 1, (.c (.I 4))), (1, 1, (.c (.I 4))), (2, 1, (.c (.I 4)))]),
         (none, .alloc 3 [(.I 0), (.I 0), (.I 0)]),
         (none, .store 3 (.t 3) (.t 10))])
      (.seq (.seq (.ops [(none, .mv 4 (.c (.I 0)))])
        (.block 0 (.loop (.seq (.seq (.ops [(none, .mv 11 (.t 4)),
               (none, .mv 12 (.t 0)),
               (none, .len 13 (.t 12)),
               (none, .bin 14 .lss (.t 11) (.t 13))])
            (.cond (.t 14) (.skip)
             (.exit 0)))
           (.seq (.block 1 (.seq (.seq (.ops [(none, .mv 5 (.c (.I 0)))])
               (.block 2 (.loop (.seq (.seq (.ops [(none, .mv 17 (.t 5)),
                      (none, .bin 18 .lss (.t 17) (.c (.I 3)))])
                   (.cond (.t 18) (.skip)
                    (.exit 2)))
                  (.seq (.block 3 (.seq (.seq (.ops [(none, .mv 21 (.t 0)),
                         (none, .mv 22 (.t 4)),
                         (none, .mv 23 (.t 5)),
                         (none, .idxS 24 3 (.t 21) (.t 22)),
                         (none, .idxA 25 3 1 (.t 24) (.t 23)),
                         (none, .load1 26 (.t 25)),
                         (none, .call (some 27) F.spec_l1In [(.t 26), (.c (.I 0)), (.c (.I 3))]),
                         (none, .un 28 .not (.t 27))])
                      (.cond (.t 28) (.seq (.ops [(none, .mv 2 (.c (.B false)))])
                        (.ret))
                       (.skip)))
                     (.draw [⟨(none, .mv 29 (.t 5)), [], []⟩,
                        ⟨(none, .mv 30 (.t 5)), [], []⟩,
                        ⟨(none, .idxA 31 3 1 (.t 3) (.t 30)), [], []⟩,
                        ⟨(none, .load1 32 (.t 31)), [], []⟩,
                        ⟨(none, .mv 33 (.t 0)), [], []⟩,
                        ⟨(none, .mv 34 (.t 4)), [], []⟩,
                        ⟨(none, .mv 35 (.t 5)), [], []⟩,
                        ⟨(none, .idxS 36 3 (.t 33) (.t 34)), [], []⟩,
                        ⟨(none, .idxA 37 3 1 (.t 36) (.t 35)), [], []⟩,
                        ⟨(none, .load1 38 (.t 37)), [], []⟩,
                        ⟨(none, .call (some 39) F.spec_l1Least [(.t 32), (.t 38)]), [], [0]⟩,
                        ⟨(none, .idxA 40 3 1 (.t 3) (.t 29)), [], []⟩,
                        ⟨(none, .store 1 (.t 40) (.t 39)), [], []⟩])))
                   (.ops [(none, .mv 19 (.t 5)),
                      (none, .bin 20 .add (.t 19) (.c (.I 1))),
                      (none, .mv 5 (.t 20))]))))))
              (.seq (.draw [⟨(none, .mv 41 (.t 4)), [], []⟩,
                  ⟨(none, .bin 42 .gtr (.t 41) (.c (.I 0))), [], []⟩,
                  ⟨(none, .mv 43 (.t 42)), [], []⟩,
                  ⟨(some (43, true), .mv 44 (.t 0)), [], []⟩,
                  ⟨(some (43, true), .mv 45 (.t 4)), [], []⟩,
                  ⟨(some (43, true), .bin 46 .sub (.t 45) (.c (.I 1))), [], []⟩,
                  ⟨(some (43, true), .idxS 47 3 (.t 44) (.t 46)), [], []⟩,
                  ⟨(some (43, true), .loadN 48 3 (.t 47)), [], []⟩,
                  ⟨(some (43, true), .mv 49 (.t 0)), [], []⟩,
                  ⟨(some (43, true), .mv 50 (.t 4)), [], []⟩,
                  ⟨(some (43, true), .idxS 51 3 (.t 49) (.t 50)), [], []⟩,
                  ⟨(some (43, true), .loadN 52 3 (.t 51)), [], []⟩,
                  ⟨(some (43, true), .call (some 53) F.spec_l2Before [(.t 48), (.t 52)]), [], []⟩,
                  ⟨(some (43, true), .un 54 .not (.t 53)), [], []⟩,
                  ⟨(none, .pick 55 (.t 43) (.t 54) (.c (.B false))), [], []⟩])
               (.cond (.t 55) (.seq (.ops [(none, .mv 2 (.c (.B false)))])
                 (.ret))
                (.skip)))))
            (.ops [(none, .mv 15 (.t 4)),
               (none, .bin 16 .add (.t 15) (.c (.I 1))),
               (none, .mv 4 (.t 16))]))))))
       (.seq (.ops [(none, .loadN 56 3 (.t 3)),
           (none, .build 57 [(.I 0), (.I 0), (.I 0)] []),
           (none, .eqs 58 false 3 (.t 56) (.t 57)),
           (none, .mv 2 (.t 58))])
        (.ret)))))⟩
def impl_IsPiece : AFn :=
  ⟨1, 57, [.tmp 2],
    .seq (.ops [(none, .mv 2 (.c (.B false)))])
    (.seq (.seq (.ops [(none, .mv 6 (.t 0)),
         (none, .len 7 (.t 6)),
         (none, .call (some 8) F.impl_within [(.t 7), (.c (.I 1)), (.c (.I 5))]),
         (none, .un 9 .not (.t 8))])
      (.cond (.t 9) (.seq (.ops [(none, .mv 2 (.c (.B false)))])
        (.ret))
       (.skip)))
     (.seq (.ops [(none, .mv 10 (.t 0)),
         (none, .idxS 11 3 (.t 10) (.c (.I 0))),
         (none, .loadN 12 3 (.t 11)),
         (none, .alloc 3 [(.I 0), (.I 0), (.I 0)]),
         (none, .store 3 (.t 3) (.t 12))])
      (.seq (.seq (.ops [(none, .mv 13 (.t 0)),
           (none, .len 14 (.t 13)),
           (none, .mv 15 (.c (.I 0)))])
        (.block 0 (.loop (.seq (.ops [(none, .bin 16 .lss (.t 15) (.t 14))])
           (.seq (.cond (.t 16) (.skip)
             (.exit 0))
            (.seq (.block 1 (.seq (.ops [(none, .mv 17 (.t 15)),
                  (none, .idxS 18 3 (.t 13) (.t 15)),
                  (none, .loadN 19 3 (.t 18)),
                  (none, .alloc 5 [(.I 0), (.I 0), (.I 0)]),
                  (none, .mv 4 (.t 17)),
                  (none, .store 3 (.t 5) (.t 19))])
               (.seq (.seq (.draw [⟨(none, .slA 20 3 1 (.t 5) none none), [], []⟩,
                    ⟨(none, .call (some 21) F.impl_allWithin [(.t 20), (.c (.I 0)), (.c (.I 3))]), [], []⟩,
                    ⟨(none, .un 22 .not (.t 21)), [], []⟩,
                    ⟨(none, .mv 23 (.t 22)), [], []⟩,
                    ⟨(some (23, false), .mv 24 (.t 4)), [], []⟩,
                    ⟨(some (23, false), .bin 25 .gtr (.t 24) (.c (.I 0))), [], []⟩,
                    ⟨(some (23, false), .mv 26 (.t 25)), [], []⟩,
                    ⟨(some (26, true), .mv 27 (.t 0)), [], []⟩,
                    ⟨(some (26, true), .mv 28 (.t 4)), [], []⟩,
                    ⟨(some (26, true), .bin 29 .sub (.t 28) (.c (.I 1))), [], []⟩,
                    ⟨(some (26, true), .idxS 30 3 (.t 27) (.t 29)), [], []⟩,
                    ⟨(some (26, true), .loadN 31 3 (.t 30)), [], []⟩,
                    ⟨(some (26, true), .loadN 32 3 (.t 5)), [], []⟩,
                    ⟨(some (26, true), .call (some 33) F.impl_compareCells [(.t 31), (.t 32)]), [], []⟩,
                    ⟨(some (26, true), .bin 34 .geq (.t 33) (.c (.I 0))), [], []⟩,
                    ⟨(some (23, false), .pick 35 (.t 26) (.t 34) (.c (.B false))), [], []⟩,
                    ⟨(none, .pick 36 (.t 23) (.c (.B true)) (.t 35)), [], []⟩])
                 (.cond (.t 36) (.seq (.ops [(none, .mv 2 (.c (.B false)))])
                   (.ret))
                  (.skip)))
                (.ops [(none, .idxA 37 3 1 (.t 3) (.c (.I 0))),
                   (none, .load1 38 (.t 37)),
                   (none, .idxA 39 3 1 (.t 5) (.c (.I 0))),
                   (none, .load1 40 (.t 39)),
                   (none, .mm 41 false [(.t 38), (.t 40)]),
                   (none, .idxA 42 3 1 (.t 3) (.c (.I 1))),
                   (none, .load1 43 (.t 42)),
                   (none, .idxA 44 3 1 (.t 5) (.c (.I 1))),
                   (none, .load1 45 (.t 44)),
                   (none, .mm 46 false [(.t 43), (.t 45)]),
                   (none, .idxA 47 3 1 (.t 3) (.c (.I 2))),
                   (none, .load1 48 (.t 47)),
                   (none, .idxA 49 3 1 (.t 5) (.c (.I 2))),
                   (none, .load1 50 (.t 49)),
                   (none, .mm 51 false [(.t 48), (.t 50)]),
                   (none, .build 52 [(.I 0), (.I 0), (.I 0)] [(0, 1, (.t 41)), (1, 1, (.t 46)), (2, 1, (.t 51))]),
                   (none, .store 3 (.t 3) (.t 52))]))))
             (.ops [(none, .bin 53 .add (.t 15) (.c (.I 1))),
                (none, .mv 15 (.t 53))])))))))
       (.seq (.ops [(none, .loadN 54 3 (.t 3)),
           (none, .build 55 [(.I 0), (.I 0), (.I 0)] []),
           (none, .eqs 56 false 3 (.t 54) (.t 55)),
           (none, .mv 2 (.t 56))])
        (.ret)))))⟩
end Go.Ab.C

/- That the program has this code. -/
namespace Go.Ab.K
open Go Go.Ab
theorem spec_l9Piece : prepF Go.Proofs.Try.prog F.spec_l9Piece = some C.spec_l9Piece := by kernel_rfl
theorem impl_IsPiece : prepF Go.Proofs.Try.prog F.impl_IsPiece = some C.impl_IsPiece := by kernel_rfl
end Go.Ab.K

/- The abstract code of some functions (written by a program of mine from the translation, by way of prepF). -/
namespace Go.Ab.C
open Go.Ab
end Go.Ab.C

/- That the program has this code. -/
namespace Go.Ab.K
open Go Go.Ab
end Go.Ab.K

/- The abstract code of some functions (written by a program of mine from the translation, by way of prepF). -/
namespace Go.Ab.C
open Go.Ab
end Go.Ab.C

/- That the program has this code. -/
namespace Go.Ab.K
open Go Go.Ab
end Go.Ab.K

/- What laws are told of heaps as results. -/
namespace Go.Ab
open Go

structure Hp where
  x : Int
  y : Int
  z : Int
  cs : List Cell
def Hp.none : Hp := ⟨0, 0, 0, []⟩
abbrev Hp.row (r : Hp) (w : LV) : Blk := .row [.I r.x, .I r.y, .I r.z, w] true 0
/-- A heap, or the one of all zeros, what else there is, and whether there is one. -/
def HeapRes (M : Mem) (r : Option Hp) (ext : List LV) (v : LV) (N : Mem) : Prop :=
  ∃ w, v = .tup (.agg [.I (r.getD Hp.none).x, .I (r.getD Hp.none).y, .I (r.getD Hp.none).z, w] :: (ext ++ [.B r.isSome])) ∧ SlC N w (r.getD Hp.none).cs ∧ Newer M w ∧ Pre M N
theorem Older.off {M : Mem} {v : LV} {u : Nat} (h : Older M v) (hu : M.length ≤ u) : Off v u := by
  cases v with
  | ref t o n => have := h t o n rfl; show u ≠ t; omega
  | _ => trivial
end Go.Ab

/- Plain words: the 24 turns of a box. -/
namespace Go.Ab
open Go

def Cell.at (c : Cell) (d : Int) : Int := if d = 0 then c.a else if d = 1 then c.b else c.c
def Dir (d : Int) : Prop := d = 0 ∨ d = 1 ∨ d = 2
/-- How many pairs are out of order, modulo 2. -/
def oddOf (c : Cell) : Int := ((if c.a > c.b then 1 else 0) + (if c.a > c.c then 1 else 0) + (if c.b > c.c then 1 else 0)) % 2
structure Turn where
  fr : Cell
  fl : Cell
deriving DecidableEq
def Turn.row (t : Turn) : List LV := t.fr.row ++ t.fl.row
def sixL (l : List Turn) : List LV := l.flatMap Turn.row
/-- The turn that the n-th attempt finds. -/
def turnAt (n : Nat) : Option Turn :=
  if n / 24 ≠ n / 8 % 3 ∧ oddOf ⟨n / 24, n / 8 % 3, 3 - n / 24 - n / 8 % 3⟩ = (n % 8 / 4 + n % 8 / 2 % 2 + n % 8 % 2) % 2 then
    some ⟨⟨n / 24, n / 8 % 3, 3 - n / 24 - n / 8 % 3⟩, ⟨n % 8 / 4, n % 8 / 2 % 2, n % 8 % 2⟩⟩ else none
def turnsU (n : Nat) : List Turn := (List.range n).filterMap turnAt
def turns : List Turn := turnsU 72
theorem sixL_len (l : List Turn) : (sixL l).length = l.length * 6 := by
  induction l with
  | nil => rfl
  | cons t l ih => rw [show sixL (t :: l) = t.row ++ sixL l from rfl, List.length_append, ih, List.length_cons]; simp [Turn.row, Cell.row]; omega
theorem sixL_at {l : List Turn} : ∀ {k : Nat}, (hk : k < l.length) → ((sixL l).drop (k * 6)).take 6 = l[k].row := by
  induction l with
  | nil => intro k hk; simp at hk
  | cons t l ih =>
    intro k hk
    have e : sixL (t :: l) = t.row ++ sixL l := rfl
    have hr : t.row.length = 6 := rfl
    cases k with
    | zero => rw [e, Nat.zero_mul, List.drop_zero, List.take_append_of_le_length (by omega), List.take_of_length_le (by omega)]; rfl
    | succ k =>
      rw [e, List.drop_append, List.drop_eq_nil_of_le (by omega), List.nil_append, hr, show (k + 1) * 6 - 6 = k * 6 by omega, ih (by simpa using hk)]
      rfl

def sideOf (x y z d : Int) : Int := if d = 0 then x else if d = 1 then y else z
/-- A coordinate of a cell behind a turn: taken from direction s, mirrored or not. -/
def turnC (x y z : Int) (c : Cell) (s f : Int) : Int := if f = 1 then sideOf x y z s - 1 - c.at s else c.at s
def mapT (x y z : Int) (t : Turn) (c : Cell) : Cell := ⟨turnC x y z c t.fr.a t.fl.a, turnC x y z c t.fr.b t.fl.b, turnC x y z c t.fr.c t.fl.c⟩
/-- The three directions, in any order. -/
def OkT (t : Turn) : Prop := Dir t.fr.a ∧ Dir t.fr.b ∧ Dir t.fr.c
instance (d : Int) : Decidable (Dir d) := by unfold Dir; exact inferInstance
instance (t : Turn) : Decidable (OkT t) := by unfold OkT; exact inferInstance
def turnHp (x y z : Int) (t : Turn) (cs : List Cell) : Hp := ⟨sideOf x y z t.fr.a, sideOf x y z t.fr.b, sideOf x y z t.fr.c, pick (sideOf x y z t.fr.a) (sideOf x y z t.fr.b) (sideOf x y z t.fr.c) fun d => decide (d ∈ cs.map (mapT x y z t))⟩
section
variable {x y z : Int}
end
end Go.Ab

/- Contracts: the reference's turns. -/
namespace Go.Ab
open Go
set_option linter.unusedSimpArgs false
set_option linter.unusedVariables false

/-- How many pairs are out of order whose greater place is before i, or i with the other one before k. -/
def oddK (c : Cell) (i k : Nat) : Int := (if (1 < i ∨ (i = 1 ∧ 0 < k)) ∧ c.a > c.b then 1 else 0) + (if (2 < i ∨ (i = 2 ∧ 0 < k)) ∧ c.a > c.c then 1 else 0) + (if (2 < i ∨ (i = 2 ∧ 1 < k)) ∧ c.b > c.c then 1 else 0)
end Go.Ab

/- Contracts: the reference's turned heaps. -/
namespace Go.Ab
open Go
set_option linter.unusedSimpArgs false
set_option linter.unusedVariables false

/-- A cell of which the first d coordinates are there. -/
def partC (c : Cell) (d : Nat) : Cell := ⟨if 0 < d then c.a else 0, if 1 < d then c.b else 0, if 2 < d then c.c else 0⟩
end Go.Ab

/- The abstract code of some functions (written by a program of mine from the translation, by way of prepF). -/
namespace Go.Ab.C
open Go.Ab
def spec_l1Least : AFn :=
  ⟨2, 10, [.tmp 4],
    .seq (.ops [(none, .mv 4 (.c (.I 0)))])
    (.seq (.seq (.ops [(none, .mv 5 (.t 0)),
         (none, .mv 6 (.t 1)),
         (none, .bin 7 .lss (.t 5) (.t 6))])
      (.cond (.t 7) (.seq (.ops [(none, .mv 8 (.t 0)),
           (none, .mv 4 (.t 8))])
        (.ret))
       (.skip)))
     (.seq (.ops [(none, .mv 9 (.t 1)),
         (none, .mv 4 (.t 9))])
      (.ret)))⟩
end Go.Ab.C

/- That the program has this code. -/
namespace Go.Ab.K
open Go Go.Ab
theorem spec_l1Least : prepF Go.Proofs.Try.prog F.spec_l1Least = some C.spec_l1Least := by kernel_rfl
end Go.Ab.K

/- Contracts: the reference's least boxes. -/
namespace Go.Ab
open Go
set_option linter.unusedSimpArgs false
set_option linter.unusedVariables false

def Small (c : Cell) : Prop := (-100 ≤ c.a ∧ c.a ≤ 100) ∧ (-100 ≤ c.b ∧ c.b ≤ 100) ∧ (-100 ≤ c.c ∧ c.c ≤ 100)
def shift (p c : Cell) : Cell := ⟨c.a + p.a, c.b + p.b, c.c + p.c⟩
def loC (c d : Cell) : Cell := ⟨min c.a d.a, min c.b d.b, min c.c d.c⟩
def hiC (c d : Cell) : Cell := ⟨max c.a d.a, max c.b d.b, max c.c d.c⟩
def lowOf (cs : List Cell) : Cell := cs.foldl loC (cs.getD 0 default)
def highOf (cs : List Cell) : Cell := cs.foldl hiC (cs.getD 0 default)
def cropHp (cs : List Cell) : Hp := ⟨(highOf cs).a - (lowOf cs).a + 1, (highOf cs).b - (lowOf cs).b + 1, (highOf cs).c - (lowOf cs).c + 1, cs.map (shift ⟨0 - (lowOf cs).a, 0 - (lowOf cs).b, 0 - (lowOf cs).c⟩)⟩
/-- The first d coordinates of one cell, the others of another one. -/
def mixC (c e : Cell) (d : Nat) : Cell := ⟨if 0 < d then e.a else c.a, if 1 < d then e.b else c.b, if 2 < d then e.c else c.c⟩
theorem h_l1Least {a b : Int} {M : Mem} : CallsTo PG F.spec_l1Least [.I a, .I b] M (.I (min a b)) M := by
  refine calls_run K.spec_l1Least rfl ?_
  simp (disch := omega) only [C.spec_l1Least, ↓SXd, SXu, slBounds, ↓sop, ↓aop, ↓reduceIte, LV.cells, AOp.dst, LV.I, LV.B, LV.U, LV.S, LV.nil, Nat.reduceEqDiff, Nat.reduceAdd, Nat.reduceMul, Nat.reduceSub, Nat.reduceLeDiff, Nat.reduceBEq, Nat.reduceDiv, Nat.reduceMod, Int.reduceToNat, Int.reduceLT, Int.reduceLE, Int.reduceAdd, Int.reduceSub, Int.reduceMul, Int.reduceEq, Int.reduceNeg, reduceCtorEq, resV, resAll, ARes.ev, LV.flat, ite_true, ite_false, exists_eq_left', exists_eq_left, keyOf, implies_true, fillC, capOf]
  refine condC_dec (fun h => ?_) (fun h => ?_)
  all_goals
    simp (disch := omega) only [↓SXd, SXu, slBounds, ↓sop, ↓aop, ↓reduceIte, LV.cells, AOp.dst, LV.I, LV.B, LV.U, LV.S, LV.nil, Nat.reduceEqDiff, Nat.reduceAdd, Nat.reduceMul, Nat.reduceSub, Nat.reduceLeDiff, Nat.reduceBEq, Nat.reduceDiv, Nat.reduceMod, Int.reduceToNat, Int.reduceLT, Int.reduceLE, Int.reduceAdd, Int.reduceSub, Int.reduceMul, Int.reduceEq, Int.reduceNeg, reduceCtorEq, resV, resAll, ARes.ev, LV.flat, ite_true, ite_false, exists_eq_left', exists_eq_left, keyOf, implies_true, fillC, capOf]
  · rw [show min a b = a by omega]; exact cmp_drop0 rfl
  · rw [show min a b = b by omega]; exact cmp_drop0 rfl

end Go.Ab

/- Contracts: pieces, both sides. -/
namespace Go.Ab
open Go
set_option linter.unusedSimpArgs false
set_option linter.unusedVariables false
set_option maxRecDepth 20000

def minC (s c : Cell) : Cell := ⟨min s.a c.a, min s.b c.b, min s.c c.c⟩
def lowC (s : Cell) (l : List Cell) : Cell := l.foldl minC s
theorem lowC_take {s : Cell} {l : List Cell} {i : Nat} (h : i < l.length) : lowC s (l.take (i + 1)) = minC (lowC s (l.take i)) (l.getD i default) := by
  unfold lowC
  rw [List.take_succ, List.getElem?_eq_getElem h, Option.toList_some, List.foldl_append]
  have e : l.getD i default = l[i] := by simp [h]
  rw [e]; rfl
/-- A piece. -/
def PieceOK (l : List Cell) : Prop := (1 ≤ l.length ∧ l.length ≤ 5) ∧ HeapOK 4 4 4 l ∧ lowC ⟨4, 4, 4⟩ l = ⟨0, 0, 0⟩
noncomputable instance (l : List Cell) : Decidable (PieceOK l) := Classical.propDecidable _
theorem sides4 : Sides 4 4 4 := by unfold Sides; omega
theorem low_first {c : Cell} {l : List Cell} (h : c.inBox 4 4 4) : lowC c (c :: l) = lowC ⟨4, 4, 4⟩ (c :: l) := by
  unfold lowC
  rw [List.foldl_cons, List.foldl_cons]
  congr 1
  obtain ⟨⟨_, _⟩, ⟨_, _⟩, ⟨_, _⟩⟩ := h
  unfold minC
  rw [cell_eq]
  simp only
  omega
theorem minC_in {s c : Cell} (hs : (0 ≤ s.a ∧ s.a ≤ 4) ∧ (0 ≤ s.b ∧ s.b ≤ 4) ∧ (0 ≤ s.c ∧ s.c ≤ 4)) (hc : c.inBox 4 4 4) : (0 ≤ (minC s c).a ∧ (minC s c).a ≤ 4) ∧ (0 ≤ (minC s c).b ∧ (minC s c).b ≤ 4) ∧ (0 ≤ (minC s c).c ∧ (minC s c).c ≤ 4) := by
  obtain ⟨⟨_, _⟩, ⟨_, _⟩, ⟨_, _⟩⟩ := hc
  unfold minC
  simp only
  omega

def minTo (s c : Cell) : Nat → Cell
  | 0 => s
  | 1 => ⟨min s.a c.a, s.b, s.c⟩
  | 2 => ⟨min s.a c.a, min s.b c.b, s.c⟩
  | _ => minC s c
theorem h_l9Piece {l : List Cell} {t o : Nat} {M : Mem} (h : Tri M t o l) (hn : l.length ≤ 1000000000) : CallsTo PG F.spec_l9Piece [.ref t o l.length] M (.B (decide (PieceOK l))) M := by
  have ht := h.lt
  refine calls_run K.spec_l9Piece rfl ?_
  simp (disch := omega) only [C.spec_l9Piece, ↓SXd, SXu, slBounds, ↓sop, ↓aop, ↓reduceIte, LV.cells, AOp.dst, LV.I, LV.B, LV.U, LV.S, LV.nil, Nat.reduceEqDiff, Nat.reduceAdd, Nat.reduceMul, Nat.reduceSub, Nat.reduceLeDiff, Nat.reduceBEq, Nat.reduceDiv, Nat.reduceMod, Int.reduceToNat, Int.reduceLT, Int.reduceLE, Int.reduceAdd, Int.reduceSub, Int.reduceMul, Int.reduceEq, Int.reduceNeg, reduceCtorEq, resV, resAll, ARes.ev, LV.flat, ite_true, ite_false, exists_eq_left', exists_eq_left, keyOf, implies_true, fillC, capOf]
  refine callK_of (h_l1In) ?_
  simp (disch := omega) only [↓SXd, SXu, slBounds, ↓sop, ↓aop, ↓reduceIte, LV.cells, AOp.dst, LV.I, LV.B, LV.U, LV.S, LV.nil, Nat.reduceEqDiff, Nat.reduceAdd, Nat.reduceMul, Nat.reduceSub, Nat.reduceLeDiff, Nat.reduceBEq, Nat.reduceDiv, Nat.reduceMod, Int.reduceToNat, Int.reduceLT, Int.reduceLE, Int.reduceAdd, Int.reduceSub, Int.reduceMul, Int.reduceEq, Int.reduceNeg, reduceCtorEq, resV, resAll, ARes.ev, LV.flat, ite_true, ite_false, exists_eq_left', exists_eq_left, keyOf, implies_true, fillC, capOf]
  by_cases hl : 1 ≤ (l.length : Int) ∧ (l.length : Int) ≤ 5
  · obtain ⟨hl1, hl2⟩ := id hl
    simp (disch := omega) only [hl, splice, ↓SXd, SXu, slBounds, ↓sop, ↓aop, ↓reduceIte, LV.cells, AOp.dst, LV.I, LV.B, LV.U, LV.S, LV.nil, Nat.reduceEqDiff, Nat.reduceAdd, Nat.reduceMul, Nat.reduceSub, Nat.reduceLeDiff, Nat.reduceBEq, Nat.reduceDiv, Nat.reduceMod, Int.reduceToNat, Int.reduceLT, Int.reduceLE, Int.reduceAdd, Int.reduceSub, Int.reduceMul, Int.reduceEq, Int.reduceNeg, reduceCtorEq, resV, resAll, ARes.ev, LV.flat, ite_true, ite_false, exists_eq_left', exists_eq_left, keyOf, implies_true, fillC, capOf]
    refine ev_loop (fun m fr M' => ∃ i : Nat, i + m = l.length ∧ Pre M M' ∧ Live M' M.length (.row [.I (lowC ⟨4, 4, 4⟩ (l.take i)).a, .I (lowC ⟨4, 4, 4⟩ (l.take i)).b, .I (lowC ⟨4, 4, 4⟩ (l.take i)).c] true 0) ∧
      (∀ j, j < i → (l.getD j default).inBox 4 4 4 ∧ (0 < j → (l.getD (j - 1) default).lt (l.getD j default))) ∧ ((0 ≤ (lowC ⟨4, 4, 4⟩ (l.take i)).a ∧ (lowC ⟨4, 4, 4⟩ (l.take i)).a ≤ 4) ∧ (0 ≤ (lowC ⟨4, 4, 4⟩ (l.take i)).b ∧ (lowC ⟨4, 4, 4⟩ (l.take i)).b ≤ 4) ∧ (0 ≤ (lowC ⟨4, 4, 4⟩ (l.take i)).c ∧ (lowC ⟨4, 4, 4⟩ (l.take i)).c ≤ 4)) ∧
      fr 0 = .ref t o l.length ∧ fr 3 = .ptr M.length 0 ∧ fr 4 = .I i) l.length
      ⟨0, by omega, Pre.app _ _, Live.new, by omega, by simp [lowC], rfl, rfl, rfl⟩ ?_
    rintro m fr M' ⟨i, hi, hpre, b3, hj, hlow, f0, f3, f4⟩
    simp (disch := omega) only [f0, f3, f4, ↓SXd, SXu, slBounds, ↓sop, ↓aop, ↓reduceIte, LV.cells, AOp.dst, LV.I, LV.B, LV.U, LV.S, LV.nil, Nat.reduceEqDiff, Nat.reduceAdd, Nat.reduceMul, Nat.reduceSub, Nat.reduceLeDiff, Nat.reduceBEq, Nat.reduceDiv, Nat.reduceMod, Int.reduceToNat, Int.reduceLT, Int.reduceLE, Int.reduceAdd, Int.reduceSub, Int.reduceMul, Int.reduceEq, Int.reduceNeg, reduceCtorEq, resV, resAll, ARes.ev, LV.flat, ite_true, ite_false, exists_eq_left', exists_eq_left, keyOf, implies_true, fillC, capOf]
    refine condC_dec (fun hlt => ?_) (fun hlt => ?_)
    · have hil : i < l.length := by omega
      have hlk := lowC_take (s := ⟨4, 4, 4⟩) hil
      have hgk := Tri.get (h.pre hpre) hil
      have ga := Tri.get_a (h.pre hpre) hil
      have gb := Tri.get_b (h.pre hpre) hil
      have gc := Tri.get_c (h.pre hpre) hil
      have hbad : ∀ P : Prop, (HeapOK 4 4 4 l → P) → PieceOK l → P := fun P h1 h2 => h1 h2.2.1
      have hbl := b3.lt
      generalize hc : l.getD i default = c at hlk hgk ga gb gc
      generalize lowC ⟨4, 4, 4⟩ (l.take i) = s at hlk b3 hlow
      simp (disch := omega) only [f0, f3, f4, ↓SXd, SXu, slBounds, ↓sop, ↓aop, ↓reduceIte, LV.cells, AOp.dst, LV.I, LV.B, LV.U, LV.S, LV.nil, Nat.reduceEqDiff, Nat.reduceAdd, Nat.reduceMul, Nat.reduceSub, Nat.reduceLeDiff, Nat.reduceBEq, Nat.reduceDiv, Nat.reduceMod, Int.reduceToNat, Int.reduceLT, Int.reduceLE, Int.reduceAdd, Int.reduceSub, Int.reduceMul, Int.reduceEq, Int.reduceNeg, reduceCtorEq, resV, resAll, ARes.ev, LV.flat, ite_true, ite_false, exists_eq_left', exists_eq_left, keyOf, implies_true, fillC, capOf]
      refine ev_loop (fun m2 fr2 M2 => ∃ k : Nat, k + m2 = 3 ∧ Pre M M2 ∧ Live M2 M.length (.row [.I (minTo s c k).a, .I (minTo s c k).b, .I (minTo s c k).c] true 0) ∧ (1 ≤ k → 0 ≤ c.a ∧ c.a ≤ 3) ∧ (2 ≤ k → 0 ≤ c.b ∧ c.b ≤ 3) ∧ (3 ≤ k → 0 ≤ c.c ∧ c.c ≤ 3) ∧
        fr2 0 = .ref t o l.length ∧ fr2 3 = .ptr M.length 0 ∧ fr2 4 = .I i ∧ fr2 5 = .I k) 3
        ⟨0, rfl, hpre, b3, by omega, by omega, by omega, f0, f3, f4, rfl⟩ ?_
      clear ga gb gc hgk
      rintro m2 fr2 M2 ⟨k, hk, p2, c3, ka, kb, kc, g0, g3, g4, g5⟩
      simp (disch := omega) only [g0, g3, g4, g5, ↓SXd, SXu, slBounds, ↓sop, ↓aop, ↓reduceIte, LV.cells, AOp.dst, LV.I, LV.B, LV.U, LV.S, LV.nil, Nat.reduceEqDiff, Nat.reduceAdd, Nat.reduceMul, Nat.reduceSub, Nat.reduceLeDiff, Nat.reduceBEq, Nat.reduceDiv, Nat.reduceMod, Int.reduceToNat, Int.reduceLT, Int.reduceLE, Int.reduceAdd, Int.reduceSub, Int.reduceMul, Int.reduceEq, Int.reduceNeg, reduceCtorEq, resV, resAll, ARes.ev, LV.flat, ite_true, ite_false, exists_eq_left', exists_eq_left, keyOf, implies_true, fillC, capOf]
      have hgk := Tri.get (h.pre p2) hil
      have ga := Tri.get_a (h.pre p2) hil
      have gb := Tri.get_b (h.pre p2) hil
      have gc := Tri.get_c (h.pre p2) hil
      rw [hc] at ga gb gc hgk
      refine condC_dec (fun hlt2 => ?_) (fun hlt2 => ?_)
      · rcases (show k = 0 ∨ k = 1 ∨ k = 2 by omega) with rfl | rfl | rfl
        · simp (disch := omega) only [g0, g3, g4, g5, ga, Nat.add_zero, ↓SXd, SXu, slBounds, ↓sop, ↓aop, ↓reduceIte, LV.cells, AOp.dst, LV.I, LV.B, LV.U, LV.S, LV.nil, Nat.reduceEqDiff, Nat.reduceAdd, Nat.reduceMul, Nat.reduceSub, Nat.reduceLeDiff, Nat.reduceBEq, Nat.reduceDiv, Nat.reduceMod, Int.reduceToNat, Int.reduceLT, Int.reduceLE, Int.reduceAdd, Int.reduceSub, Int.reduceMul, Int.reduceEq, Int.reduceNeg, reduceCtorEq, resV, resAll, ARes.ev, LV.flat, ite_true, ite_false, exists_eq_left', exists_eq_left, keyOf, implies_true, fillC, capOf]
          refine callK_of (h_l1In) ?_
          simp (disch := omega) only [g0, g3, g4, g5, ↓SXd, SXu, slBounds, ↓sop, ↓aop, ↓reduceIte, LV.cells, AOp.dst, LV.I, LV.B, LV.U, LV.S, LV.nil, Nat.reduceEqDiff, Nat.reduceAdd, Nat.reduceMul, Nat.reduceSub, Nat.reduceLeDiff, Nat.reduceBEq, Nat.reduceDiv, Nat.reduceMod, Int.reduceToNat, Int.reduceLT, Int.reduceLE, Int.reduceAdd, Int.reduceSub, Int.reduceMul, Int.reduceEq, Int.reduceNeg, reduceCtorEq, resV, resAll, ARes.ev, LV.flat, ite_true, ite_false, exists_eq_left', exists_eq_left, keyOf, implies_true, fillC, capOf]
          by_cases hv : 0 ≤ c.a ∧ c.a ≤ 3
          · rw [decide_eq_true hv]
            simp (disch := omega) only [g0, g3, g4, g5, ga, Nat.add_zero, c3.cell, ↓SXd, SXu, slBounds, ↓sop, ↓aop, ↓reduceIte, LV.cells, AOp.dst, LV.I, LV.B, LV.U, LV.S, LV.nil, Nat.reduceEqDiff, Nat.reduceAdd, Nat.reduceMul, Nat.reduceSub, Nat.reduceLeDiff, Nat.reduceBEq, Nat.reduceDiv, Nat.reduceMod, Int.reduceToNat, Int.reduceLT, Int.reduceLE, Int.reduceAdd, Int.reduceSub, Int.reduceMul, Int.reduceEq, Int.reduceNeg, reduceCtorEq, resV, resAll, ARes.ev, LV.flat, ite_true, ite_false, exists_eq_left', exists_eq_left, keyOf, implies_true, fillC, capOf]
            refine callK_of (h_l1Least) ?_
            simp (disch := omega) only [g0, g3, g4, g5, ↓SXd, SXu, slBounds, ↓sop, ↓aop, ↓reduceIte, LV.cells, AOp.dst, LV.I, LV.B, LV.U, LV.S, LV.nil, Nat.reduceEqDiff, Nat.reduceAdd, Nat.reduceMul, Nat.reduceSub, Nat.reduceLeDiff, Nat.reduceBEq, Nat.reduceDiv, Nat.reduceMod, Int.reduceToNat, Int.reduceLT, Int.reduceLE, Int.reduceAdd, Int.reduceSub, Int.reduceMul, Int.reduceEq, Int.reduceNeg, reduceCtorEq, resV, resAll, ARes.ev, LV.flat, ite_true, ite_false, exists_eq_left', exists_eq_left, keyOf, implies_true, fillC, capOf]
            refine memK_one c3 (by simp) fun N q1 q2 q3 => ?_
            simp (disch := omega) only [g0, g3, g4, g5, ↓SXd, SXu, slBounds, ↓sop, ↓aop, ↓reduceIte, LV.cells, AOp.dst, LV.I, LV.B, LV.U, LV.S, LV.nil, Nat.reduceEqDiff, Nat.reduceAdd, Nat.reduceMul, Nat.reduceSub, Nat.reduceLeDiff, Nat.reduceBEq, Nat.reduceDiv, Nat.reduceMod, Int.reduceToNat, Int.reduceLT, Int.reduceLE, Int.reduceAdd, Int.reduceSub, Int.reduceMul, Int.reduceEq, Int.reduceNeg, reduceCtorEq, resV, resAll, ARes.ev, LV.flat, ite_true, ite_false, exists_eq_left', exists_eq_left, keyOf, implies_true, fillC, capOf]
            exact ⟨m2 - 1, by omega, 1, by omega, pre_step p2 (by omega) (j := 0) q1 q3, q2, fun _ => hv, by omega, by omega, g0, g3, g4, rfl⟩
          · rw [decide_eq_false hv]
            simp (disch := omega) only [g0, g3, g4, g5, ↓SXd, SXu, slBounds, ↓sop, ↓aop, ↓reduceIte, LV.cells, AOp.dst, LV.I, LV.B, LV.U, LV.S, LV.nil, Nat.reduceEqDiff, Nat.reduceAdd, Nat.reduceMul, Nat.reduceSub, Nat.reduceLeDiff, Nat.reduceBEq, Nat.reduceDiv, Nat.reduceMod, Int.reduceToNat, Int.reduceLT, Int.reduceLE, Int.reduceAdd, Int.reduceSub, Int.reduceMul, Int.reduceEq, Int.reduceNeg, reduceCtorEq, resV, resAll, ARes.ev, LV.flat, ite_true, ite_false, exists_eq_left', exists_eq_left, keyOf, implies_true, fillC, capOf]
            rw [decide_eq_false (fun hp => hv (by have := (hp.2.1.2 i hil).1.1; rw [hc] at this; omega))]
            exact cmp_pre p2 rfl
        · simp (disch := omega) only [g0, g3, g4, g5, gb, ↓SXd, SXu, slBounds, ↓sop, ↓aop, ↓reduceIte, LV.cells, AOp.dst, LV.I, LV.B, LV.U, LV.S, LV.nil, Nat.reduceEqDiff, Nat.reduceAdd, Nat.reduceMul, Nat.reduceSub, Nat.reduceLeDiff, Nat.reduceBEq, Nat.reduceDiv, Nat.reduceMod, Int.reduceToNat, Int.reduceLT, Int.reduceLE, Int.reduceAdd, Int.reduceSub, Int.reduceMul, Int.reduceEq, Int.reduceNeg, reduceCtorEq, resV, resAll, ARes.ev, LV.flat, ite_true, ite_false, exists_eq_left', exists_eq_left, keyOf, implies_true, fillC, capOf]
          refine callK_of (h_l1In) ?_
          simp (disch := omega) only [g0, g3, g4, g5, ↓SXd, SXu, slBounds, ↓sop, ↓aop, ↓reduceIte, LV.cells, AOp.dst, LV.I, LV.B, LV.U, LV.S, LV.nil, Nat.reduceEqDiff, Nat.reduceAdd, Nat.reduceMul, Nat.reduceSub, Nat.reduceLeDiff, Nat.reduceBEq, Nat.reduceDiv, Nat.reduceMod, Int.reduceToNat, Int.reduceLT, Int.reduceLE, Int.reduceAdd, Int.reduceSub, Int.reduceMul, Int.reduceEq, Int.reduceNeg, reduceCtorEq, resV, resAll, ARes.ev, LV.flat, ite_true, ite_false, exists_eq_left', exists_eq_left, keyOf, implies_true, fillC, capOf]
          by_cases hv : 0 ≤ c.b ∧ c.b ≤ 3
          · rw [decide_eq_true hv]
            simp (disch := omega) only [g0, g3, g4, g5, gb, c3.cell, ↓SXd, SXu, slBounds, ↓sop, ↓aop, ↓reduceIte, LV.cells, AOp.dst, LV.I, LV.B, LV.U, LV.S, LV.nil, Nat.reduceEqDiff, Nat.reduceAdd, Nat.reduceMul, Nat.reduceSub, Nat.reduceLeDiff, Nat.reduceBEq, Nat.reduceDiv, Nat.reduceMod, Int.reduceToNat, Int.reduceLT, Int.reduceLE, Int.reduceAdd, Int.reduceSub, Int.reduceMul, Int.reduceEq, Int.reduceNeg, reduceCtorEq, resV, resAll, ARes.ev, LV.flat, ite_true, ite_false, exists_eq_left', exists_eq_left, keyOf, implies_true, fillC, capOf]
            refine callK_of (h_l1Least) ?_
            simp (disch := omega) only [g0, g3, g4, g5, ↓SXd, SXu, slBounds, ↓sop, ↓aop, ↓reduceIte, LV.cells, AOp.dst, LV.I, LV.B, LV.U, LV.S, LV.nil, Nat.reduceEqDiff, Nat.reduceAdd, Nat.reduceMul, Nat.reduceSub, Nat.reduceLeDiff, Nat.reduceBEq, Nat.reduceDiv, Nat.reduceMod, Int.reduceToNat, Int.reduceLT, Int.reduceLE, Int.reduceAdd, Int.reduceSub, Int.reduceMul, Int.reduceEq, Int.reduceNeg, reduceCtorEq, resV, resAll, ARes.ev, LV.flat, ite_true, ite_false, exists_eq_left', exists_eq_left, keyOf, implies_true, fillC, capOf]
            refine memK_one c3 (by simp) fun N q1 q2 q3 => ?_
            simp (disch := omega) only [g0, g3, g4, g5, ↓SXd, SXu, slBounds, ↓sop, ↓aop, ↓reduceIte, LV.cells, AOp.dst, LV.I, LV.B, LV.U, LV.S, LV.nil, Nat.reduceEqDiff, Nat.reduceAdd, Nat.reduceMul, Nat.reduceSub, Nat.reduceLeDiff, Nat.reduceBEq, Nat.reduceDiv, Nat.reduceMod, Int.reduceToNat, Int.reduceLT, Int.reduceLE, Int.reduceAdd, Int.reduceSub, Int.reduceMul, Int.reduceEq, Int.reduceNeg, reduceCtorEq, resV, resAll, ARes.ev, LV.flat, ite_true, ite_false, exists_eq_left', exists_eq_left, keyOf, implies_true, fillC, capOf]
            exact ⟨m2 - 1, by omega, 2, by omega, pre_step p2 (by omega) (j := 0) q1 q3, q2, fun _ => ka (by omega), fun _ => hv, by omega, g0, g3, g4, rfl⟩
          · rw [decide_eq_false hv]
            simp (disch := omega) only [g0, g3, g4, g5, ↓SXd, SXu, slBounds, ↓sop, ↓aop, ↓reduceIte, LV.cells, AOp.dst, LV.I, LV.B, LV.U, LV.S, LV.nil, Nat.reduceEqDiff, Nat.reduceAdd, Nat.reduceMul, Nat.reduceSub, Nat.reduceLeDiff, Nat.reduceBEq, Nat.reduceDiv, Nat.reduceMod, Int.reduceToNat, Int.reduceLT, Int.reduceLE, Int.reduceAdd, Int.reduceSub, Int.reduceMul, Int.reduceEq, Int.reduceNeg, reduceCtorEq, resV, resAll, ARes.ev, LV.flat, ite_true, ite_false, exists_eq_left', exists_eq_left, keyOf, implies_true, fillC, capOf]
            rw [decide_eq_false (fun hp => hv (by have := (hp.2.1.2 i hil).1.2.1; rw [hc] at this; omega))]
            exact cmp_pre p2 rfl
        · simp (disch := omega) only [g0, g3, g4, g5, gc, ↓SXd, SXu, slBounds, ↓sop, ↓aop, ↓reduceIte, LV.cells, AOp.dst, LV.I, LV.B, LV.U, LV.S, LV.nil, Nat.reduceEqDiff, Nat.reduceAdd, Nat.reduceMul, Nat.reduceSub, Nat.reduceLeDiff, Nat.reduceBEq, Nat.reduceDiv, Nat.reduceMod, Int.reduceToNat, Int.reduceLT, Int.reduceLE, Int.reduceAdd, Int.reduceSub, Int.reduceMul, Int.reduceEq, Int.reduceNeg, reduceCtorEq, resV, resAll, ARes.ev, LV.flat, ite_true, ite_false, exists_eq_left', exists_eq_left, keyOf, implies_true, fillC, capOf]
          refine callK_of (h_l1In) ?_
          simp (disch := omega) only [g0, g3, g4, g5, ↓SXd, SXu, slBounds, ↓sop, ↓aop, ↓reduceIte, LV.cells, AOp.dst, LV.I, LV.B, LV.U, LV.S, LV.nil, Nat.reduceEqDiff, Nat.reduceAdd, Nat.reduceMul, Nat.reduceSub, Nat.reduceLeDiff, Nat.reduceBEq, Nat.reduceDiv, Nat.reduceMod, Int.reduceToNat, Int.reduceLT, Int.reduceLE, Int.reduceAdd, Int.reduceSub, Int.reduceMul, Int.reduceEq, Int.reduceNeg, reduceCtorEq, resV, resAll, ARes.ev, LV.flat, ite_true, ite_false, exists_eq_left', exists_eq_left, keyOf, implies_true, fillC, capOf]
          by_cases hv : 0 ≤ c.c ∧ c.c ≤ 3
          · rw [decide_eq_true hv]
            simp (disch := omega) only [g0, g3, g4, g5, gc, c3.cell, ↓SXd, SXu, slBounds, ↓sop, ↓aop, ↓reduceIte, LV.cells, AOp.dst, LV.I, LV.B, LV.U, LV.S, LV.nil, Nat.reduceEqDiff, Nat.reduceAdd, Nat.reduceMul, Nat.reduceSub, Nat.reduceLeDiff, Nat.reduceBEq, Nat.reduceDiv, Nat.reduceMod, Int.reduceToNat, Int.reduceLT, Int.reduceLE, Int.reduceAdd, Int.reduceSub, Int.reduceMul, Int.reduceEq, Int.reduceNeg, reduceCtorEq, resV, resAll, ARes.ev, LV.flat, ite_true, ite_false, exists_eq_left', exists_eq_left, keyOf, implies_true, fillC, capOf]
            refine callK_of (h_l1Least) ?_
            simp (disch := omega) only [g0, g3, g4, g5, ↓SXd, SXu, slBounds, ↓sop, ↓aop, ↓reduceIte, LV.cells, AOp.dst, LV.I, LV.B, LV.U, LV.S, LV.nil, Nat.reduceEqDiff, Nat.reduceAdd, Nat.reduceMul, Nat.reduceSub, Nat.reduceLeDiff, Nat.reduceBEq, Nat.reduceDiv, Nat.reduceMod, Int.reduceToNat, Int.reduceLT, Int.reduceLE, Int.reduceAdd, Int.reduceSub, Int.reduceMul, Int.reduceEq, Int.reduceNeg, reduceCtorEq, resV, resAll, ARes.ev, LV.flat, ite_true, ite_false, exists_eq_left', exists_eq_left, keyOf, implies_true, fillC, capOf]
            refine memK_one c3 (by simp) fun N q1 q2 q3 => ?_
            simp (disch := omega) only [g0, g3, g4, g5, ↓SXd, SXu, slBounds, ↓sop, ↓aop, ↓reduceIte, LV.cells, AOp.dst, LV.I, LV.B, LV.U, LV.S, LV.nil, Nat.reduceEqDiff, Nat.reduceAdd, Nat.reduceMul, Nat.reduceSub, Nat.reduceLeDiff, Nat.reduceBEq, Nat.reduceDiv, Nat.reduceMod, Int.reduceToNat, Int.reduceLT, Int.reduceLE, Int.reduceAdd, Int.reduceSub, Int.reduceMul, Int.reduceEq, Int.reduceNeg, reduceCtorEq, resV, resAll, ARes.ev, LV.flat, ite_true, ite_false, exists_eq_left', exists_eq_left, keyOf, implies_true, fillC, capOf]
            exact ⟨m2 - 1, by omega, 3, by omega, pre_step p2 (by omega) (j := 0) q1 q3, q2, fun _ => ka (by omega), fun _ => kb (by omega), fun _ => hv, g0, g3, g4, rfl⟩
          · rw [decide_eq_false hv]
            simp (disch := omega) only [g0, g3, g4, g5, ↓SXd, SXu, slBounds, ↓sop, ↓aop, ↓reduceIte, LV.cells, AOp.dst, LV.I, LV.B, LV.U, LV.S, LV.nil, Nat.reduceEqDiff, Nat.reduceAdd, Nat.reduceMul, Nat.reduceSub, Nat.reduceLeDiff, Nat.reduceBEq, Nat.reduceDiv, Nat.reduceMod, Int.reduceToNat, Int.reduceLT, Int.reduceLE, Int.reduceAdd, Int.reduceSub, Int.reduceMul, Int.reduceEq, Int.reduceNeg, reduceCtorEq, resV, resAll, ARes.ev, LV.flat, ite_true, ite_false, exists_eq_left', exists_eq_left, keyOf, implies_true, fillC, capOf]
            rw [decide_eq_false (fun hp => hv (by have := (hp.2.1.2 i hil).1.2.2; rw [hc] at this; omega))]
            exact cmp_pre p2 rfl
      · have : k = 3 := by omega
        subst this
        have hin : c.inBox 4 4 4 := ⟨by have := ka (by omega); omega, by have := kb (by omega); omega, by have := kc (by omega); omega⟩
        have hmi := minC_in hlow hin
        rw [show minTo s c 3 = minC s c from rfl, ← hlk] at c3
        rw [← hlk] at hmi
        simp (disch := omega) only [g0, g3, g4, g5, ↓SXd, SXu, slBounds, ↓sop, ↓aop, ↓reduceIte, LV.cells, AOp.dst, LV.I, LV.B, LV.U, LV.S, LV.nil, Nat.reduceEqDiff, Nat.reduceAdd, Nat.reduceMul, Nat.reduceSub, Nat.reduceLeDiff, Nat.reduceBEq, Nat.reduceDiv, Nat.reduceMod, Int.reduceToNat, Int.reduceLT, Int.reduceLE, Int.reduceAdd, Int.reduceSub, Int.reduceMul, Int.reduceEq, Int.reduceNeg, reduceCtorEq, resV, resAll, ARes.ev, LV.flat, ite_true, ite_false, exists_eq_left', exists_eq_left, keyOf, implies_true, fillC, capOf]
        by_cases hi0 : i = 0
        · subst hi0
          have hi0' : ¬ ((0 : Int) > 0) := by omega
          simp (disch := omega) only [g0, g3, g4, g5, Int.natCast_zero, hi0', ↓SXd, SXu, slBounds, ↓sop, ↓aop, ↓reduceIte, LV.cells, AOp.dst, LV.I, LV.B, LV.U, LV.S, LV.nil, Nat.reduceEqDiff, Nat.reduceAdd, Nat.reduceMul, Nat.reduceSub, Nat.reduceLeDiff, Nat.reduceBEq, Nat.reduceDiv, Nat.reduceMod, Int.reduceToNat, Int.reduceLT, Int.reduceLE, Int.reduceAdd, Int.reduceSub, Int.reduceMul, Int.reduceEq, Int.reduceNeg, reduceCtorEq, resV, resAll, ARes.ev, LV.flat, ite_true, ite_false, exists_eq_left', exists_eq_left, keyOf, implies_true, fillC, capOf]
          exact ⟨m - 1, by omega, 1, by omega, p2, c3, fun j hj1 => by
            have : j = 0 := by omega
            subst this
            rw [hc]; exact ⟨hin, by omega⟩, hmi, g0, g3, rfl⟩
        · have hi1 : (i : Int) > 0 := by omega
          have e1 : ((i : Int) - 1).toNat = i - 1 := by omega
          have hgp := Tri.get (h.pre p2) (show i - 1 < l.length by omega)
          simp (disch := omega) only [g0, g3, g4, g5, hi1, e1, hgp, hgk, Cell.row, ↓SXd, SXu, slBounds, ↓sop, ↓aop, ↓reduceIte, LV.cells, AOp.dst, LV.I, LV.B, LV.U, LV.S, LV.nil, Nat.reduceEqDiff, Nat.reduceAdd, Nat.reduceMul, Nat.reduceSub, Nat.reduceLeDiff, Nat.reduceBEq, Nat.reduceDiv, Nat.reduceMod, Int.reduceToNat, Int.reduceLT, Int.reduceLE, Int.reduceAdd, Int.reduceSub, Int.reduceMul, Int.reduceEq, Int.reduceNeg, reduceCtorEq, resV, resAll, ARes.ev, LV.flat, ite_true, ite_false, exists_eq_left', exists_eq_left, keyOf, implies_true, fillC, capOf]
          refine callK_of (h_l2Before) ?_
          simp (disch := omega) only [g0, g3, g4, g5, cell_eta, ↓SXd, SXu, slBounds, ↓sop, ↓aop, ↓reduceIte, LV.cells, AOp.dst, LV.I, LV.B, LV.U, LV.S, LV.nil, Nat.reduceEqDiff, Nat.reduceAdd, Nat.reduceMul, Nat.reduceSub, Nat.reduceLeDiff, Nat.reduceBEq, Nat.reduceDiv, Nat.reduceMod, Int.reduceToNat, Int.reduceLT, Int.reduceLE, Int.reduceAdd, Int.reduceSub, Int.reduceMul, Int.reduceEq, Int.reduceNeg, reduceCtorEq, resV, resAll, ARes.ev, LV.flat, ite_true, ite_false, exists_eq_left', exists_eq_left, keyOf, implies_true, fillC, capOf]
          by_cases hb : (l.getD (i - 1) default).lt c
          · simp (disch := omega) only [g0, g3, g4, g5, hb, ↓SXd, SXu, slBounds, ↓sop, ↓aop, ↓reduceIte, LV.cells, AOp.dst, LV.I, LV.B, LV.U, LV.S, LV.nil, Nat.reduceEqDiff, Nat.reduceAdd, Nat.reduceMul, Nat.reduceSub, Nat.reduceLeDiff, Nat.reduceBEq, Nat.reduceDiv, Nat.reduceMod, Int.reduceToNat, Int.reduceLT, Int.reduceLE, Int.reduceAdd, Int.reduceSub, Int.reduceMul, Int.reduceEq, Int.reduceNeg, reduceCtorEq, resV, resAll, ARes.ev, LV.flat, ite_true, ite_false, exists_eq_left', exists_eq_left, keyOf, implies_true, fillC, capOf]
            exact ⟨m - 1, by omega, i + 1, by omega, p2, c3, fun j hj1 => by
              rcases Nat.lt_or_ge j i with h2 | h2
              · exact hj j h2
              · rw [show j = i by omega, hc]; exact ⟨hin, fun _ => hb⟩, hmi, g0, g3, eqI (natI _)⟩
          · simp (disch := omega) only [g0, g3, g4, g5, hb, ↓SXd, SXu, slBounds, ↓sop, ↓aop, ↓reduceIte, LV.cells, AOp.dst, LV.I, LV.B, LV.U, LV.S, LV.nil, Nat.reduceEqDiff, Nat.reduceAdd, Nat.reduceMul, Nat.reduceSub, Nat.reduceLeDiff, Nat.reduceBEq, Nat.reduceDiv, Nat.reduceMod, Int.reduceToNat, Int.reduceLT, Int.reduceLE, Int.reduceAdd, Int.reduceSub, Int.reduceMul, Int.reduceEq, Int.reduceNeg, reduceCtorEq, resV, resAll, ARes.ev, LV.flat, ite_true, ite_false, exists_eq_left', exists_eq_left, keyOf, implies_true, fillC, capOf]
            rw [decide_eq_false (fun hp => hb (by have := (hp.2.1.2 i hil).2 (by omega); rwa [hc] at this))]
            exact cmp_pre p2 rfl
    · have : i = l.length := by omega
      subst this
      rw [List.take_length] at b3
      simp (disch := omega) only [f0, f3, f4, b3.cells, eqV, eqC, if_true, ite_true, Bool.and_true, ↓SXd, SXu, slBounds, ↓sop, ↓aop, ↓reduceIte, LV.cells, AOp.dst, LV.I, LV.B, LV.U, LV.S, LV.nil, Nat.reduceEqDiff, Nat.reduceAdd, Nat.reduceMul, Nat.reduceSub, Nat.reduceLeDiff, Nat.reduceBEq, Nat.reduceDiv, Nat.reduceMod, Int.reduceToNat, Int.reduceLT, Int.reduceLE, Int.reduceAdd, Int.reduceSub, Int.reduceMul, Int.reduceEq, Int.reduceNeg, reduceCtorEq, resV, resAll, ARes.ev, LV.flat, ite_true, ite_false, exists_eq_left', exists_eq_left, keyOf, implies_true, fillC, capOf]
      have hH : HeapOK 4 4 4 l := ⟨sides4, fun k hk => hj k hk⟩
      rw [show decide (PieceOK l) = ((lowC ⟨4, 4, 4⟩ l).a == 0 && ((lowC ⟨4, 4, 4⟩ l).b == 0 && (lowC ⟨4, 4, 4⟩ l).c == 0)) by
        rw [Bool.eq_iff_iff, decide_eq_true_iff]
        unfold PieceOK
        rw [cell_eq]
        simp only [Bool.and_eq_true, beq_iff_eq]
        exact ⟨fun h => h.2.2, fun h => ⟨⟨by omega, by omega⟩, hH, h⟩⟩]
      exact cmp_pre hpre rfl
  · simp (disch := omega) only [hl, ↓SXd, SXu, slBounds, ↓sop, ↓aop, ↓reduceIte, LV.cells, AOp.dst, LV.I, LV.B, LV.U, LV.S, LV.nil, Nat.reduceEqDiff, Nat.reduceAdd, Nat.reduceMul, Nat.reduceSub, Nat.reduceLeDiff, Nat.reduceBEq, Nat.reduceDiv, Nat.reduceMod, Int.reduceToNat, Int.reduceLT, Int.reduceLE, Int.reduceAdd, Int.reduceSub, Int.reduceMul, Int.reduceEq, Int.reduceNeg, reduceCtorEq, resV, resAll, ARes.ev, LV.flat, ite_true, ite_false, exists_eq_left', exists_eq_left, keyOf, implies_true, fillC, capOf]
    rw [decide_eq_false (fun hp => hl ⟨by have := hp.1.1; omega, by have := hp.1.2; omega⟩)]
    exact cmp_pre (Pre.refl _) rfl
end Go.Ab
