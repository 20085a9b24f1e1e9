/- Parts of the proof of FnExactFirstFewestSaid: Ul Um C_Pb K_Pb Pa C_Nc K_Nc Nc Pb Pw Vc Vd Ve Wf Wh Wi C_Wc K_Wc Wc Wd Wj. -/
import Derived.Test.YtjpdjjeddagjlaaA7
import Derived.Test.YtjpdjjeddagjlaaA4
import Derived.Test.YtjpdjjeddagjlaaA5
import Derived.Test.YtjpdjjeddagjlaaA3
import Derived.Test.YtjpdjjeddagjlaaProg
import Derived.KernelRfl
import Derived.Test.YtjpdjjeddagjlaaA6
set_option linter.all false
/- Contracts: shadows of sets, the program's side. -/
namespace Go.Ab
open Go
set_option linter.unusedSimpArgs false
set_option linter.unusedVariables false
set_option maxRecDepth 20000

theorem keepL_pr {M N : Mem} (h : Pre M N) (ks : List Nat) : KeepL ks M N = True := by
  simp only [eq_iff_iff, iff_true]
  intro k _ b hb
  rw [h.2 k (by
    rcases Nat.lt_or_ge k M.length with h1 | h1
    · exact h1
    · rw [List.getElem?_eq_none h1] at hb; cases hb)]
  exact hb
def onesTo (k : Nat) (v : List Int) : List Int := onesL (v.take k) ++ v.drop k
theorem onesTo_step {v : List Int} {k : Nat} (h : k < v.length) : (onesTo k v).set k (min (v.getD k 0) 1) = onesTo (k + 1) v := by
  have hl : (onesL (v.take k)).length = k := by rw [onesL_len]; simp; omega
  unfold onesTo
  have e : v.getD k 0 = v[k] := by simp [h]
  rw [List.set_append_right _ _ (by omega), hl, Nat.sub_self, List.drop_eq_getElem_cons h, List.set_cons_zero, List.take_succ, List.getElem?_eq_getElem h, e]
  simp only [onesL, List.map_append, Option.toList_some, List.map_cons, List.map_nil, List.append_assoc, List.cons_append, List.nil_append]
theorem onesTo_get {v : List Int} {k : Nat} (h : k < v.length) : (onesTo k v).getD k 0 = v.getD k 0 := by
  have hl : (onesL (v.take k)).length = k := by rw [onesL_len]; simp; omega
  unfold onesTo
  rw [List.getD_eq_getElem?_getD, List.getElem?_append_right (by omega), hl, Nat.sub_self, List.getElem?_drop]
  simp [h]
theorem onesTo_len {v : List Int} {k : Nat} : (onesTo k v).length = v.length := by
  unfold onesTo; rw [List.length_append, onesL_len, ← List.length_append, List.take_append_drop]

theorem g_shadow {x y z : Int} {p : Cell → Bool} {M : Mem} (hS : Sides x y z) : CallsR PG F.impl_box_shadow [.agg [.I x, .I y, .I z], .W (bs x y z p)] M
    (ShdRes M x y z (shdOf x y z 2 (pick x y z p)) (shdOf x y z 1 (pick x y z p)) (shdOf x y z 0 (pick x y z p))) := by
  refine callsR_run K.impl_box_shadow rfl ?_
  simp (disch := omega) only [C.impl_box_shadow, ↓SXd, SXu, slBounds, ↓sop, ↓aop, ↓reduceIte, LV.cells, AOp.dst, LV.I, LV.B, LV.U, LV.S, LV.nil, Nat.reduceEqDiff, Nat.reduceAdd, Nat.reduceMul, Nat.reduceSub, Nat.reduceLeDiff, Nat.reduceBEq, Nat.reduceDiv, Nat.reduceMod, Int.reduceToNat, Int.reduceLT, Int.reduceLE, Int.reduceAdd, Int.reduceSub, Int.reduceMul, Int.reduceEq, Int.reduceNeg, reduceCtorEq, resV, resAll, ARes.ev, LV.flat, ite_true, ite_false, exists_eq_left', exists_eq_left, keyOf, implies_true, fillC, capOf]
  refine ev_loop (fun m fr M' => ∃ (d : Nat) (vs : List LV), d + m = 3 ∧ Pre M M' ∧ Live M' M.length (.row [.I x, .I y, .I z] true 0) ∧ Live M' (M.length + 1) (.row [.I 0, .I 0, .I 0, .nil, .nil, .nil] true 0) ∧ Live M' (M.length + 2) (.row vs true 0) ∧ vs.length = 3 ∧
    fr 1 = .W (bs x y z p) ∧ fr 2 = .ptr M.length 0 ∧ fr 4 = .ptr (M.length + 1) 0 ∧ fr 5 = .ptr (M.length + 2) 0 ∧ fr 10 = .I d ∧ (∀ j, j < d → ∃ a, vs[j]? = some (.ref a 0 (shdOf x y z j (pick x y z p)).length) ∧ M.length + 2 < a ∧ Live M' a (.row (intL (shdOf x y z j (pick x y z p))) true 1)) ∧
    (∀ i j a b n m, i < d → j < d → i ≠ j → vs[i]? = some (.ref a 0 n) → vs[j]? = some (.ref b 0 m) → a ≠ b)) 3
    ⟨0, [.nil, .nil, .nil], rfl, Pre.app _ _, Live.new, Live.newj rfl, Live.newj rfl, rfl, rfl, rfl, rfl, rfl, rfl, by omega, by omega⟩ ?_
  rintro m fr M' ⟨d, vs, hd, hpre, b2, b4, b5, hvl, f1, f2, f4, f5, f10, hj, hne⟩
  simp (disch := omega) only [f1, f2, f4, f5, f10, ↓SXd, SXu, slBounds, ↓sop, ↓aop, ↓reduceIte, LV.cells, AOp.dst, LV.I, LV.B, LV.U, LV.S, LV.nil, Nat.reduceEqDiff, Nat.reduceAdd, Nat.reduceMul, Nat.reduceSub, Nat.reduceLeDiff, Nat.reduceBEq, Nat.reduceDiv, Nat.reduceMod, Int.reduceToNat, Int.reduceLT, Int.reduceLE, Int.reduceAdd, Int.reduceSub, Int.reduceMul, Int.reduceEq, Int.reduceNeg, reduceCtorEq, resV, resAll, ARes.ev, LV.flat, ite_true, ite_false, exists_eq_left', exists_eq_left, keyOf, implies_true, fillC, capOf]
  refine condC_dec (fun hlt => ?_) (fun hlt => ?_)
  · have hd3 : d < 3 := by omega
    have hll := lines_le hS hd3
    have hvw := viewL_len (x := x) (y := y) (z := z) (d := d) (cs := pick x y z p)
    simp (disch := omega) only [f1, f2, f4, f5, f10, b2.cells, ↓SXd, SXu, slBounds, ↓sop, ↓aop, ↓reduceIte, LV.cells, AOp.dst, LV.I, LV.B, LV.U, LV.S, LV.nil, Nat.reduceEqDiff, Nat.reduceAdd, Nat.reduceMul, Nat.reduceSub, Nat.reduceLeDiff, Nat.reduceBEq, Nat.reduceDiv, Nat.reduceMod, Int.reduceToNat, Int.reduceLT, Int.reduceLE, Int.reduceAdd, Int.reduceSub, Int.reduceMul, Int.reduceEq, Int.reduceNeg, reduceCtorEq, resV, resAll, ARes.ev, LV.flat, ite_true, ite_false, exists_eq_left', exists_eq_left, keyOf, implies_true, fillC, capOf]
    refine callN_of (g_view hS hd3) ?_
    intro t N ht hp2 hn
    have b52 := b5.pre hp2
    simp (disch := omega) only [f1, f2, f4, f5, f10, ↓SXd, SXu, slBounds, ↓sop, ↓aop, ↓reduceIte, LV.cells, AOp.dst, LV.I, LV.B, LV.U, LV.S, LV.nil, Nat.reduceEqDiff, Nat.reduceAdd, Nat.reduceMul, Nat.reduceSub, Nat.reduceLeDiff, Nat.reduceBEq, Nat.reduceDiv, Nat.reduceMod, Int.reduceToNat, Int.reduceLT, Int.reduceLE, Int.reduceAdd, Int.reduceSub, Int.reduceMul, Int.reduceEq, Int.reduceNeg, reduceCtorEq, resV, resAll, ARes.ev, LV.flat, ite_true, ite_false, exists_eq_left', exists_eq_left, keyOf, implies_true, fillC, capOf]
    refine memK_one b52 (by omega) fun N2 k1 k2 k3 => ?_
    have hb5 := b5.lt
    have hn2 := live_step hn (by omega) k3
    have hset : (vs.set d (.ref t 0 (viewL x y z d (pick x y z p)).length))[d]? = some (.ref t 0 (viewL x y z d (pick x y z p)).length) := by rw [List.getElem?_set_self (by omega)]
    simp (disch := omega) only [f1, f2, f4, f5, f10, k2.cell, hset, ↓SXd, SXu, slBounds, ↓sop, ↓aop, ↓reduceIte, LV.cells, AOp.dst, LV.I, LV.B, LV.U, LV.S, LV.nil, Nat.reduceEqDiff, Nat.reduceAdd, Nat.reduceMul, Nat.reduceSub, Nat.reduceLeDiff, Nat.reduceBEq, Nat.reduceDiv, Nat.reduceMod, Int.reduceToNat, Int.reduceLT, Int.reduceLE, Int.reduceAdd, Int.reduceSub, Int.reduceMul, Int.reduceEq, Int.reduceNeg, reduceCtorEq, resV, resAll, ARes.ev, LV.flat, ite_true, ite_false, exists_eq_left', exists_eq_left, keyOf, implies_true, fillC, capOf]
    have hpre2 : Pre M N2 := pre_step (hpre.trans hp2) (by omega) (j := 0) k1 k3
    have hk2 := live_step (b2.pre hp2) (by omega) k3
    have hk4 := live_step (b4.pre hp2) (by omega) k3
    have hj2 : ∀ j, j < d → ∃ a, (vs.set d (.ref t 0 (viewL x y z d (pick x y z p)).length))[j]? = some (.ref a 0 (shdOf x y z j (pick x y z p)).length) ∧ M.length + 2 < a ∧ a ≠ t ∧ Live N2 a (.row (intL (shdOf x y z j (pick x y z p))) true 1) := fun j hjd => by
      obtain ⟨a, h1, h2, h3⟩ := hj j hjd
      have := h3.lt
      exact ⟨a, by rw [List.getElem?_set_ne (by omega)]; exact h1, h2, by omega, live_step (h3.pre hp2) (by omega) k3⟩
    generalize hV : vs.set d (.ref t 0 (viewL x y z d (pick x y z p)).length) = V at k2 hset hj2
    have hVl : V.length = 3 := by rw [← hV]; simpa using hvl
    refine ev_loop (fun m2 fr2 M2 => ∃ i : Nat, i + m2 = (viewL x y z d (pick x y z p)).length ∧ Pre M M2 ∧ Live M2 M.length (.row [.I x, .I y, .I z] true 0) ∧ Live M2 (M.length + 1) (.row [.I 0, .I 0, .I 0, .nil, .nil, .nil] true 0) ∧ Live M2 (M.length + 2) (.row V true 0) ∧
      Live M2 t (.row (intL (onesTo i (viewL x y z d (pick x y z p)))) true 1) ∧ (∀ j, j < d → ∃ a, V[j]? = some (.ref a 0 (shdOf x y z j (pick x y z p)).length) ∧ M.length + 2 < a ∧ a ≠ t ∧ Live M2 a (.row (intL (shdOf x y z j (pick x y z p))) true 1)) ∧
      fr2 1 = .W (bs x y z p) ∧ fr2 2 = .ptr M.length 0 ∧ fr2 4 = .ptr (M.length + 1) 0 ∧ fr2 5 = .ptr (M.length + 2) 0 ∧ fr2 6 = .I d ∧ fr2 10 = .I d ∧ fr2 21 = .ref t 0 (viewL x y z d (pick x y z p)).length ∧ fr2 22 = .I (viewL x y z d (pick x y z p)).length ∧ fr2 23 = .I i) (viewL x y z d (pick x y z p)).length
      ⟨0, by omega, hpre2, hk2, hk4, k2, hn2, hj2, f1, f2, f4, f5, rfl, f10, rfl, rfl, rfl⟩ ?_
    rintro m2 fr2 M2 ⟨i, hi, p2, c2, c4, c5, ct, cj, g1, g2, g4, g5, g6, g10, g21, g22, g23⟩
    simp (disch := omega) only [g1, g2, g4, g5, g6, g10, g21, g22, g23, ↓SXd, SXu, slBounds, ↓sop, ↓aop, ↓reduceIte, LV.cells, AOp.dst, LV.I, LV.B, LV.U, LV.S, LV.nil, Nat.reduceEqDiff, Nat.reduceAdd, Nat.reduceMul, Nat.reduceSub, Nat.reduceLeDiff, Nat.reduceBEq, Nat.reduceDiv, Nat.reduceMod, Int.reduceToNat, Int.reduceLT, Int.reduceLE, Int.reduceAdd, Int.reduceSub, Int.reduceMul, Int.reduceEq, Int.reduceNeg, reduceCtorEq, resV, resAll, ARes.ev, LV.flat, ite_true, ite_false, exists_eq_left', exists_eq_left, keyOf, implies_true, fillC, capOf]
    refine condC_dec (fun hlt2 => ?_) (fun hlt2 => ?_)
    · have hil : i < (viewL x y z d (pick x y z p)).length := by omega
      have hol := onesTo_len (v := viewL x y z d (pick x y z p)) (k := i)
      have hg := Ints.get ct.has (k := i) (by omega)
      rw [onesTo_get hil, Nat.zero_add] at hg
      have hst := onesTo_step hil
      simp (disch := omega) only [g1, g2, g4, g5, g6, g10, g21, g22, g23, hg, Nat.mul_one, c5.cell, hset, maxV, if_true, ite_true, ↓SXd, SXu, slBounds, ↓sop, ↓aop, ↓reduceIte, LV.cells, AOp.dst, LV.I, LV.B, LV.U, LV.S, LV.nil, Nat.reduceEqDiff, Nat.reduceAdd, Nat.reduceMul, Nat.reduceSub, Nat.reduceLeDiff, Nat.reduceBEq, Nat.reduceDiv, Nat.reduceMod, Int.reduceToNat, Int.reduceLT, Int.reduceLE, Int.reduceAdd, Int.reduceSub, Int.reduceMul, Int.reduceEq, Int.reduceNeg, reduceCtorEq, resV, resAll, ARes.ev, LV.flat, ite_true, ite_false, exists_eq_left', exists_eq_left, keyOf, implies_true, fillC, capOf]
      refine memK_int (k := i) ct (by omega) fun N3 q1 q2 q3 => ?_
      simp (disch := omega) only [g1, g2, g4, g5, g6, g10, g21, g22, g23, ↓SXd, SXu, slBounds, ↓sop, ↓aop, ↓reduceIte, LV.cells, AOp.dst, LV.I, LV.B, LV.U, LV.S, LV.nil, Nat.reduceEqDiff, Nat.reduceAdd, Nat.reduceMul, Nat.reduceSub, Nat.reduceLeDiff, Nat.reduceBEq, Nat.reduceDiv, Nat.reduceMod, Int.reduceToNat, Int.reduceLT, Int.reduceLE, Int.reduceAdd, Int.reduceSub, Int.reduceMul, Int.reduceEq, Int.reduceNeg, reduceCtorEq, resV, resAll, ARes.ev, LV.flat, ite_true, ite_false, exists_eq_left', exists_eq_left, keyOf, implies_true, fillC, capOf]
      rw [hst] at q2
      exact ⟨m2 - 1, by omega, i + 1, by omega, pre_step p2 (by omega) (j := 0) q1 q3, live_step c2 (by omega) q3, live_step c4 (by omega) q3, live_step c5 (by omega) q3, q2, fun j hjd => by
        obtain ⟨a, h1, h2, h3, h4⟩ := cj j hjd
        exact ⟨a, h1, h2, h3, live_step h4 h3 q3⟩, g1, g2, g4, g5, g6, g10, g21, g22, eqI (natI _)⟩
    · simp (disch := omega) only [g1, g2, g4, g5, g6, g10, g21, g22, g23, ↓SXd, SXu, slBounds, ↓sop, ↓aop, ↓reduceIte, LV.cells, AOp.dst, LV.I, LV.B, LV.U, LV.S, LV.nil, Nat.reduceEqDiff, Nat.reduceAdd, Nat.reduceMul, Nat.reduceSub, Nat.reduceLeDiff, Nat.reduceBEq, Nat.reduceDiv, Nat.reduceMod, Int.reduceToNat, Int.reduceLT, Int.reduceLE, Int.reduceAdd, Int.reduceSub, Int.reduceMul, Int.reduceEq, Int.reduceNeg, reduceCtorEq, resV, resAll, ARes.ev, LV.flat, ite_true, ite_false, exists_eq_left', exists_eq_left, keyOf, implies_true, fillC, capOf]
      have : i = (viewL x y z d (pick x y z p)).length := by omega
      subst this
      have hfin : onesTo (viewL x y z d (pick x y z p)).length (viewL x y z d (pick x y z p)) = shdOf x y z d (pick x y z p) := by unfold onesTo shdOf; simp
      rw [hfin] at ct
      have hsl : (viewL x y z d (pick x y z p)).length = (shdOf x y z d (pick x y z p)).length := by unfold shdOf; rw [onesL_len]
      rw [hsl] at hset
      have hall : ∀ j, j < d + 1 → ∃ a, V[j]? = some (.ref a 0 (shdOf x y z j (pick x y z p)).length) ∧ M.length + 2 < a ∧ (j = d → a = t) ∧ (j < d → a ≠ t) ∧ Live M2 a (.row (intL (shdOf x y z j (pick x y z p))) true 1) := fun j hjd => by
        rcases Nat.lt_or_ge j d with h | h
        · obtain ⟨a, h1, h2, h3, h4⟩ := cj j h
          exact ⟨a, h1, h2, by omega, fun _ => h3, h4⟩
        · have : j = d := by omega
          subst this
          exact ⟨t, hset, by omega, fun _ => rfl, by omega, ct⟩
      refine ⟨m - 1, by omega, d + 1, V, by omega, p2, c2, c4, c5, hVl, g1, g2, g4, g5, eqI (natI _), fun j hjd => ?_, ?_⟩
      · obtain ⟨a, h1, h2, _, _, h4⟩ := hall j hjd
        exact ⟨a, h1, h2, h4⟩
      · intro i j a b n m hi hj' hij ha hb
        obtain ⟨a', h1, _, h3, h4, _⟩ := hall i hi
        obtain ⟨b', k1, _, k3, k4, _⟩ := hall j hj'
        rw [h1] at ha
        rw [k1] at hb
        simp only [Option.some.injEq, LV.ref.injEq] at ha hb
        rcases Nat.lt_or_ge i d with hi1 | hi1
        · rcases Nat.lt_or_ge j d with hj1 | hj1
          · have hVi : V[i]? = vs[i]? := by rw [← hV, List.getElem?_set_ne (by omega)]
            have hVj : V[j]? = vs[j]? := by rw [← hV, List.getElem?_set_ne (by omega)]
            rw [hVi, ← ha.1.symm] at h1
            rw [hVj, ← hb.1.symm] at k1
            rw [← ha.1, ← hb.1]
            exact hne i j a' b' _ _ hi1 hj1 hij (by rw [← hVi, ‹V[i]? = vs[i]?›]; rw [ha.1]; exact h1) (by rw [hb.1]; exact k1)
          · have := h4 hi1; have := k3 (by omega); omega
        · have := h3 (by omega); have := k4 (by omega); omega
  · simp (disch := omega) only [f1, f2, f4, f5, f10, ↓SXd, SXu, slBounds, ↓sop, ↓aop, ↓reduceIte, LV.cells, AOp.dst, LV.I, LV.B, LV.U, LV.S, LV.nil, Nat.reduceEqDiff, Nat.reduceAdd, Nat.reduceMul, Nat.reduceSub, Nat.reduceLeDiff, Nat.reduceBEq, Nat.reduceDiv, Nat.reduceMod, Int.reduceToNat, Int.reduceLT, Int.reduceLE, Int.reduceAdd, Int.reduceSub, Int.reduceMul, Int.reduceEq, Int.reduceNeg, reduceCtorEq, resV, resAll, ARes.ev, LV.flat, ite_true, ite_false, exists_eq_left', exists_eq_left, keyOf, implies_true, fillC, capOf]
    have : d = 3 := by omega
    subst this
    obtain ⟨a0, e0, _, l0⟩ := hj 0 (by omega)
    obtain ⟨a1, e1, _, l1⟩ := hj 1 (by omega)
    obtain ⟨a2, e2, _, l2⟩ := hj 2 (by omega)
    have n01 := hne 0 1 _ _ _ _ (by omega) (by omega) (by omega) e0 e1
    have n02 := hne 0 2 _ _ _ _ (by omega) (by omega) (by omega) e0 e2
    have n12 := hne 1 2 _ _ _ _ (by omega) (by omega) (by omega) e1 e2
    simp (disch := omega) only [f1, f2, f4, f5, f10, b2.cell, b5.cell, e0, e1, e2, splice, ↓SXd, SXu, slBounds, ↓sop, ↓aop, ↓reduceIte, LV.cells, AOp.dst, LV.I, LV.B, LV.U, LV.S, LV.nil, Nat.reduceEqDiff, Nat.reduceAdd, Nat.reduceMul, Nat.reduceSub, Nat.reduceLeDiff, Nat.reduceBEq, Nat.reduceDiv, Nat.reduceMod, Int.reduceToNat, Int.reduceLT, Int.reduceLE, Int.reduceAdd, Int.reduceSub, Int.reduceMul, Int.reduceEq, Int.reduceNeg, reduceCtorEq, resV, resAll, ARes.ev, LV.flat, ite_true, ite_false, exists_eq_left', exists_eq_left, keyOf, implies_true, fillC, capOf]
    refine memK_box b4 (by simp) fun N3 q1 q2 q3 => ?_
    simp (disch := omega) only [f1, f2, f4, f5, f10, q2.cells, ↓SXd, SXu, slBounds, ↓sop, ↓aop, ↓reduceIte, LV.cells, AOp.dst, LV.I, LV.B, LV.U, LV.S, LV.nil, Nat.reduceEqDiff, Nat.reduceAdd, Nat.reduceMul, Nat.reduceSub, Nat.reduceLeDiff, Nat.reduceBEq, Nat.reduceDiv, Nat.reduceMod, Int.reduceToNat, Int.reduceLT, Int.reduceLE, Int.reduceAdd, Int.reduceSub, Int.reduceMul, Int.reduceEq, Int.reduceNeg, reduceCtorEq, resV, resAll, ARes.ev, LV.flat, ite_true, ite_false, exists_eq_left', exists_eq_left, keyOf, implies_true, fillC, capOf]
    exact ⟨a2, a1, a0, rfl, by omega, by omega, by omega, Ne.symm n12, Ne.symm n02, Ne.symm n01, live_step l2 (by omega) q3, live_step l1 (by omega) q3, live_step l0 (by omega) q3, pre_step hpre (by omega) (j := 0) q1 q3⟩
end Go.Ab

/- Contracts: whether a heap has a shadow, the program's side; IsShadowOf, both sides. -/
namespace Go.Ab
open Go
set_option linter.unusedSimpArgs false
set_option linter.unusedVariables false
set_option maxRecDepth 20000

theorem beqXYZ {a b c a' b' c' : Int} : (a == a' && (b == b' && c == c')) = decide (a = a' ∧ b = b' ∧ c = c') := by
  rw [Bool.eq_iff_iff]; simp
theorem g_Shadow_same {x y z x' y' z' : Int} {t o t' o' t2 o2 u v u' v' u2 v2 : Nat} {tp fr sd tp' fr' sd' : List Int} {M : Mem} (h1 : Ints M t o tp) (h2 : Ints M t' o' fr) (h3 : Ints M t2 o2 sd) (l1 : tp.length ≤ 1000000000) (l2 : fr.length ≤ 1000000000) (l3 : sd.length ≤ 1000000000)
    (k1 : Ints M u v tp') (k2 : Ints M u' v' fr') (k3 : Ints M u2 v2 sd') (m1 : tp'.length ≤ 1000000000) (m2 : fr'.length ≤ 1000000000) (m3 : sd'.length ≤ 1000000000) :
    CallsTo PG F.impl_Shadow_same [.agg [.I x, .I y, .I z, .ref t o tp.length, .ref t' o' fr.length, .ref t2 o2 sd.length], .agg [.I x', .I y', .I z', .ref u v tp'.length, .ref u' v' fr'.length, .ref u2 v2 sd'.length]] M
      (.B (decide ((x = x' ∧ y = y' ∧ z = z') ∧ tp = tp' ∧ fr = fr' ∧ sd = sd'))) M := by
  refine calls_run K.impl_Shadow_same rfl ?_
  simp (disch := omega) only [C.impl_Shadow_same, ↓SXd, SXu, slBounds, ↓sop, ↓aop, ↓reduceIte, LV.cells, AOp.dst, LV.I, LV.B, LV.U, LV.S, LV.nil, Nat.reduceEqDiff, Nat.reduceAdd, Nat.reduceMul, Nat.reduceSub, Nat.reduceLeDiff, Nat.reduceBEq, Nat.reduceDiv, Nat.reduceMod, Int.reduceToNat, Int.reduceLT, Int.reduceLE, Int.reduceAdd, Int.reduceSub, Int.reduceMul, Int.reduceEq, Int.reduceNeg, reduceCtorEq, resV, resAll, ARes.ev, LV.flat, ite_true, ite_false, exists_eq_left', exists_eq_left, keyOf, implies_true, fillC, capOf]
  refine callK_of (g_Shadow_box) ?_
  simp (disch := omega) only [↓SXd, SXu, slBounds, ↓sop, ↓aop, ↓reduceIte, LV.cells, AOp.dst, LV.I, LV.B, LV.U, LV.S, LV.nil, Nat.reduceEqDiff, Nat.reduceAdd, Nat.reduceMul, Nat.reduceSub, Nat.reduceLeDiff, Nat.reduceBEq, Nat.reduceDiv, Nat.reduceMod, Int.reduceToNat, Int.reduceLT, Int.reduceLE, Int.reduceAdd, Int.reduceSub, Int.reduceMul, Int.reduceEq, Int.reduceNeg, reduceCtorEq, resV, resAll, ARes.ev, LV.flat, ite_true, ite_false, exists_eq_left', exists_eq_left, keyOf, implies_true, fillC, capOf]
  refine callK_of (g_Shadow_box) ?_
  simp (disch := omega) only [eqV, eqC, if_true, ite_true, Bool.and_true, ↓SXd, SXu, slBounds, ↓sop, ↓aop, ↓reduceIte, LV.cells, AOp.dst, LV.I, LV.B, LV.U, LV.S, LV.nil, Nat.reduceEqDiff, Nat.reduceAdd, Nat.reduceMul, Nat.reduceSub, Nat.reduceLeDiff, Nat.reduceBEq, Nat.reduceDiv, Nat.reduceMod, Int.reduceToNat, Int.reduceLT, Int.reduceLE, Int.reduceAdd, Int.reduceSub, Int.reduceMul, Int.reduceEq, Int.reduceNeg, reduceCtorEq, resV, resAll, ARes.ev, LV.flat, ite_true, ite_false, exists_eq_left', exists_eq_left, keyOf, implies_true, fillC, capOf]
  rw [beqXYZ]
  by_cases hd : x = x' ∧ y = y' ∧ z = z'
  · simp (disch := omega) only [hd, true_and, ↓SXd, SXu, slBounds, ↓sop, ↓aop, ↓reduceIte, LV.cells, AOp.dst, LV.I, LV.B, LV.U, LV.S, LV.nil, Nat.reduceEqDiff, Nat.reduceAdd, Nat.reduceMul, Nat.reduceSub, Nat.reduceLeDiff, Nat.reduceBEq, Nat.reduceDiv, Nat.reduceMod, Int.reduceToNat, Int.reduceLT, Int.reduceLE, Int.reduceAdd, Int.reduceSub, Int.reduceMul, Int.reduceEq, Int.reduceNeg, reduceCtorEq, resV, resAll, ARes.ev, LV.flat, ite_true, ite_false, exists_eq_left', exists_eq_left, keyOf, implies_true, fillC, capOf]
    refine callK_of (g_equalI h1.app k1.app l1 m1) ?_
    simp (disch := omega) only [↓SXd, SXu, slBounds, ↓sop, ↓aop, ↓reduceIte, LV.cells, AOp.dst, LV.I, LV.B, LV.U, LV.S, LV.nil, Nat.reduceEqDiff, Nat.reduceAdd, Nat.reduceMul, Nat.reduceSub, Nat.reduceLeDiff, Nat.reduceBEq, Nat.reduceDiv, Nat.reduceMod, Int.reduceToNat, Int.reduceLT, Int.reduceLE, Int.reduceAdd, Int.reduceSub, Int.reduceMul, Int.reduceEq, Int.reduceNeg, reduceCtorEq, resV, resAll, ARes.ev, LV.flat, ite_true, ite_false, exists_eq_left', exists_eq_left, keyOf, implies_true, fillC, capOf]
    by_cases e1 : tp = tp'
    · simp (disch := omega) only [e1, true_and, ↓SXd, SXu, slBounds, ↓sop, ↓aop, ↓reduceIte, LV.cells, AOp.dst, LV.I, LV.B, LV.U, LV.S, LV.nil, Nat.reduceEqDiff, Nat.reduceAdd, Nat.reduceMul, Nat.reduceSub, Nat.reduceLeDiff, Nat.reduceBEq, Nat.reduceDiv, Nat.reduceMod, Int.reduceToNat, Int.reduceLT, Int.reduceLE, Int.reduceAdd, Int.reduceSub, Int.reduceMul, Int.reduceEq, Int.reduceNeg, reduceCtorEq, resV, resAll, ARes.ev, LV.flat, ite_true, ite_false, exists_eq_left', exists_eq_left, keyOf, implies_true, fillC, capOf]
      refine callK_of (g_equalI h2.app k2.app l2 m2) ?_
      simp (disch := omega) only [↓SXd, SXu, slBounds, ↓sop, ↓aop, ↓reduceIte, LV.cells, AOp.dst, LV.I, LV.B, LV.U, LV.S, LV.nil, Nat.reduceEqDiff, Nat.reduceAdd, Nat.reduceMul, Nat.reduceSub, Nat.reduceLeDiff, Nat.reduceBEq, Nat.reduceDiv, Nat.reduceMod, Int.reduceToNat, Int.reduceLT, Int.reduceLE, Int.reduceAdd, Int.reduceSub, Int.reduceMul, Int.reduceEq, Int.reduceNeg, reduceCtorEq, resV, resAll, ARes.ev, LV.flat, ite_true, ite_false, exists_eq_left', exists_eq_left, keyOf, implies_true, fillC, capOf]
      by_cases e2 : fr = fr'
      · simp (disch := omega) only [e2, true_and, ↓SXd, SXu, slBounds, ↓sop, ↓aop, ↓reduceIte, LV.cells, AOp.dst, LV.I, LV.B, LV.U, LV.S, LV.nil, Nat.reduceEqDiff, Nat.reduceAdd, Nat.reduceMul, Nat.reduceSub, Nat.reduceLeDiff, Nat.reduceBEq, Nat.reduceDiv, Nat.reduceMod, Int.reduceToNat, Int.reduceLT, Int.reduceLE, Int.reduceAdd, Int.reduceSub, Int.reduceMul, Int.reduceEq, Int.reduceNeg, reduceCtorEq, resV, resAll, ARes.ev, LV.flat, ite_true, ite_false, exists_eq_left', exists_eq_left, keyOf, implies_true, fillC, capOf]
        refine callK_of (g_equalI h3.app k3.app l3 m3) ?_
        simp (disch := omega) only [↓SXd, SXu, slBounds, ↓sop, ↓aop, ↓reduceIte, LV.cells, AOp.dst, LV.I, LV.B, LV.U, LV.S, LV.nil, Nat.reduceEqDiff, Nat.reduceAdd, Nat.reduceMul, Nat.reduceSub, Nat.reduceLeDiff, Nat.reduceBEq, Nat.reduceDiv, Nat.reduceMod, Int.reduceToNat, Int.reduceLT, Int.reduceLE, Int.reduceAdd, Int.reduceSub, Int.reduceMul, Int.reduceEq, Int.reduceNeg, reduceCtorEq, resV, resAll, ARes.ev, LV.flat, ite_true, ite_false, exists_eq_left', exists_eq_left, keyOf, implies_true, fillC, capOf]
        exact cmp_drop rfl
      · simp (disch := omega) only [e2, false_and, ↓SXd, SXu, slBounds, ↓sop, ↓aop, ↓reduceIte, LV.cells, AOp.dst, LV.I, LV.B, LV.U, LV.S, LV.nil, Nat.reduceEqDiff, Nat.reduceAdd, Nat.reduceMul, Nat.reduceSub, Nat.reduceLeDiff, Nat.reduceBEq, Nat.reduceDiv, Nat.reduceMod, Int.reduceToNat, Int.reduceLT, Int.reduceLE, Int.reduceAdd, Int.reduceSub, Int.reduceMul, Int.reduceEq, Int.reduceNeg, reduceCtorEq, resV, resAll, ARes.ev, LV.flat, ite_true, ite_false, exists_eq_left', exists_eq_left, keyOf, implies_true, fillC, capOf]
        exact cmp_drop rfl
    · simp (disch := omega) only [e1, false_and, ↓SXd, SXu, slBounds, ↓sop, ↓aop, ↓reduceIte, LV.cells, AOp.dst, LV.I, LV.B, LV.U, LV.S, LV.nil, Nat.reduceEqDiff, Nat.reduceAdd, Nat.reduceMul, Nat.reduceSub, Nat.reduceLeDiff, Nat.reduceBEq, Nat.reduceDiv, Nat.reduceMod, Int.reduceToNat, Int.reduceLT, Int.reduceLE, Int.reduceAdd, Int.reduceSub, Int.reduceMul, Int.reduceEq, Int.reduceNeg, reduceCtorEq, resV, resAll, ARes.ev, LV.flat, ite_true, ite_false, exists_eq_left', exists_eq_left, keyOf, implies_true, fillC, capOf]
      exact cmp_drop rfl
  · simp (disch := omega) only [hd, false_and, ↓SXd, SXu, slBounds, ↓sop, ↓aop, ↓reduceIte, LV.cells, AOp.dst, LV.I, LV.B, LV.U, LV.S, LV.nil, Nat.reduceEqDiff, Nat.reduceAdd, Nat.reduceMul, Nat.reduceSub, Nat.reduceLeDiff, Nat.reduceBEq, Nat.reduceDiv, Nat.reduceMod, Int.reduceToNat, Int.reduceLT, Int.reduceLE, Int.reduceAdd, Int.reduceSub, Int.reduceMul, Int.reduceEq, Int.reduceNeg, reduceCtorEq, resV, resAll, ARes.ev, LV.flat, ite_true, ite_false, exists_eq_left', exists_eq_left, keyOf, implies_true, fillC, capOf]
    exact cmp_drop rfl
section
variable {x y z : Int} {t o t' o' t2 o2 : Nat} {tp fr sd : List Int} {M : Mem} (h1 : Ints M t o tp) (h2 : Ints M t' o' fr) (h3 : Ints M t2 o2 sd) (l1 : tp.length ≤ 1000000000) (l2 : fr.length ≤ 1000000000) (l3 : sd.length ≤ 1000000000)
include h1 h2 h3 l1 l2 l3
theorem g_isOf {p : Cell → Bool} (hS : Sides x y z) :
    CallsR PG F.impl_Shadow_isOf [.agg [.I x, .I y, .I z, .ref t o tp.length, .ref t' o' fr.length, .ref t2 o2 sd.length], .W (bs x y z p)] M fun v N => v = .B (decide (HasShd x y z tp fr sd (pick x y z p))) ∧ Pre M N := by
  have q2 := lines_le hS (d := 2) (by omega)
  have q1 := lines_le hS (d := 1) (by omega)
  have q0 := lines_le hS (d := 0) (by omega)
  have k2 := shdOf_len (x := x) (y := y) (z := z) (d := 2) (cs := pick x y z p)
  have k1 := shdOf_len (x := x) (y := y) (z := z) (d := 1) (cs := pick x y z p)
  have k0 := shdOf_len (x := x) (y := y) (z := z) (d := 0) (cs := pick x y z p)
  refine callsR_run K.impl_Shadow_isOf rfl ?_
  simp (disch := omega) only [C.impl_Shadow_isOf, ↓SXd, SXu, slBounds, ↓sop, ↓aop, ↓reduceIte, LV.cells, AOp.dst, LV.I, LV.B, LV.U, LV.S, LV.nil, Nat.reduceEqDiff, Nat.reduceAdd, Nat.reduceMul, Nat.reduceSub, Nat.reduceLeDiff, Nat.reduceBEq, Nat.reduceDiv, Nat.reduceMod, Int.reduceToNat, Int.reduceLT, Int.reduceLE, Int.reduceAdd, Int.reduceSub, Int.reduceMul, Int.reduceEq, Int.reduceNeg, reduceCtorEq, resV, resAll, ARes.ev, LV.flat, ite_true, ite_false, exists_eq_left', exists_eq_left, keyOf, implies_true, fillC, capOf]
  refine callK_of (g_Shadow_box) ?_
  simp (disch := omega) only [↓SXd, SXu, slBounds, ↓sop, ↓aop, ↓reduceIte, LV.cells, AOp.dst, LV.I, LV.B, LV.U, LV.S, LV.nil, Nat.reduceEqDiff, Nat.reduceAdd, Nat.reduceMul, Nat.reduceSub, Nat.reduceLeDiff, Nat.reduceBEq, Nat.reduceDiv, Nat.reduceMod, Int.reduceToNat, Int.reduceLT, Int.reduceLE, Int.reduceAdd, Int.reduceSub, Int.reduceMul, Int.reduceEq, Int.reduceNeg, reduceCtorEq, resV, resAll, ARes.ev, LV.flat, ite_true, ite_false, exists_eq_left', exists_eq_left, keyOf, implies_true, fillC, capOf]
  refine callR_of (g_shadow hS) ?_
  rintro _ N ⟨a, b, c, rfl, ha, hb, hc, _, _, _, la, lb, lc, hp⟩
  have hM : Pre M N := (Pre.app _ _).trans hp
  simp (disch := omega) only [(keepL_pr hp), ↓SXd, SXu, slBounds, ↓sop, ↓aop, ↓reduceIte, LV.cells, AOp.dst, LV.I, LV.B, LV.U, LV.S, LV.nil, Nat.reduceEqDiff, Nat.reduceAdd, Nat.reduceMul, Nat.reduceSub, Nat.reduceLeDiff, Nat.reduceBEq, Nat.reduceDiv, Nat.reduceMod, Int.reduceToNat, Int.reduceLT, Int.reduceLE, Int.reduceAdd, Int.reduceSub, Int.reduceMul, Int.reduceEq, Int.reduceNeg, reduceCtorEq, resV, resAll, ARes.ev, LV.flat, ite_true, ite_false, exists_eq_left', exists_eq_left, keyOf, implies_true, fillC, capOf]
  refine callK_of (g_Shadow_same (h1.pre hM) (h2.pre hM) (h3.pre hM) l1 l2 l3 la.has lb.has lc.has (by omega) (by omega) (by omega)) ?_
  simp (disch := omega) only [↓SXd, SXu, slBounds, ↓sop, ↓aop, ↓reduceIte, LV.cells, AOp.dst, LV.I, LV.B, LV.U, LV.S, LV.nil, Nat.reduceEqDiff, Nat.reduceAdd, Nat.reduceMul, Nat.reduceSub, Nat.reduceLeDiff, Nat.reduceBEq, Nat.reduceDiv, Nat.reduceMod, Int.reduceToNat, Int.reduceLT, Int.reduceLE, Int.reduceAdd, Int.reduceSub, Int.reduceMul, Int.reduceEq, Int.reduceNeg, reduceCtorEq, resV, resAll, ARes.ev, LV.flat, ite_true, ite_false, exists_eq_left', exists_eq_left, keyOf, implies_true, fillC, capOf]
  refine ⟨eqB (decide_eq_decide.2 ⟨fun h => ⟨h.1.symm, h.2.1.symm, h.2.2.symm⟩, fun h => ⟨h.1.symm, h.2.1.symm, h.2.2.symm⟩⟩), hM⟩
theorem g_fits (hok : ShdOK x y z tp fr sd) :
    CallsR PG F.impl_Shadow_fits [.agg [.I x, .I y, .I z, .ref t o tp.length, .ref t' o' fr.length, .ref t2 o2 sd.length]] M fun v N => v = .B (decide (HasShd x y z tp fr sd (pick x y z (allowedB y z tp fr sd)))) ∧ Pre M N := by
  refine callsR_run K.impl_Shadow_fits rfl ?_
  simp (disch := omega) only [C.impl_Shadow_fits, ↓SXd, SXu, slBounds, ↓sop, ↓aop, ↓reduceIte, LV.cells, AOp.dst, LV.I, LV.B, LV.U, LV.S, LV.nil, Nat.reduceEqDiff, Nat.reduceAdd, Nat.reduceMul, Nat.reduceSub, Nat.reduceLeDiff, Nat.reduceBEq, Nat.reduceDiv, Nat.reduceMod, Int.reduceToNat, Int.reduceLT, Int.reduceLE, Int.reduceAdd, Int.reduceSub, Int.reduceMul, Int.reduceEq, Int.reduceNeg, reduceCtorEq, resV, resAll, ARes.ev, LV.flat, ite_true, ite_false, exists_eq_left', exists_eq_left, keyOf, implies_true, fillC, capOf]
  refine callK_of (g_allowed h1.app h2.app h3.app hok) ?_
  simp (disch := omega) only [↓SXd, SXu, slBounds, ↓sop, ↓aop, ↓reduceIte, LV.cells, AOp.dst, LV.I, LV.B, LV.U, LV.S, LV.nil, Nat.reduceEqDiff, Nat.reduceAdd, Nat.reduceMul, Nat.reduceSub, Nat.reduceLeDiff, Nat.reduceBEq, Nat.reduceDiv, Nat.reduceMod, Int.reduceToNat, Int.reduceLT, Int.reduceLE, Int.reduceAdd, Int.reduceSub, Int.reduceMul, Int.reduceEq, Int.reduceNeg, reduceCtorEq, resV, resAll, ARes.ev, LV.flat, ite_true, ite_false, exists_eq_left', exists_eq_left, keyOf, implies_true, fillC, capOf]
  refine callR_of (g_isOf h1.app h2.app h3.app l1 l2 l3 hok.1) ?_
  rintro _ N ⟨rfl, hp⟩
  simp (disch := omega) only [↓SXd, SXu, slBounds, ↓sop, ↓aop, ↓reduceIte, LV.cells, AOp.dst, LV.I, LV.B, LV.U, LV.S, LV.nil, Nat.reduceEqDiff, Nat.reduceAdd, Nat.reduceMul, Nat.reduceSub, Nat.reduceLeDiff, Nat.reduceBEq, Nat.reduceDiv, Nat.reduceMod, Int.reduceToNat, Int.reduceLT, Int.reduceLE, Int.reduceAdd, Int.reduceSub, Int.reduceMul, Int.reduceEq, Int.reduceNeg, reduceCtorEq, resV, resAll, ARes.ev, LV.flat, ite_true, ite_false, exists_eq_left', exists_eq_left, keyOf, implies_true, fillC, capOf]
  exact ⟨rfl, (Pre.app _ _).trans hp⟩
/-- A valid shadow whose lists fit together. -/
theorem g_isFitting :
    CallsR PG F.impl_isFitting [.agg [.I x, .I y, .I z, .ref t o tp.length, .ref t' o' fr.length, .ref t2 o2 sd.length]] M fun v N => v = .B (decide (ShdOK x y z tp fr sd ∧ HasShd x y z tp fr sd (pick x y z (allowedB y z tp fr sd)))) ∧ Pre M N := by
  refine callsR_run K.impl_isFitting rfl ?_
  simp (disch := omega) only [C.impl_isFitting, ↓SXd, SXu, slBounds, ↓sop, ↓aop, ↓reduceIte, LV.cells, AOp.dst, LV.I, LV.B, LV.U, LV.S, LV.nil, Nat.reduceEqDiff, Nat.reduceAdd, Nat.reduceMul, Nat.reduceSub, Nat.reduceLeDiff, Nat.reduceBEq, Nat.reduceDiv, Nat.reduceMod, Int.reduceToNat, Int.reduceLT, Int.reduceLE, Int.reduceAdd, Int.reduceSub, Int.reduceMul, Int.reduceEq, Int.reduceNeg, reduceCtorEq, resV, resAll, ARes.ev, LV.flat, ite_true, ite_false, exists_eq_left', exists_eq_left, keyOf, implies_true, fillC, capOf]
  refine callK_of (g_IsShadow h1.app h2.app h3.app l1 l2 l3) ?_
  simp (disch := omega) only [↓SXd, SXu, slBounds, ↓sop, ↓aop, ↓reduceIte, LV.cells, AOp.dst, LV.I, LV.B, LV.U, LV.S, LV.nil, Nat.reduceEqDiff, Nat.reduceAdd, Nat.reduceMul, Nat.reduceSub, Nat.reduceLeDiff, Nat.reduceBEq, Nat.reduceDiv, Nat.reduceMod, Int.reduceToNat, Int.reduceLT, Int.reduceLE, Int.reduceAdd, Int.reduceSub, Int.reduceMul, Int.reduceEq, Int.reduceNeg, reduceCtorEq, resV, resAll, ARes.ev, LV.flat, ite_true, ite_false, exists_eq_left', exists_eq_left, keyOf, implies_true, fillC, capOf]
  by_cases hok : ShdOK x y z tp fr sd
  · simp (disch := omega) only [hok, ↓SXd, SXu, slBounds, ↓sop, ↓aop, ↓reduceIte, LV.cells, AOp.dst, LV.I, LV.B, LV.U, LV.S, LV.nil, Nat.reduceEqDiff, Nat.reduceAdd, Nat.reduceMul, Nat.reduceSub, Nat.reduceLeDiff, Nat.reduceBEq, Nat.reduceDiv, Nat.reduceMod, Int.reduceToNat, Int.reduceLT, Int.reduceLE, Int.reduceAdd, Int.reduceSub, Int.reduceMul, Int.reduceEq, Int.reduceNeg, reduceCtorEq, resV, resAll, ARes.ev, LV.flat, ite_true, ite_false, exists_eq_left', exists_eq_left, keyOf, implies_true, fillC, capOf]
    refine callR_of (g_fits h1.app h2.app h3.app l1 l2 l3 hok) ?_
    rintro _ N ⟨rfl, hp⟩
    simp (disch := omega) only [↓SXd, SXu, slBounds, ↓sop, ↓aop, ↓reduceIte, LV.cells, AOp.dst, LV.I, LV.B, LV.U, LV.S, LV.nil, Nat.reduceEqDiff, Nat.reduceAdd, Nat.reduceMul, Nat.reduceSub, Nat.reduceLeDiff, Nat.reduceBEq, Nat.reduceDiv, Nat.reduceMod, Int.reduceToNat, Int.reduceLT, Int.reduceLE, Int.reduceAdd, Int.reduceSub, Int.reduceMul, Int.reduceEq, Int.reduceNeg, reduceCtorEq, resV, resAll, ARes.ev, LV.flat, ite_true, ite_false, exists_eq_left', exists_eq_left, keyOf, implies_true, fillC, capOf]
    exact ⟨rfl, (Pre.app _ _).trans hp⟩
  · simp (disch := omega) only [hok, false_and, ↓SXd, SXu, slBounds, ↓sop, ↓aop, ↓reduceIte, LV.cells, AOp.dst, LV.I, LV.B, LV.U, LV.S, LV.nil, Nat.reduceEqDiff, Nat.reduceAdd, Nat.reduceMul, Nat.reduceSub, Nat.reduceLeDiff, Nat.reduceBEq, Nat.reduceDiv, Nat.reduceMod, Int.reduceToNat, Int.reduceLT, Int.reduceLE, Int.reduceAdd, Int.reduceSub, Int.reduceMul, Int.reduceEq, Int.reduceNeg, reduceCtorEq, resV, resAll, ARes.ev, LV.flat, ite_true, ite_false, exists_eq_left', exists_eq_left, keyOf, implies_true, fillC, capOf]
    exact ⟨rfl, Pre.app _ _⟩

/-- What IsShadowOf returns. -/
noncomputable def isShdOf (x y z : Int) (tp fr sd : List Int) (x' y' z' : Int) (cs : List Cell) : LV := .tup [.B (decide ((ShdOK x y z tp fr sd ∧ HeapOK x' y' z' cs) ∧ (x = x' ∧ y = y' ∧ z = z') ∧ HasShd x y z tp fr sd cs)), .B (decide (ShdOK x y z tp fr sd ∧ HeapOK x' y' z' cs))]
variable {x' y' z' : Int} {q r : Nat} {cs : List Cell} (h : Tri M q r cs) (hn : cs.length ≤ 1000000000)
include h hn
end
end Go.Ab

/- The abstract code of some functions (written by a program of mine from the translation, by way of prepF). -/
namespace Go.Ab.C
open Go.Ab
def math_bits_OnesCount64 : AFn :=
  ⟨1, 35, [.tmp 2],
    .seq (.ops [(none, .mv 2 (.c (.I 0)))])
    (.seq (.ops [(none, .mv 3 (.t 0)),
        (none, .bin 4 .shr (.t 3) (.c (.U 1))),
        (none, .bin 5 .and (.t 4) (.c (.U 6148914691236517205))),
        (none, .mv 6 (.t 0)),
        (none, .bin 7 .and (.t 6) (.c (.U 6148914691236517205))),
        (none, .bin 8 .add (.t 5) (.t 7)),
        (none, .mv 0 (.t 8))])
     (.seq (.ops [(none, .mv 9 (.t 0)),
         (none, .bin 10 .shr (.t 9) (.c (.U 2))),
         (none, .bin 11 .and (.t 10) (.c (.U 3689348814741910323))),
         (none, .mv 12 (.t 0)),
         (none, .bin 13 .and (.t 12) (.c (.U 3689348814741910323))),
         (none, .bin 14 .add (.t 11) (.t 13)),
         (none, .mv 0 (.t 14))])
      (.seq (.ops [(none, .mv 15 (.t 0)),
          (none, .bin 16 .shr (.t 15) (.c (.U 4))),
          (none, .mv 17 (.t 0)),
          (none, .bin 18 .add (.t 16) (.t 17)),
          (none, .bin 19 .and (.t 18) (.c (.U 1085102592571150095))),
          (none, .mv 0 (.t 19))])
       (.seq (.ops [(none, .mv 20 (.t 0)),
           (none, .mv 21 (.t 0)),
           (none, .bin 22 .shr (.t 21) (.c (.U 8))),
           (none, .bin 23 .add (.t 20) (.t 22)),
           (none, .mv 0 (.t 23))])
        (.seq (.ops [(none, .mv 24 (.t 0)),
            (none, .mv 25 (.t 0)),
            (none, .bin 26 .shr (.t 25) (.c (.U 16))),
            (none, .bin 27 .add (.t 24) (.t 26)),
            (none, .mv 0 (.t 27))])
         (.seq (.ops [(none, .mv 28 (.t 0)),
             (none, .mv 29 (.t 0)),
             (none, .bin 30 .shr (.t 29) (.c (.U 32))),
             (none, .bin 31 .add (.t 28) (.t 30)),
             (none, .mv 0 (.t 31))])
          (.seq (.ops [(none, .mv 32 (.t 0)),
              (none, .conv 33 .i64 (.t 32)),
              (none, .bin 34 .and (.t 33) (.c (.I 127))),
              (none, .mv 2 (.t 34))])
           (.ret))))))))⟩
def impl_set_count : AFn :=
  ⟨1, 5, [.tmp 2],
    .seq (.ops [(none, .mv 2 (.c (.I 0)))])
    (.seq (.ops [(none, .mv 3 (.t 0)),
        (none, .call (some 4) F.math_bits_OnesCount64 [(.t 3)]),
        (none, .mv 2 (.t 4))])
     (.ret))⟩
end Go.Ab.C

/- That the program has this code. -/
namespace Go.Ab.K
open Go Go.Ab
theorem math_bits_OnesCount64 : prepF Go.Proofs.Try.prog F.math_bits_OnesCount64 = some C.math_bits_OnesCount64 := by kernel_rfl
theorem impl_set_count : prepF Go.Proofs.Try.prog F.impl_set_count = some C.impl_set_count := by kernel_rfl
end Go.Ab.K

/- Plain words: how many cells a set has, as the library counts. -/
namespace Go.Ab

def swar1 (x : BitVec 64) : BitVec 64 := (x >>> 1 &&& 6148914691236517205#64) + (x &&& 6148914691236517205#64)
def swar2 (x : BitVec 64) : BitVec 64 := (x >>> 2 &&& 3689348814741910323#64) + (x &&& 3689348814741910323#64)
def swar3 (x : BitVec 64) : BitVec 64 := (x >>> 4 + x) &&& 1085102592571150095#64
def swar4 (x : BitVec 64) : BitVec 64 := x + x >>> 8
def swar5 (x : BitVec 64) : BitVec 64 := x + x >>> 16
def swar6 (x : BitVec 64) : BitVec 64 := x + x >>> 32
def swar (x : BitVec 64) : BitVec 64 := swar6 (swar5 (swar4 (swar3 (swar2 (swar1 x))))) &&& 127#64

def onRim (x y z : Int) (c : Cell) : Bool := decide (c.a = 0 ∨ c.b = 0 ∨ c.c = 0 ∨ c.a = x - 1 ∨ c.b = y - 1 ∨ c.c = z - 1)
end Go.Ab

/- The abstract code of some functions (written by a program of mine from the translation, by way of prepF). -/
namespace Go.Ab.C
open Go.Ab
end Go.Ab.C

/- That the program has this code. -/
namespace Go.Ab.K
open Go Go.Ab
end Go.Ab.K

/- Contracts: neighbours; what grows. -/
namespace Go.Ab
open Go
set_option linter.unusedSimpArgs false
set_option linter.unusedVariables false

/-- The first k neighbours of a cell. -/
def nbrK (c : Cell) (k : Nat) (e : Cell) : Bool := decide (e ∈ (nbrs c).take k)
section
variable {x y z : Int} (hS : Sides x y z)
include hS
end
end Go.Ab

/- Contracts: counts of sets. -/
namespace Go.Ab
open Go
set_option linter.unusedSimpArgs false
set_option linter.unusedVariables false

theorem w_add {s u : BitVec 64} : binV .add (.val (.int .u64 ((s.toNat : Nat) : Int))) (.val (.int .u64 ((u.toNat : Nat) : Int))) = some (.val (.int .u64 (((s + u).toNat : Nat) : Int)), True) := by
  rw [bv_add, IntKind.wrap_u64, BitVec.toNat_add]
  congr 4
theorem w_andc {s : BitVec 64} {c : Nat} (hc : c < 18446744073709551616) : binV .and (.val (.int .u64 ((s.toNat : Nat) : Int))) (.val (.int .u64 (c : Int))) = some (.val (.int .u64 (((s &&& BitVec.ofNat 64 c).toNat : Nat) : Int)), True) := by
  have h := w_and (s := s) (u := BitVec.ofNat 64 c)
  rw [BitVec.toNat_ofNat, Nat.mod_eq_of_lt hc] at h; exact h
theorem w_m1 {s : BitVec 64} : binV .and (.val (.int .u64 ((s.toNat : Nat) : Int))) (.val (.int .u64 6148914691236517205)) = some (.val (.int .u64 (((s &&& 6148914691236517205#64).toNat : Nat) : Int)), True) := w_andc (c := 6148914691236517205) (by decide)
theorem w_m2 {s : BitVec 64} : binV .and (.val (.int .u64 ((s.toNat : Nat) : Int))) (.val (.int .u64 3689348814741910323)) = some (.val (.int .u64 (((s &&& 3689348814741910323#64).toNat : Nat) : Int)), True) := w_andc (c := 3689348814741910323) (by decide)
theorem w_m3 {s : BitVec 64} : binV .and (.val (.int .u64 ((s.toNat : Nat) : Int))) (.val (.int .u64 1085102592571150095)) = some (.val (.int .u64 (((s &&& 1085102592571150095#64).toNat : Nat) : Int)), True) := w_andc (c := 1085102592571150095) (by decide)

theorem conv_and {x : BitVec 64} : IntKind.i64.wrap (((BitVec.ofInt 64 (IntKind.i64.wrap ((x.toNat : Nat) : Int)) &&& BitVec.ofInt 64 127).toNat : Nat) : Int) = (((x &&& 127#64).toNat : Nat) : Int) := by
  have h1 : BitVec.ofInt 64 (IntKind.i64.wrap ((x.toNat : Nat) : Int)) = x := by
    apply BitVec.eq_of_toNat_eq
    have := x.isLt
    rw [BitVec.toNat_ofInt, IntKind.wrap_i64]
    omega
  have h2 : BitVec.ofInt 64 127 = 127#64 := rfl
  rw [h1, h2, IntKind.wrap_i64]
  have h3 : (x &&& 127#64).toNat ≤ 127 := by
    rw [BitVec.toNat_and]; exact Nat.and_le_right
  omega
theorem g_OnesCount64 {s : BitVec 64} {M : Mem} : CallsTo PG F.math_bits_OnesCount64 [.W s] M (.I (((swar s).toNat : Nat) : Int)) M := by
  refine calls_run K.math_bits_OnesCount64 rfl ?_
  simp (disch := omega) only [C.math_bits_OnesCount64, w_shr, w_m1, w_m2, w_m3, w_add, ↓SXd, SXu, slBounds, ↓sop, ↓aop, ↓reduceIte, LV.cells, AOp.dst, LV.I, LV.B, LV.U, LV.S, LV.nil, Nat.reduceEqDiff, Nat.reduceAdd, Nat.reduceMul, Nat.reduceSub, Nat.reduceLeDiff, Nat.reduceBEq, Nat.reduceDiv, Nat.reduceMod, Int.reduceToNat, Int.reduceLT, Int.reduceLE, Int.reduceAdd, Int.reduceSub, Int.reduceMul, Int.reduceEq, Int.reduceNeg, reduceCtorEq, resV, resAll, ARes.ev, LV.flat, ite_true, ite_false, exists_eq_left', exists_eq_left, keyOf, implies_true, fillC, capOf]
  rw [conv_and]
  exact cmp_pre (Pre.refl _) rfl
theorem g_count {s : BitVec 64} {M : Mem} : CallsTo PG F.impl_set_count [.W s] M (.I (((swar s).toNat : Nat) : Int)) M := by
  refine calls_run K.impl_set_count rfl ?_
  simp (disch := omega) only [C.impl_set_count, ↓SXd, SXu, slBounds, ↓sop, ↓aop, ↓reduceIte, LV.cells, AOp.dst, LV.I, LV.B, LV.U, LV.S, LV.nil, Nat.reduceEqDiff, Nat.reduceAdd, Nat.reduceMul, Nat.reduceSub, Nat.reduceLeDiff, Nat.reduceBEq, Nat.reduceDiv, Nat.reduceMod, Int.reduceToNat, Int.reduceLT, Int.reduceLE, Int.reduceAdd, Int.reduceSub, Int.reduceMul, Int.reduceEq, Int.reduceNeg, reduceCtorEq, resV, resAll, ARes.ev, LV.flat, ite_true, ite_false, exists_eq_left', exists_eq_left, keyOf, implies_true, fillC, capOf]
  refine callK_of (g_OnesCount64) ?_
  simp (disch := omega) only [↓SXd, SXu, slBounds, ↓sop, ↓aop, ↓reduceIte, LV.cells, AOp.dst, LV.I, LV.B, LV.U, LV.S, LV.nil, Nat.reduceEqDiff, Nat.reduceAdd, Nat.reduceMul, Nat.reduceSub, Nat.reduceLeDiff, Nat.reduceBEq, Nat.reduceDiv, Nat.reduceMod, Int.reduceToNat, Int.reduceLT, Int.reduceLE, Int.reduceAdd, Int.reduceSub, Int.reduceMul, Int.reduceEq, Int.reduceNeg, reduceCtorEq, resV, resAll, ARes.ev, LV.flat, ite_true, ite_false, exists_eq_left', exists_eq_left, keyOf, implies_true, fillC, capOf]
  exact cmp_pre (Pre.refl _) rfl

end Go.Ab

/- Plain words: the library's count of a 64-bit set is the number of its bits. -/
namespace Go.Ab

def rep : Nat → Nat → Nat
  | 0, _ => 0
  | k + 1, c => c + 256 * rep k c
def ofB : List Nat → Nat
  | [] => 0
  | l :: ls => l + 256 * ofB ls
theorem and_split {a b l c : Nat} (hl : l < 256) (hc : c < 256) : (l + 256 * a) &&& (c + 256 * b) = (l &&& c) + 256 * (a &&& b) := by
  have h1 : ((l + 256 * a) &&& (c + 256 * b)) % 2 ^ 8 = l &&& c := by
    rw [Nat.and_mod_two_pow]
    congr 1 <;> omega
  have h2 : ((l + 256 * a) &&& (c + 256 * b)) / 2 ^ 8 = a &&& b := by
    rw [Nat.and_div_two_pow]
    congr 1 <;> omega
  have := Nat.mod_add_div ((l + 256 * a) &&& (c + 256 * b)) (2 ^ 8)
  rw [h1, h2] at this
  rw [← this]
def a8 (l : Nat) : Nat := (l / 2 &&& 85) + (l &&& 85)
def b8 (l : Nat) : Nat := (l / 4 &&& 51) + (l &&& 51)
def c8 (l : Nat) : Nat := (l / 16 + l) % 16
theorem low_a : ∀ b, b < 2 → ∀ m, m < 128 → (128 * b + m) &&& 85 = m &&& 85 := by decide +kernel
theorem low_b : ∀ b, b < 4 → ∀ m, m < 64 → (64 * b + m) &&& 51 = m &&& 51 := by decide +kernel
theorem all_a : ∀ {ls : List Nat}, (∀ l ∈ ls, l < 256) → (ofB ls / 2 &&& rep ls.length 85) + (ofB ls &&& rep ls.length 85) = ofB (ls.map a8)
  | [], _ => rfl
  | l :: ls, h => by
    have hl := h l (by simp)
    have ih := all_a (ls := ls) fun m hm => h m (by simp [hm])
    simp only [ofB, List.length_cons, rep, List.map_cons]
    rw [and_split hl (by omega), show (l + 256 * ofB ls) / 2 = (128 * (ofB ls % 2) + l / 2) + 256 * (ofB ls / 2) by omega, and_split (by omega) (by omega), low_a _ (by omega) _ (by omega), ← ih]
    unfold a8; omega
theorem all_b : ∀ {ls : List Nat}, (∀ l ∈ ls, l < 256) → (ofB ls / 4 &&& rep ls.length 51) + (ofB ls &&& rep ls.length 51) = ofB (ls.map b8)
  | [], _ => rfl
  | l :: ls, h => by
    have hl := h l (by simp)
    have ih := all_b (ls := ls) fun m hm => h m (by simp [hm])
    simp only [ofB, List.length_cons, rep, List.map_cons]
    rw [and_split hl (by omega), show (l + 256 * ofB ls) / 4 = (64 * (ofB ls % 4) + l / 4) + 256 * (ofB ls / 4) by omega, and_split (by omega) (by omega), low_b _ (by omega) _ (by omega), ← ih]
    unfold b8; omega
theorem and15 (n : Nat) : n &&& 15 = n % 16 := Nat.and_two_pow_sub_one_eq_mod n 4
theorem all_c : ∀ {ls : List Nat}, (∀ l ∈ ls, l < 256 ∧ l % 16 ≤ 4 ∧ l / 16 ≤ 4) → (ofB ls / 16 + ofB ls &&& rep ls.length 15) = ofB (ls.map c8)
  | [], _ => rfl
  | l :: ls, h => by
    have hl := h l (by simp)
    have ih := all_c (ls := ls) fun m hm => h m (by simp [hm])
    have ht : ofB ls % 16 ≤ 4 := by
      cases ls with
      | nil => simp [ofB]
      | cons m ms => have := h m (by simp); simp only [ofB]; omega
    simp only [ofB, List.length_cons, rep, List.map_cons]
    rw [show (l + 256 * ofB ls) / 16 + (l + 256 * ofB ls) = (16 * (ofB ls % 16) + l / 16 + l) + 256 * (ofB ls / 16 + ofB ls) by omega, and_split (by omega) (by omega), ih, and15]
    unfold c8; omega
def pc8 (l : Nat) : Nat := (List.range 8).countP fun j => l.testBit j
theorem byte_ok : ∀ l, l < 256 → a8 l < 256 ∧ b8 (a8 l) < 256 ∧ b8 (a8 l) % 16 ≤ 4 ∧ b8 (a8 l) / 16 ≤ 4 ∧ c8 (b8 (a8 l)) = pc8 l ∧ pc8 l ≤ 8 := by decide +kernel

theorem m85 : (6148914691236517205#64).toNat = rep 8 85 := by decide +kernel
theorem m51 : (3689348814741910323#64).toNat = rep 8 51 := by decide +kernel
theorem m15 : (1085102592571150095#64).toNat = rep 8 15 := by decide +kernel
theorem ofB_lt : ∀ {ls : List Nat}, (∀ l ∈ ls, l < 256) → ofB ls < 256 ^ ls.length
  | [], _ => by simp [ofB]
  | l :: ls, h => by
    have h1 := h l (by simp)
    have ih := ofB_lt (ls := ls) fun m hm => h m (by simp [hm])
    simp only [ofB, List.length_cons, Nat.pow_succ]; omega
theorem ofB_le {k : Nat} : ∀ {ls : List Nat}, (∀ l ∈ ls, l ≤ k) → 255 * ofB ls + k ≤ k * 256 ^ ls.length
  | [], _ => by simp [ofB]
  | l :: ls, h => by
    have h1 := h l (by simp)
    have ih := ofB_le (ls := ls) fun m hm => h m (by simp [hm])
    rw [List.length_cons, Nat.pow_succ, ← Nat.mul_assoc]
    simp only [ofB]; omega
theorem p256 : (256 : Nat) ^ 8 = 18446744073709551616 := by decide +kernel
theorem ofB_lt8 {ls : List Nat} (hl : ls.length = 8) (h : ∀ l ∈ ls, l < 256) : ofB ls < 18446744073709551616 := by
  have := ofB_lt h
  rw [hl, p256] at this; exact this
theorem ofB_le8 {ls : List Nat} (hl : ls.length = 8) (h : ∀ l ∈ ls, l ≤ 68) : ofB ls < 9223372036854775808 := by
  have := ofB_le h
  rw [hl, p256] at this; omega
theorem ofB8_lt {a b c d e f g h : Nat} (h0 : a < 256) (h1 : b < 256) (h2 : c < 256) (h3 : d < 256) (h4 : e < 256) (h5 : f < 256) (h6 : g < 256) (h7 : h < 256) : ofB [a, b, c, d, e, f, g, h] < 18446744073709551616 :=
  ofB_lt8 rfl (by simp [h0, h1, h2, h3, h4, h5, h6, h7])
theorem ofB8_68 {a b c d e f g h : Nat} (h0 : a ≤ 68) (h1 : b ≤ 68) (h2 : c ≤ 68) (h3 : d ≤ 68) (h4 : e ≤ 68) (h5 : f ≤ 68) (h6 : g ≤ 68) (h7 : h ≤ 68) : ofB [a, b, c, d, e, f, g, h] < 9223372036854775808 :=
  ofB_le8 rfl (by simp [h0, h1, h2, h3, h4, h5, h6, h7])
theorem ofB_div {a : Nat} {ls : List Nat} (h : a < 256) : ofB (a :: ls) / 256 = ofB ls := by simp only [ofB]; omega
theorem p64 : (2 : Nat) ^ 64 = 18446744073709551616 := by decide +kernel
theorem swar1_b {ls : List Nat} (hl : ls.length = 8) (hb : ∀ l ∈ ls, l < 256) (hlt : ofB (ls.map a8) < 18446744073709551616) {x : BitVec 64} (hx : x.toNat = ofB ls) : (swar1 x).toNat = ofB (ls.map a8) := by
  have := all_a hb
  rw [hl] at this
  unfold swar1
  rw [BitVec.toNat_add, BitVec.toNat_and, BitVec.toNat_and, BitVec.toNat_ushiftRight, hx, Nat.shiftRight_eq_div_pow, m85, Nat.pow_one, this, p64, Nat.mod_eq_of_lt hlt]
theorem swar2_b {ls : List Nat} (hl : ls.length = 8) (hb : ∀ l ∈ ls, l < 256) (hlt : ofB (ls.map b8) < 18446744073709551616) {x : BitVec 64} (hx : x.toNat = ofB ls) : (swar2 x).toNat = ofB (ls.map b8) := by
  have := all_b hb
  rw [hl] at this
  unfold swar2
  rw [BitVec.toNat_add, BitVec.toNat_and, BitVec.toNat_and, BitVec.toNat_ushiftRight, hx, Nat.shiftRight_eq_div_pow, m51, show (2 : Nat) ^ 2 = 4 from rfl, this, p64, Nat.mod_eq_of_lt hlt]
theorem swar3_b {ls : List Nat} (hl : ls.length = 8) (hb : ∀ l ∈ ls, l < 256 ∧ l % 16 ≤ 4 ∧ l / 16 ≤ 4) (hlt : ofB ls < 9223372036854775808) {x : BitVec 64} (hx : x.toNat = ofB ls) : (swar3 x).toNat = ofB (ls.map c8) := by
  have := all_c hb
  rw [hl] at this
  unfold swar3
  rw [BitVec.toNat_and, BitVec.toNat_add, BitVec.toNat_ushiftRight, hx, Nat.shiftRight_eq_div_pow, m15, show (2 : Nat) ^ 4 = 16 from rfl, p64, Nat.mod_eq_of_lt (by omega), this]
theorem swar_tail {a b c d e f g h : Nat} (h0 : a ≤ 8) (h1 : b ≤ 8) (h2 : c ≤ 8) (h3 : d ≤ 8) (h4 : e ≤ 8) (h5 : f ≤ 8) (h6 : g ≤ 8) (h7 : h ≤ 8) {y : BitVec 64} (hy : y.toNat = ofB [a, b, c, d, e, f, g, h]) :
    (swar6 (swar5 (swar4 y)) &&& 127#64).toNat = a + b + c + d + e + f + g + h := by
  have e4 : (swar4 y).toNat = ofB [a + b, b + c, c + d, d + e, e + f, f + g, g + h, h] := by
    have hs : ofB [a, b, c, d, e, f, g, h] + ofB [b, c, d, e, f, g, h] = ofB [a + b, b + c, c + d, d + e, e + f, f + g, g + h, h] := by simp only [ofB]; omega
    have hlt := ofB8_lt (a := a + b) (b := b + c) (c := c + d) (d := d + e) (e := e + f) (f := f + g) (g := g + h) (h := h) (by omega) (by omega) (by omega) (by omega) (by omega) (by omega) (by omega) (by omega)
    unfold swar4
    rw [BitVec.toNat_add, BitVec.toNat_ushiftRight, Nat.shiftRight_eq_div_pow, hy, show (2 : Nat) ^ 8 = 256 from rfl, ofB_div (by omega), hs, p64, Nat.mod_eq_of_lt hlt]
  have e5 : (swar5 (swar4 y)).toNat = ofB [a + b + (c + d), b + c + (d + e), c + d + (e + f), d + e + (f + g), e + f + (g + h), f + g + h, g + h, h] := by
    have hs : ofB [a + b, b + c, c + d, d + e, e + f, f + g, g + h, h] + ofB [c + d, d + e, e + f, f + g, g + h, h] = ofB [a + b + (c + d), b + c + (d + e), c + d + (e + f), d + e + (f + g), e + f + (g + h), f + g + h, g + h, h] := by simp only [ofB]; omega
    have hlt := ofB8_lt (a := a + b + (c + d)) (b := b + c + (d + e)) (c := c + d + (e + f)) (d := d + e + (f + g)) (e := e + f + (g + h)) (f := f + g + h) (g := g + h) (h := h) (by omega) (by omega) (by omega) (by omega) (by omega) (by omega) (by omega) (by omega)
    unfold swar5
    rw [BitVec.toNat_add, BitVec.toNat_ushiftRight, Nat.shiftRight_eq_div_pow, e4, show (2 : Nat) ^ 16 = 256 * 256 from rfl, ← Nat.div_div_eq_div_mul, ofB_div (by omega), ofB_div (by omega), hs, p64, Nat.mod_eq_of_lt hlt]
  have e6 : (swar6 (swar5 (swar4 y))).toNat % 256 = a + b + c + d + e + f + g + h := by
    unfold swar6
    rw [BitVec.toNat_add, BitVec.toNat_ushiftRight, Nat.shiftRight_eq_div_pow, e5, show (2 : Nat) ^ 32 = 256 * 256 * 256 * 256 from rfl, ← Nat.div_div_eq_div_mul, ← Nat.div_div_eq_div_mul, ← Nat.div_div_eq_div_mul, ofB_div (by omega), ofB_div (by omega), ofB_div (by omega), ofB_div (by omega), p64]
    simp only [ofB]; omega
  rw [BitVec.toNat_and, show (127#64).toNat = 2 ^ 7 - 1 from rfl, Nat.and_two_pow_sub_one_eq_mod]
  omega
set_option maxHeartbeats 2000000 in
theorem swar_bytes {l0 l1 l2 l3 l4 l5 l6 l7 : Nat} (h0 : l0 < 256) (h1 : l1 < 256) (h2 : l2 < 256) (h3 : l3 < 256) (h4 : l4 < 256) (h5 : l5 < 256) (h6 : l6 < 256) (h7 : l7 < 256) {x : BitVec 64} (hx : x.toNat = ofB [l0, l1, l2, l3, l4, l5, l6, l7]) :
    (swar x).toNat = pc8 l0 + pc8 l1 + pc8 l2 + pc8 l3 + pc8 l4 + pc8 l5 + pc8 l6 + pc8 l7 := by
  obtain ⟨f0, g0, q0, r0, e30, u0⟩ := byte_ok l0 h0
  obtain ⟨f1, g1, q1, r1, e31, u1⟩ := byte_ok l1 h1
  obtain ⟨f2, g2, q2, r2, e32, u2⟩ := byte_ok l2 h2
  obtain ⟨f3, g3, q3, r3, e33, u3⟩ := byte_ok l3 h3
  obtain ⟨f4, g4, q4, r4, e34, u4⟩ := byte_ok l4 h4
  obtain ⟨f5, g5, q5, r5, e35, u5⟩ := byte_ok l5 h5
  obtain ⟨f6, g6, q6, r6, e36, u6⟩ := byte_ok l6 h6
  obtain ⟨f7, g7, q7, r7, e37, u7⟩ := byte_ok l7 h7
  have e1 := swar1_b (ls := [l0, l1, l2, l3, l4, l5, l6, l7]) rfl (by simp [h0, h1, h2, h3, h4, h5, h6, h7]) (ofB8_lt f0 f1 f2 f3 f4 f5 f6 f7) hx
  simp only [List.map_cons, List.map_nil] at e1
  have e2 := swar2_b (ls := [a8 l0, a8 l1, a8 l2, a8 l3, a8 l4, a8 l5, a8 l6, a8 l7]) rfl (by simp [f0, f1, f2, f3, f4, f5, f6, f7]) (ofB8_lt g0 g1 g2 g3 g4 g5 g6 g7) e1
  simp only [List.map_cons, List.map_nil] at e2
  have e3 := swar3_b (ls := [b8 (a8 l0), b8 (a8 l1), b8 (a8 l2), b8 (a8 l3), b8 (a8 l4), b8 (a8 l5), b8 (a8 l6), b8 (a8 l7)]) rfl (by simp [g0, g1, g2, g3, g4, g5, g6, g7, q0, q1, q2, q3, q4, q5, q6, q7, r0, r1, r2, r3, r4, r5, r6, r7]) (ofB8_68 (by omega) (by omega) (by omega) (by omega) (by omega) (by omega) (by omega) (by omega)) e2
  simp only [List.map_cons, List.map_nil, e30, e31, e32, e33, e34, e35, e36, e37] at e3
  exact swar_tail u0 u1 u2 u3 u4 u5 u6 u7 e3
theorem byte_bit (x : BitVec 64) (k j : Nat) (hj : j < 8) : (x.toNat / 256 ^ k % 256).testBit j = x.getLsbD (8 * k + j) := by
  rw [show (256 : Nat) = 2 ^ 8 from rfl, Nat.testBit_mod_two_pow, decide_eq_true hj, Bool.true_and, ← Nat.pow_mul, Nat.testBit_div_two_pow, Nat.add_comm]
  rfl
theorem pc8_byte (x : BitVec 64) (k : Nat) : pc8 (x.toNat / 256 ^ k % 256) = (List.range 8).countP fun j => x.getLsbD (8 * k + j) := by
  unfold pc8
  apply List.countP_congr
  intro j hj
  rw [byte_bit x k j (List.mem_range.1 hj)]
theorem range64 : List.range 64 = (List.range 8).flatMap fun k => (List.range 8).map fun j => 8 * k + j := by decide +kernel
/-- The library's count is the number of bits. -/
theorem swar_eq (x : BitVec 64) : (swar x).toNat = (List.range 64).countP x.getLsbD := by
  have hx := x.isLt
  have hb : ∀ n, n % 256 < 256 := fun n => Nat.mod_lt _ (by omega)
  rw [swar_bytes (x := x) (l0 := x.toNat / 256 ^ 0 % 256) (l1 := x.toNat / 256 ^ 1 % 256) (l2 := x.toNat / 256 ^ 2 % 256) (l3 := x.toNat / 256 ^ 3 % 256) (l4 := x.toNat / 256 ^ 4 % 256) (l5 := x.toNat / 256 ^ 5 % 256) (l6 := x.toNat / 256 ^ 6 % 256) (l7 := x.toNat / 256 ^ 7 % 256)
    (hb _) (hb _) (hb _) (hb _) (hb _) (hb _) (hb _) (hb _) (by simp only [ofB, Nat.reducePow]; omega)]
  simp only [pc8_byte]
  rw [range64, List.countP_flatMap]
  simp only [show List.range 8 = [0, 1, 2, 3, 4, 5, 6, 7] from rfl, List.map_cons, List.map_nil, List.sum_cons, List.sum_nil, Function.comp, Nat.add_zero, Nat.add_assoc]
  rfl
theorem swar_bs {x y z : Int} (hS : Sides x y z) (p : Cell → Bool) : (swar (bs x y z p)).toNat = (pick x y z p).length := by
  have hv := vol_cast hS
  rw [swar_eq, show List.range 64 = List.range (vol x y z) ++ (List.range (64 - vol x y z)).map (vol x y z + ·) by rw [← List.range_add]; congr 1; omega, List.countP_append]
  have h1 : (List.range (vol x y z)).countP (bs x y z p).getLsbD = (pick x y z p).length := by
    unfold pick cellsOf
    rw [← List.countP_eq_length_filter, List.countP_map]
    apply List.countP_congr
    intro i hi
    rw [bs_bit hS, decide_eq_true (List.mem_range.1 hi), Bool.true_and]; rfl
  have h2 : ((List.range (64 - vol x y z)).map (vol x y z + ·)).countP (bs x y z p).getLsbD = 0 := by
    rw [List.countP_eq_zero]
    intro i hi
    obtain ⟨j, _, rfl⟩ := List.mem_map.1 hi
    rw [bs_bit hS, decide_eq_false (by omega)]; simp
  rw [h1, h2, Nat.add_zero]
end Go.Ab

/- Contracts: lines that need a cube, and cells that must be, the program's side. -/
namespace Go.Ab
open Go
set_option linter.unusedSimpArgs false
set_option linter.unusedVariables false
set_option maxRecDepth 20000

theorem appendK_1a {M : Mem} {a : Option Blk} {t n e b : Nat} {acc new : List LV} {A : LV → Mem → Prop} (ht : Live (M ++ [a]) t (.row acc true e)) (hn : acc.length = n * e) (hne : new.length = e) (he : 0 < e)
    (hb : (n + 1) * b ≤ 140737488355328) (hn' : n + 1 ≤ 9223372036854775807)
    (hA : ∀ M', M'.length = M.length + 3 → Live M' (M.length + 2) (.row (acc ++ new) true e) → (∀ u, u ≠ t → u < M.length + 1 → M'[u]? = (M ++ [a])[u]?) → A (.ref (M.length + 2) 0 (n + 1)) M') :
    appendK e b (.ref t 0 n) (.ref (M.length + 1) 0 1) (M ++ [a, some (.row new true e)]) A := by
  have := appendK_1 (M := M ++ [a]) (A := A) ht hn hne he hb hn' fun M' k1 k2 k3 => by
    have hl : (M ++ [a]).length = M.length + 1 := by simp
    rw [hl] at k1 k2 k3 ⊢
    exact hA M' k1 k2 k3
  rw [show (M ++ [a]).length = M.length + 1 by simp, List.append_assoc] at this
  exact this
theorem g_countB {x y z : Int} (hS : Sides x y z) {p : Cell → Bool} {M : Mem} : CallsTo PG F.impl_set_count [.W (bs x y z p)] M (.I (((pick x y z p).length : Nat) : Int)) M := by
  have := g_count (s := bs x y z p) (M := M)
  rwa [swar_bs hS] at this
theorem g_needs_1 {x y z : Int} {c : Cell} {t o t' o' t2 o2 u v w d i : Nat} {tp fr sd : List Int} {M : Mem} (hS : Sides x y z) (hc : c.inBox x y z) (hd : d < 3)
    (hb : Live M u (.row [.I x, .I y, .I z, .ref t o tp.length, .ref t' o' fr.length, .ref t2 o2 sd.length] true 0)) (hv : Live M v (.row [.I d] true 0)) (hw : Live M w (.row [.I i] true 0)) :
    CallsTo PG F.impl_Shadow_needs_1 ([.agg [.I c.a, .I c.b, .I c.c]] ++ [(u, 0), (v, 0), (w, 0)].map fun p => .ptr p.1 p.2) M (.B (onLine y z d i c)) M := by
  have hul := hb.lt
  have hvl := hv.lt
  have hwl := hw.lt
  obtain ⟨hl1, hl2⟩ := lineOf_in hS hc hd
  refine calls_run K.impl_Shadow_needs_1 rfl ?_
  simp (disch := omega) only [C.impl_Shadow_needs_1, List.map_cons, List.map_nil, hb.app.cells, hv.app.cell, hw.app.cell, ↓SXd, SXu, slBounds, ↓sop, ↓aop, ↓reduceIte, LV.cells, AOp.dst, LV.I, LV.B, LV.U, LV.S, LV.nil, Nat.reduceEqDiff, Nat.reduceAdd, Nat.reduceMul, Nat.reduceSub, Nat.reduceLeDiff, Nat.reduceBEq, Nat.reduceDiv, Nat.reduceMod, Int.reduceToNat, Int.reduceLT, Int.reduceLE, Int.reduceAdd, Int.reduceSub, Int.reduceMul, Int.reduceEq, Int.reduceNeg, reduceCtorEq, resV, resAll, ARes.ev, LV.flat, ite_true, ite_false, exists_eq_left', exists_eq_left, keyOf, implies_true, fillC, capOf]
  refine callK_of (g_Shadow_box) ?_
  simp (disch := omega) only [↓SXd, SXu, slBounds, ↓sop, ↓aop, ↓reduceIte, LV.cells, AOp.dst, LV.I, LV.B, LV.U, LV.S, LV.nil, Nat.reduceEqDiff, Nat.reduceAdd, Nat.reduceMul, Nat.reduceSub, Nat.reduceLeDiff, Nat.reduceBEq, Nat.reduceDiv, Nat.reduceMod, Int.reduceToNat, Int.reduceLT, Int.reduceLE, Int.reduceAdd, Int.reduceSub, Int.reduceMul, Int.reduceEq, Int.reduceNeg, reduceCtorEq, resV, resAll, ARes.ev, LV.flat, ite_true, ite_false, exists_eq_left', exists_eq_left, keyOf, implies_true, fillC, capOf]
  refine callK_of (g_line hS hc hd) ?_
  simp (disch := omega) only [↓SXd, SXu, slBounds, ↓sop, ↓aop, ↓reduceIte, LV.cells, AOp.dst, LV.I, LV.B, LV.U, LV.S, LV.nil, Nat.reduceEqDiff, Nat.reduceAdd, Nat.reduceMul, Nat.reduceSub, Nat.reduceLeDiff, Nat.reduceBEq, Nat.reduceDiv, Nat.reduceMod, Int.reduceToNat, Int.reduceLT, Int.reduceLE, Int.reduceAdd, Int.reduceSub, Int.reduceMul, Int.reduceEq, Int.reduceNeg, reduceCtorEq, resV, resAll, ARes.ev, LV.flat, ite_true, ite_false, exists_eq_left', exists_eq_left, keyOf, implies_true, fillC, capOf]
  rw [show decide (lineOf y z c d = i) = onLine y z d i c from decide_eq_decide.2 ⟨fun h => by omega, fun h => by omega⟩]
  exact cmp_drop rfl

theorem ShdOK.len16 {x y z : Int} {tp fr sd : List Int} (hok : ShdOK x y z tp fr sd) (d : Nat) : (shdList d tp fr sd).length ≤ 16 := by
  have hS := hok.1
  have h0 := (hok.list (d := 0) (by omega)).2
  have h1 := (hok.list (d := 1) (by omega)).2
  have h2 := (hok.list (d := 2) (by omega)).2
  have q0 := lines_le hS (d := 0) (by omega)
  have q1 := lines_le hS (d := 1) (by omega)
  have q2 := lines_le hS (d := 2) (by omega)
  have e2 : (shdList 2 tp fr sd).length ≤ 16 := by omega
  rcases (show d = 0 ∨ d = 1 ∨ 2 ≤ d by omega) with rfl | rfl | hd
  · omega
  · omega
  · rwa [show shdList d tp fr sd = shdList 2 tp fr sd by unfold shdList; rw [if_neg (by omega), if_neg (by omega)]; rfl]
theorem lits_len {x y z : Int} {tp fr sd : List Int} (hok : ShdOK x y z tp fr sd) : (lits tp fr sd).length ≤ 64 := litTo_len (n := 16) hok.len16 (by omega)
section
variable {x y z : Int} {t o t' o' t2 o2 : Nat} {tp fr sd : List Int} {M : Mem} (h1 : Ints M t o tp) (h2 : Ints M t' o' fr) (h3 : Ints M t2 o2 sd) (hok : ShdOK x y z tp fr sd)
include h1 h2 h3 hok
theorem g_needs : CallsTo PG F.impl_Shadow_needs [.agg [.I x, .I y, .I z, .ref t o tp.length, .ref t' o' fr.length, .ref t2 o2 sd.length]] M (.ref M.length 0 (lits tp fr sd).length)
    (M ++ [some (.row (lineSets x y z (allowedB y z tp fr sd) (lits tp fr sd)) true 1)]) := by
  have hS := hok.1
  have ht := h1.lt
  have ht' := h2.lt
  have ht2 := h3.lt
  have hll := hok.len16
  refine calls_run K.impl_Shadow_needs rfl ?_
  simp (disch := omega) only [C.impl_Shadow_needs, ↓SXd, SXu, slBounds, ↓sop, ↓aop, ↓reduceIte, LV.cells, AOp.dst, LV.I, LV.B, LV.U, LV.S, LV.nil, Nat.reduceEqDiff, Nat.reduceAdd, Nat.reduceMul, Nat.reduceSub, Nat.reduceLeDiff, Nat.reduceBEq, Nat.reduceDiv, Nat.reduceMod, Int.reduceToNat, Int.reduceLT, Int.reduceLE, Int.reduceAdd, Int.reduceSub, Int.reduceMul, Int.reduceEq, Int.reduceNeg, reduceCtorEq, resV, resAll, ARes.ev, LV.flat, ite_true, ite_false, exists_eq_left', exists_eq_left, keyOf, implies_true, fillC, capOf]
  refine callK_of (g_allowed h1.app h2.app h3.app hok) ?_
  simp (disch := omega) only [↓SXd, SXu, slBounds, ↓sop, ↓aop, ↓reduceIte, LV.cells, AOp.dst, LV.I, LV.B, LV.U, LV.S, LV.nil, Nat.reduceEqDiff, Nat.reduceAdd, Nat.reduceMul, Nat.reduceSub, Nat.reduceLeDiff, Nat.reduceBEq, Nat.reduceDiv, Nat.reduceMod, Int.reduceToNat, Int.reduceLT, Int.reduceLE, Int.reduceAdd, Int.reduceSub, Int.reduceMul, Int.reduceEq, Int.reduceNeg, reduceCtorEq, resV, resAll, ARes.ev, LV.flat, ite_true, ite_false, exists_eq_left', exists_eq_left, keyOf, implies_true, fillC, capOf]
  generalize hA : allowedB y z tp fr sd = A
  refine ev_loop (fun m fr1 M' => ∃ d u : Nat, d + m = 3 ∧ Pre M M' ∧ Live M' M.length (.row [.I x, .I y, .I z, .ref t o tp.length, .ref t' o' fr.length, .ref t2 o2 sd.length] true 0) ∧ Live M' u (.row (lineSets x y z A (litTo tp fr sd d 0)) true 1) ∧ M.length < u ∧
    fr1 1 = .ptr M.length 0 ∧ fr1 3 = .ref u 0 (litTo tp fr sd d 0).length ∧ fr1 4 = .W (bs x y z A) ∧ fr1 11 = .I d) 3
    ⟨0, M.length + 1, rfl, Pre.app _ _, Live.new, Live.newj rfl, by omega, rfl, rfl, rfl, rfl⟩ ?_
  rintro m fr1 M' ⟨d, u, hd, hpre, b1, bu, hu, f1, f3, f4, f11⟩
  simp (disch := omega) only [f1, f3, f4, f11, ↓SXd, SXu, slBounds, ↓sop, ↓aop, ↓reduceIte, LV.cells, AOp.dst, LV.I, LV.B, LV.U, LV.S, LV.nil, Nat.reduceEqDiff, Nat.reduceAdd, Nat.reduceMul, Nat.reduceSub, Nat.reduceLeDiff, Nat.reduceBEq, Nat.reduceDiv, Nat.reduceMod, Int.reduceToNat, Int.reduceLT, Int.reduceLE, Int.reduceAdd, Int.reduceSub, Int.reduceMul, Int.reduceEq, Int.reduceNeg, reduceCtorEq, resV, resAll, ARes.ev, LV.flat, ite_true, ite_false, exists_eq_left', exists_eq_left, keyOf, implies_true, fillC, capOf]
  refine condC_dec (fun hlt => ?_) (fun hlt => ?_)
  · have hd3 : d < 3 := by omega
    obtain ⟨tt, oo, hq, hI⟩ : ∃ tt oo, (if d = 0 then LV.ref t2 o2 sd.length else if d = 1 then LV.ref t' o' fr.length else LV.ref t o tp.length) = .ref tt oo (shdList d tp fr sd).length ∧ Ints M tt oo (shdList d tp fr sd) := by
      unfold shdList
      rcases (show d = 0 ∨ d = 1 ∨ d = 2 by omega) with rfl | rfl | rfl
      · exact ⟨_, _, rfl, h3⟩
      · exact ⟨_, _, rfl, h2⟩
      · exact ⟨_, _, rfl, h1⟩
    have hMl := hpre.1
    have hlist := g_Shadow_list (x := x) (y := y) (z := z) (t := t) (t' := t') (t2 := t2) (o := o) (o' := o') (o2 := o2) (n := tp.length) (n' := fr.length) (n2 := sd.length) (M := M' ++ [some (.row [.I d] true 0)]) hd3 (by simp; omega) (by simp; omega) (by simp; omega)
    rw [hq] at hlist
    have hb1 := b1.lt
    simp (disch := omega) only [f1, f3, f4, f11, splice, b1.app.cells, ↓SXd, SXu, slBounds, ↓sop, ↓aop, ↓reduceIte, LV.cells, AOp.dst, LV.I, LV.B, LV.U, LV.S, LV.nil, Nat.reduceEqDiff, Nat.reduceAdd, Nat.reduceMul, Nat.reduceSub, Nat.reduceLeDiff, Nat.reduceBEq, Nat.reduceDiv, Nat.reduceMod, Int.reduceToNat, Int.reduceLT, Int.reduceLE, Int.reduceAdd, Int.reduceSub, Int.reduceMul, Int.reduceEq, Int.reduceNeg, reduceCtorEq, resV, resAll, ARes.ev, LV.flat, ite_true, ite_false, exists_eq_left', exists_eq_left, keyOf, implies_true, fillC, capOf]
    refine callK_of (hlist) ?_
    simp (disch := omega) only [f1, f3, f4, f11, ↓SXd, SXu, slBounds, ↓sop, ↓aop, ↓reduceIte, LV.cells, AOp.dst, LV.I, LV.B, LV.U, LV.S, LV.nil, Nat.reduceEqDiff, Nat.reduceAdd, Nat.reduceMul, Nat.reduceSub, Nat.reduceLeDiff, Nat.reduceBEq, Nat.reduceDiv, Nat.reduceMod, Int.reduceToNat, Int.reduceLT, Int.reduceLE, Int.reduceAdd, Int.reduceSub, Int.reduceMul, Int.reduceEq, Int.reduceNeg, reduceCtorEq, resV, resAll, ARes.ev, LV.flat, ite_true, ite_false, exists_eq_left', exists_eq_left, keyOf, implies_true, fillC, capOf]
    refine ev_loop (fun m2 fr2 M2 => ∃ i v : Nat, i + m2 = (shdList d tp fr sd).length ∧ Pre M M2 ∧ Live M2 M.length (.row [.I x, .I y, .I z, .ref t o tp.length, .ref t' o' fr.length, .ref t2 o2 sd.length] true 0) ∧ Live M2 M'.length (.row [.I d] true 0) ∧ Live M2 v (.row (lineSets x y z A (litTo tp fr sd d i)) true 1) ∧ M.length < v ∧ v ≠ M'.length ∧
      fr2 1 = .ptr M.length 0 ∧ fr2 3 = .ref v 0 (litTo tp fr sd d i).length ∧ fr2 4 = .W (bs x y z A) ∧ fr2 5 = .ptr M'.length 0 ∧ fr2 11 = .I d ∧ fr2 16 = .ref tt oo (shdList d tp fr sd).length ∧ fr2 17 = .I (shdList d tp fr sd).length ∧ fr2 18 = .I i) (shdList d tp fr sd).length
      ⟨0, u, by omega, hpre.app', b1.app, Live.new, bu.app, hu, by have := bu.lt; omega, f1, f3, f4, rfl, f11, rfl, rfl, rfl⟩ ?_
    rintro m2 fr2 M2 ⟨i, v, hi, p2, c1, c5, cv, hv, hvn, g1, g3, g4, g5, g11, g16, g17, g18⟩
    simp (disch := omega) only [g1, g3, g4, g5, g11, g16, g17, g18, ↓SXd, SXu, slBounds, ↓sop, ↓aop, ↓reduceIte, LV.cells, AOp.dst, LV.I, LV.B, LV.U, LV.S, LV.nil, Nat.reduceEqDiff, Nat.reduceAdd, Nat.reduceMul, Nat.reduceSub, Nat.reduceLeDiff, Nat.reduceBEq, Nat.reduceDiv, Nat.reduceMod, Int.reduceToNat, Int.reduceLT, Int.reduceLE, Int.reduceAdd, Int.reduceSub, Int.reduceMul, Int.reduceEq, Int.reduceNeg, reduceCtorEq, resV, resAll, ARes.ev, LV.flat, ite_true, ite_false, exists_eq_left', exists_eq_left, keyOf, implies_true, fillC, capOf]
    refine condC_dec (fun hlt2 => ?_) (fun hlt2 => ?_)
    · have hil : i < (shdList d tp fr sd).length := by omega
      have hgx := Ints.get ((hI.pre p2).app (L := [some (.row [.I 0] true 0)])) hil
      have hgx0 := Ints.get (hI.pre p2) hil
      have hll1 := hll d
      have hlen := litTo_len (tp := tp) (fr := fr) (sd := sd) (n := 16) hll (d := d) (i := i) (by have := hll d; omega)
      have hls : (litTo tp fr sd d i).length ≤ 64 := by
        have : (d + 1) * 16 ≤ 48 := by omega
        omega
      have hsucc := litTo_succ (tp := tp) (fr := fr) (sd := sd) (d := d) (i := i)
      simp (disch := omega) only [g1, g3, g4, g5, g11, g16, g17, g18, hgx0, hgx, splice, Nat.mul_one, ↓SXd, SXu, slBounds, ↓sop, ↓aop, ↓reduceIte, LV.cells, AOp.dst, LV.I, LV.B, LV.U, LV.S, LV.nil, Nat.reduceEqDiff, Nat.reduceAdd, Nat.reduceMul, Nat.reduceSub, Nat.reduceLeDiff, Nat.reduceBEq, Nat.reduceDiv, Nat.reduceMod, Int.reduceToNat, Int.reduceLT, Int.reduceLE, Int.reduceAdd, Int.reduceSub, Int.reduceMul, Int.reduceEq, Int.reduceNeg, reduceCtorEq, resV, resAll, ARes.ev, LV.flat, ite_true, ite_false, exists_eq_left', exists_eq_left, keyOf, implies_true, fillC, capOf]
      by_cases hz : (shdList d tp fr sd).getD i 0 = 1
      · rw [if_pos hz] at hsucc
        have hc1 := c1.lt
        simp (disch := omega) only [g1, g3, g4, g5, g11, g16, g17, g18, hz, c1.app.cells, ↓SXd, SXu, slBounds, ↓sop, ↓aop, ↓reduceIte, LV.cells, AOp.dst, LV.I, LV.B, LV.U, LV.S, LV.nil, Nat.reduceEqDiff, Nat.reduceAdd, Nat.reduceMul, Nat.reduceSub, Nat.reduceLeDiff, Nat.reduceBEq, Nat.reduceDiv, Nat.reduceMod, Int.reduceToNat, Int.reduceLT, Int.reduceLE, Int.reduceAdd, Int.reduceSub, Int.reduceMul, Int.reduceEq, Int.reduceNeg, reduceCtorEq, resV, resAll, ARes.ev, LV.flat, ite_true, ite_false, exists_eq_left', exists_eq_left, keyOf, implies_true, fillC, capOf]
        refine callK_of (g_Shadow_box) ?_
        simp (disch := omega) only [g1, g3, g4, g5, g11, g16, g17, g18, ↓SXd, SXu, slBounds, ↓sop, ↓aop, ↓reduceIte, LV.cells, AOp.dst, LV.I, LV.B, LV.U, LV.S, LV.nil, Nat.reduceEqDiff, Nat.reduceAdd, Nat.reduceMul, Nat.reduceSub, Nat.reduceLeDiff, Nat.reduceBEq, Nat.reduceDiv, Nat.reduceMod, Int.reduceToNat, Int.reduceLT, Int.reduceLE, Int.reduceAdd, Int.reduceSub, Int.reduceMul, Int.reduceEq, Int.reduceNeg, reduceCtorEq, resV, resAll, ARes.ev, LV.flat, ite_true, ite_false, exists_eq_left', exists_eq_left, keyOf, implies_true, fillC, capOf]
        refine callK_of (g_those hS (p := onLine y z d i) (f := F.impl_Shadow_needs_1) (caps := [(M.length, 0), (M'.length, 0), (M2.length, 0)]) fun M3 hp j hj => ?_) ?_
        · exact g_needs_1 hS (cellAt_in hS (by omega) (by have := (vol_cast hS).1; omega)).1 hd3 (c1.app.pre hp) (c5.app.pre hp) (Live.new.pre hp)
        simp (disch := omega) only [g1, g3, g4, g5, g11, g16, g17, g18, ↓SXd, SXu, slBounds, ↓sop, ↓aop, ↓reduceIte, LV.cells, AOp.dst, LV.I, LV.B, LV.U, LV.S, LV.nil, Nat.reduceEqDiff, Nat.reduceAdd, Nat.reduceMul, Nat.reduceSub, Nat.reduceLeDiff, Nat.reduceBEq, Nat.reduceDiv, Nat.reduceMod, Int.reduceToNat, Int.reduceLT, Int.reduceLE, Int.reduceAdd, Int.reduceSub, Int.reduceMul, Int.reduceEq, Int.reduceNeg, reduceCtorEq, resV, resAll, ARes.ev, LV.flat, ite_true, ite_false, exists_eq_left', exists_eq_left, keyOf, implies_true, fillC, capOf]
        rw [bs_and hS]
        refine appendK_1a (acc := lineSets x y z A (litTo tp fr sd d i)) (new := [.W (bs x y z (inLine y z A (d, i)))]) cv.app (by rw [lineSets_len]; omega) rfl (by omega) (by omega) (by omega) fun N l1 l2 l3 => ?_
        simp (disch := omega) only [g1, g3, g4, g5, g11, g16, g17, g18, ↓SXd, SXu, slBounds, ↓sop, ↓aop, ↓reduceIte, LV.cells, AOp.dst, LV.I, LV.B, LV.U, LV.S, LV.nil, Nat.reduceEqDiff, Nat.reduceAdd, Nat.reduceMul, Nat.reduceSub, Nat.reduceLeDiff, Nat.reduceBEq, Nat.reduceDiv, Nat.reduceMod, Int.reduceToNat, Int.reduceLT, Int.reduceLE, Int.reduceAdd, Int.reduceSub, Int.reduceMul, Int.reduceEq, Int.reduceNeg, reduceCtorEq, resV, resAll, ARes.ev, LV.flat, ite_true, ite_false, exists_eq_left', exists_eq_left, keyOf, implies_true, fillC, capOf]
        have hcv := cv.lt
        have hc5 := c5.lt
        have hpl := p2.1
        have e : lineSets x y z A (litTo tp fr sd d i) ++ [.W (bs x y z (inLine y z A (d, i)))] = lineSets x y z A (litTo tp fr sd d (i + 1)) := by
          rw [hsucc]; unfold lineSets; rw [List.map_append]; rfl
        rw [e] at l2
        have l3' : ∀ u, u ≠ v → u < (M2 ++ [some (Blk.row [.I i] true 0)]).length → N[u]? = (M2 ++ [some (Blk.row [.I i] true 0)])[u]? := by simpa using l3
        exact ⟨m2 - 1, by omega, i + 1, M2.length + 2, by omega, pre_step (p2.app' (L := [some (.row [.I i] true 0)])) (by omega) (j := 2) (by simp; omega) l3', live_step c1.app (by omega) l3', live_step c5.app (by omega) l3', l2, by omega, by omega, g1, by rw [hsucc, List.length_append, List.length_singleton]; rfl, g4, g5, g11, g16, g17, eqI (natI _)⟩
      · rw [if_neg hz, List.append_nil] at hsucc
        simp (disch := omega) only [g1, g3, g4, g5, g11, g16, g17, g18, hz, ↓SXd, SXu, slBounds, ↓sop, ↓aop, ↓reduceIte, LV.cells, AOp.dst, LV.I, LV.B, LV.U, LV.S, LV.nil, Nat.reduceEqDiff, Nat.reduceAdd, Nat.reduceMul, Nat.reduceSub, Nat.reduceLeDiff, Nat.reduceBEq, Nat.reduceDiv, Nat.reduceMod, Int.reduceToNat, Int.reduceLT, Int.reduceLE, Int.reduceAdd, Int.reduceSub, Int.reduceMul, Int.reduceEq, Int.reduceNeg, reduceCtorEq, resV, resAll, ARes.ev, LV.flat, ite_true, ite_false, exists_eq_left', exists_eq_left, keyOf, implies_true, fillC, capOf]
        rw [← hsucc] at cv g3
        have hcv := cv.lt
        exact ⟨m2 - 1, by omega, i + 1, v, by omega, p2.app', c1.app, c5.app, cv.app, hv, hvn, g1, g3, g4, g5, g11, g16, g17, eqI (natI _)⟩
    · simp (disch := omega) only [g1, g3, g4, g5, g11, g16, g17, g18, ↓SXd, SXu, slBounds, ↓sop, ↓aop, ↓reduceIte, LV.cells, AOp.dst, LV.I, LV.B, LV.U, LV.S, LV.nil, Nat.reduceEqDiff, Nat.reduceAdd, Nat.reduceMul, Nat.reduceSub, Nat.reduceLeDiff, Nat.reduceBEq, Nat.reduceDiv, Nat.reduceMod, Int.reduceToNat, Int.reduceLT, Int.reduceLE, Int.reduceAdd, Int.reduceSub, Int.reduceMul, Int.reduceEq, Int.reduceNeg, reduceCtorEq, resV, resAll, ARes.ev, LV.flat, ite_true, ite_false, exists_eq_left', exists_eq_left, keyOf, implies_true, fillC, capOf]
      have : i = (shdList d tp fr sd).length := by omega
      subst this
      rw [litTo_next] at cv g3
      exact ⟨m - 1, by omega, d + 1, v, by omega, p2, c1, cv, hv, g1, g3, g4, eqI (natI _)⟩
  · simp (disch := omega) only [f1, f3, f4, f11, ↓SXd, SXu, slBounds, ↓sop, ↓aop, ↓reduceIte, LV.cells, AOp.dst, LV.I, LV.B, LV.U, LV.S, LV.nil, Nat.reduceEqDiff, Nat.reduceAdd, Nat.reduceMul, Nat.reduceSub, Nat.reduceLeDiff, Nat.reduceBEq, Nat.reduceDiv, Nat.reduceMod, Int.reduceToNat, Int.reduceLT, Int.reduceLE, Int.reduceAdd, Int.reduceSub, Int.reduceMul, Int.reduceEq, Int.reduceNeg, reduceCtorEq, resV, resAll, ARes.ev, LV.flat, ite_true, ite_false, exists_eq_left', exists_eq_left, keyOf, implies_true, fillC, capOf]
    have : d = 3 := by omega
    subst this
    exact cmp_keepL hpre (by omega) bu lineSets_lo (by simp [rn, rn0, rn1, lits])
theorem g_must : CallsTo PG F.impl_Shadow_must [.agg [.I x, .I y, .I z, .ref t o tp.length, .ref t' o' fr.length, .ref t2 o2 sd.length]] M (.W (bs x y z (mustTo x y z (allowedB y z tp fr sd) (lits tp fr sd)))) M := by
  have hS := hok.1
  have ht := h1.lt
  have ht' := h2.lt
  have ht2 := h3.lt
  refine calls_run K.impl_Shadow_must rfl ?_
  simp (disch := omega) only [C.impl_Shadow_must, ↓SXd, SXu, slBounds, ↓sop, ↓aop, ↓reduceIte, LV.cells, AOp.dst, LV.I, LV.B, LV.U, LV.S, LV.nil, Nat.reduceEqDiff, Nat.reduceAdd, Nat.reduceMul, Nat.reduceSub, Nat.reduceLeDiff, Nat.reduceBEq, Nat.reduceDiv, Nat.reduceMod, Int.reduceToNat, Int.reduceLT, Int.reduceLE, Int.reduceAdd, Int.reduceSub, Int.reduceMul, Int.reduceEq, Int.reduceNeg, reduceCtorEq, resV, resAll, ARes.ev, LV.flat, ite_true, ite_false, exists_eq_left', exists_eq_left, keyOf, implies_true, fillC, capOf]
  refine callN_of (g_needs h1.app h2.app h3.app hok) ?_
  intro u N hu hp hn
  generalize allowedB y z tp fr sd = A at hn ⊢
  have hLl := lits_len hok
  generalize lits tp fr sd = L at hn hLl ⊢
  simp (disch := omega) only [↓SXd, SXu, slBounds, ↓sop, ↓aop, ↓reduceIte, LV.cells, AOp.dst, LV.I, LV.B, LV.U, LV.S, LV.nil, Nat.reduceEqDiff, Nat.reduceAdd, Nat.reduceMul, Nat.reduceSub, Nat.reduceLeDiff, Nat.reduceBEq, Nat.reduceDiv, Nat.reduceMod, Int.reduceToNat, Int.reduceLT, Int.reduceLE, Int.reduceAdd, Int.reduceSub, Int.reduceMul, Int.reduceEq, Int.reduceNeg, reduceCtorEq, resV, resAll, ARes.ev, LV.flat, ite_true, ite_false, exists_eq_left', exists_eq_left, keyOf, implies_true, fillC, capOf]
  have hpM : Pre M N := (Pre.app _ _).trans hp
  refine ev_loop (fun m fr1 M' => ∃ i : Nat, i + m = L.length ∧ M' = N ∧ fr1 3 = .W (bs x y z (mustTo x y z A (L.take i))) ∧ fr1 7 = .ref u 0 L.length ∧ fr1 8 = .I L.length ∧ fr1 9 = .I i) L.length
    ⟨0, by omega, rfl, by rw [show bs x y z (mustTo x y z A (L.take 0)) = 0#64 from (bs_zero hS).2 fun c _ => by simp [mustTo]]; rfl, rfl, rfl, rfl⟩ ?_
  rintro m fr1 M' ⟨i, hi, rfl, f3, f7, f8, f9⟩
  simp (disch := omega) only [f3, f7, f8, f9, ↓SXd, SXu, slBounds, ↓sop, ↓aop, ↓reduceIte, LV.cells, AOp.dst, LV.I, LV.B, LV.U, LV.S, LV.nil, Nat.reduceEqDiff, Nat.reduceAdd, Nat.reduceMul, Nat.reduceSub, Nat.reduceLeDiff, Nat.reduceBEq, Nat.reduceDiv, Nat.reduceMod, Int.reduceToNat, Int.reduceLT, Int.reduceLE, Int.reduceAdd, Int.reduceSub, Int.reduceMul, Int.reduceEq, Int.reduceNeg, reduceCtorEq, resV, resAll, ARes.ev, LV.flat, ite_true, ite_false, exists_eq_left', exists_eq_left, keyOf, implies_true, fillC, capOf]
  refine condC_dec (fun hlt => ?_) (fun hlt => ?_)
  · have hil : i < L.length := by omega
    have hg := hn.cell (o := i)
    rw [lineSets_get hil] at hg
    have hts : L.take (i + 1) = L.take i ++ [L.getD i (0, 0)] := by
      rw [List.take_succ, List.getElem?_eq_getElem hil]; simp [hil]
    have hsn := fun c => mustTo_snoc (x := x) (y := y) (z := z) (p := A) (L := L.take i) (q := L.getD i (0, 0)) (c := c)
    rw [← hts] at hsn
    generalize L.getD i (0, 0) = q at hg hsn
    simp (disch := omega) only [f3, f7, f8, f9, hg, Nat.mul_one, ↓SXd, SXu, slBounds, ↓sop, ↓aop, ↓reduceIte, LV.cells, AOp.dst, LV.I, LV.B, LV.U, LV.S, LV.nil, Nat.reduceEqDiff, Nat.reduceAdd, Nat.reduceMul, Nat.reduceSub, Nat.reduceLeDiff, Nat.reduceBEq, Nat.reduceDiv, Nat.reduceMod, Int.reduceToNat, Int.reduceLT, Int.reduceLE, Int.reduceAdd, Int.reduceSub, Int.reduceMul, Int.reduceEq, Int.reduceNeg, reduceCtorEq, resV, resAll, ARes.ev, LV.flat, ite_true, ite_false, exists_eq_left', exists_eq_left, keyOf, implies_true, fillC, capOf]
    refine callK_of (g_countB hS) ?_
    simp (disch := omega) only [f3, f7, f8, f9, ↓SXd, SXu, slBounds, ↓sop, ↓aop, ↓reduceIte, LV.cells, AOp.dst, LV.I, LV.B, LV.U, LV.S, LV.nil, Nat.reduceEqDiff, Nat.reduceAdd, Nat.reduceMul, Nat.reduceSub, Nat.reduceLeDiff, Nat.reduceBEq, Nat.reduceDiv, Nat.reduceMod, Int.reduceToNat, Int.reduceLT, Int.reduceLE, Int.reduceAdd, Int.reduceSub, Int.reduceMul, Int.reduceEq, Int.reduceNeg, reduceCtorEq, resV, resAll, ARes.ev, LV.flat, ite_true, ite_false, exists_eq_left', exists_eq_left, keyOf, implies_true, fillC, capOf]
    by_cases hc : (((pick x y z (inLine y z A q)).length : Nat) : Int) = 1
    · simp (disch := omega) only [f3, f7, f8, f9, hc, ↓SXd, SXu, slBounds, ↓sop, ↓aop, ↓reduceIte, LV.cells, AOp.dst, LV.I, LV.B, LV.U, LV.S, LV.nil, Nat.reduceEqDiff, Nat.reduceAdd, Nat.reduceMul, Nat.reduceSub, Nat.reduceLeDiff, Nat.reduceBEq, Nat.reduceDiv, Nat.reduceMod, Int.reduceToNat, Int.reduceLT, Int.reduceLE, Int.reduceAdd, Int.reduceSub, Int.reduceMul, Int.reduceEq, Int.reduceNeg, reduceCtorEq, resV, resAll, ARes.ev, LV.flat, ite_true, ite_false, exists_eq_left', exists_eq_left, keyOf, implies_true, fillC, capOf]
      rw [bs_or hS]
      exact ⟨m - 1, by omega, i + 1, by omega, rfl, by
        rw [(bs_eq hS).2 fun c _ => show (mustTo x y z A (L.take i) c || inLine y z A q c) = mustTo x y z A (L.take (i + 1)) c by rw [hsn, decide_eq_true (by omega), Bool.true_and]]; rfl, f7, f8, eqI (natI _)⟩
    · simp (disch := omega) only [f3, f7, f8, f9, hc, ↓SXd, SXu, slBounds, ↓sop, ↓aop, ↓reduceIte, LV.cells, AOp.dst, LV.I, LV.B, LV.U, LV.S, LV.nil, Nat.reduceEqDiff, Nat.reduceAdd, Nat.reduceMul, Nat.reduceSub, Nat.reduceLeDiff, Nat.reduceBEq, Nat.reduceDiv, Nat.reduceMod, Int.reduceToNat, Int.reduceLT, Int.reduceLE, Int.reduceAdd, Int.reduceSub, Int.reduceMul, Int.reduceEq, Int.reduceNeg, reduceCtorEq, resV, resAll, ARes.ev, LV.flat, ite_true, ite_false, exists_eq_left', exists_eq_left, keyOf, implies_true, fillC, capOf]
      exact ⟨m - 1, by omega, i + 1, by omega, rfl, by
        show fr1 3 = _
        rw [f3, (bs_eq hS).2 fun c _ => show mustTo x y z A (L.take i) c = mustTo x y z A (L.take (i + 1)) c by rw [hsn, decide_eq_false (by omega), Bool.false_and, Bool.or_false]], f7, f8, eqI (natI _)⟩
  · simp (disch := omega) only [f3, f7, f8, f9, ↓SXd, SXu, slBounds, ↓sop, ↓aop, ↓reduceIte, LV.cells, AOp.dst, LV.I, LV.B, LV.U, LV.S, LV.nil, Nat.reduceEqDiff, Nat.reduceAdd, Nat.reduceMul, Nat.reduceSub, Nat.reduceLeDiff, Nat.reduceBEq, Nat.reduceDiv, Nat.reduceMod, Int.reduceToNat, Int.reduceLT, Int.reduceLE, Int.reduceAdd, Int.reduceSub, Int.reduceMul, Int.reduceEq, Int.reduceNeg, reduceCtorEq, resV, resAll, ARes.ev, LV.flat, ite_true, ite_false, exists_eq_left', exists_eq_left, keyOf, implies_true, fillC, capOf]
    have : i = L.length := by omega
    subst this
    rw [List.take_length]
    exact cmp_pre hpM rfl
end
end Go.Ab

/- Contracts: cells that must be, the reference's side; MustCells and SpareCells, both sides. -/
namespace Go.Ab
open Go
set_option linter.unusedSimpArgs false
set_option linter.unusedVariables false
set_option maxRecDepth 20000

/-- Of the allowed cells those that must be (sp false), or the others. -/
def parted (x y z : Int) (tp fr sd : List Int) (sp : Bool) : List Cell := (pick x y z (allowedB y z tp fr sd)).filter fun c => aloneK y z (pick x y z (allowedB y z tp fr sd)) 3 c != sp
section
variable {x y z : Int} {t o t' o' t2 o2 : Nat} {tp fr sd : List Int} {M : Mem} (h1 : Ints M t o tp) (h2 : Ints M t' o' fr) (h3 : Ints M t2 o2 sd)
include h1 h2 h3
end
end Go.Ab

/- Contracts: MustCells and SpareCells, both sides. -/
namespace Go.Ab
open Go
set_option linter.unusedSimpArgs false
set_option linter.unusedVariables false
set_option maxRecDepth 20000

/-- A valid shadow whose lists fit together. -/
def Fits (x y z : Int) (tp fr sd : List Int) : Prop := ShdOK x y z tp fr sd ∧ HasShd x y z tp fr sd (pick x y z (allowedB y z tp fr sd))
instance (x y z : Int) (tp fr sd : List Int) : Decidable (Fits x y z tp fr sd) := by unfold Fits; exact inferInstance
theorem parted_pick {x y z : Int} {tp fr sd : List Int} {sp : Bool} (hok : ShdOK x y z tp fr sd) :
    parted x y z tp fr sd sp = pick x y z fun c => allowedB y z tp fr sd c && (mustTo x y z (allowedB y z tp fr sd) (lits tp fr sd) c != sp) := by
  unfold parted
  rw [show ∀ q, (pick x y z (allowedB y z tp fr sd)).filter q = pick x y z fun c => allowedB y z tp fr sd c && q c from fun q => by unfold pick; rw [List.filter_filter]; apply List.filter_congr; intro c _; rw [Bool.and_comm]]
  refine pick_congr hok.1 fun c hc => ?_
  rw [must_eq hok hc]
  cases allowedB y z tp fr sd c <;> simp
theorem parted_must {x y z : Int} {tp fr sd : List Int} (hok : ShdOK x y z tp fr sd) : parted x y z tp fr sd false = pick x y z (mustTo x y z (allowedB y z tp fr sd) (lits tp fr sd)) := by
  rw [parted_pick hok]
  refine pick_congr hok.1 fun c hc => ?_
  rw [must_eq hok hc]
  cases allowedB y z tp fr sd c <;> simp
def partOf (x y z : Int) (tp fr sd : List Int) (sp : Bool) : Option (List Cell) := if Fits x y z tp fr sd then some (parted x y z tp fr sd sp) else none
section
variable {x y z : Int} {t o t' o' t2 o2 : Nat} {tp fr sd : List Int} {M : Mem} (h1 : Ints M t o tp) (h2 : Ints M t' o' fr) (h3 : Ints M t2 o2 sd) (l1 : tp.length ≤ 1000000000) (l2 : fr.length ≤ 1000000000) (l3 : sd.length ≤ 1000000000)
include h1 h2 h3 l1 l2 l3
end
end Go.Ab

/- Plain: fewest cubes that meet all lines. -/
namespace Go.Ab
open Go
set_option linter.unusedSimpArgs false
set_option linter.unusedVariables false

section
variable (y z : Int) (L : List (Nat × Nat))
/-- The first sublist of n more cells, in the order of the list, with which the chosen ones meet all lines. -/
def fc : List Cell → List Cell → Nat → Option (List Cell)
  | _, ch, 0 => if Meets y z L ch then some ch else none
  | [], _, _ + 1 => none
  | c :: rest, ch, n + 1 => match fc rest (ch ++ [c]) n with
    | some r => some r
    | none => fc rest ch (n + 1)
end
section
variable {y z : Int} {L : List (Nat × Nat)}
theorem fc_some : ∀ {rest ch : List Cell} {n : Nat} {r : List Cell}, fc y z L rest ch n = some r → ∃ T, T.Sublist rest ∧ T.length = n ∧ r = ch ++ T ∧ Meets y z L r
  | rest, ch, 0, r, h => by
    unfold fc at h
    split at h
    · rename_i hm
      cases h
      exact ⟨[], List.nil_sublist _, rfl, by simp, hm⟩
    · cases h
  | [], ch, n + 1, r, h => by unfold fc at h; cases h
  | c :: rest, ch, n + 1, r, h => by
    unfold fc at h
    split at h
    · rename_i r' hr
      cases h
      obtain ⟨T, h1, h2, h3, h4⟩ := fc_some hr
      exact ⟨c :: T, h1.cons_cons c, by simp [h2], by rw [h3, List.append_assoc]; rfl, h4⟩
    · obtain ⟨T, h1, h2, h3, h4⟩ := fc_some h
      exact ⟨T, h1.cons c, h2, h3, h4⟩
theorem fc_none : ∀ {rest ch : List Cell} {n : Nat}, fc y z L rest ch n = none → ∀ T, T.Sublist rest → T.length = n → ¬ Meets y z L (ch ++ T)
  | rest, ch, 0, h, T, _, hl => by
    have : T = [] := List.eq_nil_of_length_eq_zero hl
    subst this
    rw [List.append_nil]
    intro hm
    unfold fc at h
    rw [if_pos hm] at h; cases h
  | [], ch, n + 1, h, T, hs, hl => by
    have : T = [] := List.sublist_nil.1 hs
    subst this; simp at hl
  | c :: rest, ch, n + 1, h, T, hs, hl => by
    unfold fc at h
    split at h
    · cases h
    · rename_i hr
      cases hs with
      | cons _ hs => exact fc_none h T hs hl
      | cons_cons _ hs =>
        rename_i T'
        intro hm
        exact fc_none hr T' hs (by simpa using hl) (by rw [List.append_assoc]; exact hm)
theorem fc_isSome {rest ch : List Cell} {n : Nat} : (fc y z L rest ch n).isSome = true ↔ ∃ T, T.Sublist rest ∧ T.length = n ∧ Meets y z L (ch ++ T) := by
  constructor
  · intro h
    obtain ⟨r, hr⟩ := Option.isSome_iff_exists.1 h
    obtain ⟨T, h1, h2, h3, h4⟩ := fc_some hr
    exact ⟨T, h1, h2, by rw [← h3]; exact h4⟩
  · rintro ⟨T, h1, h2, h3⟩
    cases hf : fc y z L rest ch n with
    | some r => rfl
    | none => exact absurd h3 (fc_none hf T h1 h2)
theorem Meets.mono {cs ds : List Cell} (h : Meets y z L cs) (hs : ∀ c ∈ cs, c ∈ ds) : Meets y z L ds := fun q hq => by
  obtain ⟨c, hc, ho⟩ := h q hq
  exact ⟨c, hs c hc, ho⟩
/-- Some cells of a list, at most so many, not among others, meet with the chosen ones all lines. -/
def Cov (y z : Int) (L : List (Nat × Nat)) (al : List Cell) (p w : Cell → Bool) (n : Nat) : Prop := ∃ T : List Cell, T.length ≤ n ∧ (∀ c ∈ T, w c = false) ∧ ∀ q ∈ L, ∃ c ∈ al, onLine y z q.1 q.2 c = true ∧ (p c = true ∨ c ∈ T)
noncomputable instance instDecCov {al : List Cell} {p w : Cell → Bool} {n : Nat} : Decidable (Cov y z L al p w n) := Classical.propDecidable _
end
end Go.Ab

/- Contracts: whether cells can meet all dark lines, the reference's side. -/
namespace Go.Ab
open Go
set_option linter.unusedSimpArgs false
set_option linter.unusedVariables false
set_option maxRecDepth 20000

def seenTo (y z : Int) (tp fr : List Int) (V : List Bool) (c : Cell) : Nat → List Bool
  | 0 => V
  | k + 1 => (seenTo y z tp fr V c k).set (gl y z tp fr (2 - k) c) true
theorem seenTo_len {y z : Int} {tp fr : List Int} {V : List Bool} {c : Cell} : ∀ {k : Nat}, (seenTo y z tp fr V c k).length = V.length
  | 0 => rfl
  | k + 1 => by rw [seenTo, List.length_set, seenTo_len]
def seenL (y z : Int) (tp fr : List Int) (n : Nat) (cs : List Cell) : List Bool := cs.foldl (fun V c => seenTo y z tp fr V c 3) (List.replicate n false)
theorem seenF_len {y z : Int} {tp fr : List Int} : ∀ {cs : List Cell} {V : List Bool}, (cs.foldl (fun V c => seenTo y z tp fr V c 3) V).length = V.length
  | [], _ => rfl
  | c :: cs, V => by rw [List.foldl_cons, seenF_len, seenTo_len]
theorem set_t {v : List Bool} {k n : Nat} (h : n < v.length) : (v.set k true).getD n false = true ↔ v.getD n false = true ∨ k = n := by
  rw [getD_set]
  by_cases e : n = k
  · subst e; rw [if_pos ⟨rfl, h⟩]; simp
  · rw [if_neg (fun h => e h.1)]
    exact ⟨fun h => .inl h, fun h => h.elim id fun k => absurd k.symm e⟩
theorem seenTo_get {y z : Int} {tp fr : List Int} {V : List Bool} {c : Cell} {n : Nat} (h : n < V.length) : (seenTo y z tp fr V c 3).getD n false = true ↔ V.getD n false = true ∨ ∃ d, d < 3 ∧ gl y z tp fr d c = n := by
  show (((V.set (gl y z tp fr 2 c) true).set (gl y z tp fr 1 c) true).set (gl y z tp fr 0 c) true).getD n false = true ↔ _
  rw [set_t (by simpa using h), set_t (by simpa using h), set_t h]
  constructor
  · rintro (((h | h) | h) | h)
    · exact .inl h
    · exact .inr ⟨2, by omega, h⟩
    · exact .inr ⟨1, by omega, h⟩
    · exact .inr ⟨0, by omega, h⟩
  · rintro (h | ⟨d, hd, h⟩)
    · exact .inl (.inl (.inl h))
    · rcases (show d = 0 ∨ d = 1 ∨ d = 2 by omega) with rfl | rfl | rfl
      · exact .inr h
      · exact .inl (.inr h)
      · exact .inl (.inl (.inr h))
theorem seenF_get {y z : Int} {tp fr : List Int} {n : Nat} : ∀ {cs : List Cell} {V : List Bool}, n < V.length → ((cs.foldl (fun V c => seenTo y z tp fr V c 3) V).getD n false = true ↔ V.getD n false = true ∨ ∃ c ∈ cs, ∃ d, d < 3 ∧ gl y z tp fr d c = n)
  | [], V, _ => by simp
  | c :: cs, V, h => by
    rw [List.foldl_cons, seenF_get (by rw [seenTo_len]; exact h), seenTo_get h]
    constructor
    · rintro ((h | ⟨d, hd, e⟩) | ⟨e, he, d, hd, k⟩)
      · exact .inl h
      · exact .inr ⟨c, by simp, d, hd, e⟩
      · exact .inr ⟨e, by simp [he], d, hd, k⟩
    · rintro (h | ⟨e, he, d, hd, k⟩)
      · exact .inl (.inl h)
      · rcases List.mem_cons.1 he with rfl | he
        · exact .inl (.inr ⟨d, hd, k⟩)
        · exact .inr ⟨e, he, d, hd, k⟩
/-- Each dark line has a cell of the list. -/
def CanMeet (y z : Int) (tp fr : List Int) (D : List Bool) (cs : List Cell) : Prop := ∀ n, n < D.length → D.getD n false = true → (seenL y z tp fr D.length cs).getD n false = true
noncomputable instance {y z : Int} {tp fr : List Int} {D : List Bool} {cs : List Cell} : Decidable (CanMeet y z tp fr D cs) := Classical.propDecidable _
theorem canMeet_iff {y z : Int} {tp fr : List Int} {D : List Bool} {cs : List Cell} : CanMeet y z tp fr D cs ↔ ∀ n, n < D.length → D.getD n false = true → ∃ c ∈ cs, ∃ d, d < 3 ∧ gl y z tp fr d c = n := by
  unfold CanMeet seenL
  constructor
  · intro h n hn hd
    have := (seenF_get (by simpa using hn)).1 (h n hn hd)
    rcases this with h | h
    · rw [List.getD_eq_getElem?_getD, List.getElem?_replicate, if_pos hn] at h; cases h
    · exact h
  · intro h n hn hd
    exact (seenF_get (by simpa using hn)).2 (.inr (h n hn hd))

theorem made_bool (n : Nat) : (List.replicate n [LV.val (Value.bool false)]).flatten = boolL (List.replicate n false) := by
  simp [boolL]
theorem h_l3Can {x y z : Int} {a b c' : LV} {q r e : Nat} {w : Bool} {tp fr sd : List Int} {cs : List Cell} {D : List Bool} {M : Mem} (hok : ShdOK x y z tp fr sd) (ha : a.one = true ∧ a.cells = some [a]) (hb : b.one = true ∧ b.cells = some [b]) (hc' : c'.one = true ∧ c'.cells = some [c'])
    (h : Tri M q r cs) (hin : ∀ c ∈ cs, c.inBox x y z) (hn : cs.length ≤ 1000000) (hD : Live M e (.row (boolL D) w 1)) (hDl : D.length = tp.length + fr.length + sd.length) :
    CallsTo PG F.spec_l3Can [.agg [.I x, .I y, .I z, a, b, c'], .ref q r cs.length, .ref e 0 D.length] M (.B (decide (CanMeet y z tp fr D cs))) M := by
  have hS := hok.1
  have hq := h.lt
  have he := hD.lt
  have b0 : ((sd.length : Nat) : Int) = y * z := hok.2.2.2.2
  have b1 : ((fr.length : Nat) : Int) = x * z := hok.2.2.1.2
  have b2 : ((tp.length : Nat) : Int) = x * y := hok.2.1.2
  obtain ⟨⟨_, _⟩, ⟨_, _⟩, ⟨_, _⟩⟩ := prod_le hS
  have hglb : ∀ c ∈ cs, ∀ d, d < 3 → gl y z tp fr d c < D.length := fun c hc d hd => by
    have l0 := lineOf_in hS (hin c hc) (d := 0) (by omega)
    have l1 := lineOf_in hS (hin c hc) (d := 1) (by omega)
    have l2 := lineOf_in hS (hin c hc) (d := 2) (by omega)
    have q0 : linesOf x y z 0 = y * z := rfl
    have q1 : linesOf x y z 1 = x * z := rfl
    have q2 : linesOf x y z 2 = x * y := rfl
    rcases (show d = 0 ∨ d = 1 ∨ d = 2 by omega) with rfl | rfl | rfl
    · simp only [gl, show offL tp fr 0 = tp.length + fr.length from rfl]; omega
    · simp only [gl, show offL tp fr 1 = tp.length from rfl]; omega
    · simp only [gl, show offL tp fr 2 = 0 from rfl]; omega
  refine calls_run K.spec_l3Can rfl ?_
  simp (disch := omega) only [C.spec_l3Can, made_bool, ha, hb, hc', ↓SXd, SXu, slBounds, ↓sop, ↓aop, ↓reduceIte, LV.cells, AOp.dst, LV.I, LV.B, LV.U, LV.S, LV.nil, Nat.reduceEqDiff, Nat.reduceAdd, Nat.reduceMul, Nat.reduceSub, Nat.reduceLeDiff, Nat.reduceBEq, Nat.reduceDiv, Nat.reduceMod, Int.reduceToNat, Int.reduceLT, Int.reduceLE, Int.reduceAdd, Int.reduceSub, Int.reduceMul, Int.reduceEq, Int.reduceNeg, reduceCtorEq, resV, resAll, ARes.ev, LV.flat, ite_true, ite_false, exists_eq_left', exists_eq_left, keyOf, implies_true, fillC, capOf]
  refine ev_loop (fun m fr1 M' => ∃ i : Nat, i + m = cs.length ∧ Pre M M' ∧ Live M' M.length (.row [.I x, .I y, .I z, a, b, c'] true 0) ∧ Live M' (M.length + 1) (.row (boolL ((cs.take i).foldl (fun V c => seenTo y z tp fr V c 3) (List.replicate D.length false))) true 1) ∧
    fr1 1 = .ref q r cs.length ∧ fr1 2 = .ref e 0 D.length ∧ fr1 3 = .ptr M.length 0 ∧ fr1 7 = .ref (M.length + 1) 0 D.length ∧ fr1 8 = .I i) cs.length
    ⟨0, by omega, Pre.app _ _, Live.new, Live.newj rfl, rfl, rfl, rfl, rfl, rfl⟩ ?_
  rintro m fr1 M' ⟨i, hi, p3, cb, cv, f1, f2, f3, f7, f8⟩
  simp (disch := omega) only [f1, f2, f3, f7, f8, ↓SXd, SXu, slBounds, ↓sop, ↓aop, ↓reduceIte, LV.cells, AOp.dst, LV.I, LV.B, LV.U, LV.S, LV.nil, Nat.reduceEqDiff, Nat.reduceAdd, Nat.reduceMul, Nat.reduceSub, Nat.reduceLeDiff, Nat.reduceBEq, Nat.reduceDiv, Nat.reduceMod, Int.reduceToNat, Int.reduceLT, Int.reduceLE, Int.reduceAdd, Int.reduceSub, Int.reduceMul, Int.reduceEq, Int.reduceNeg, reduceCtorEq, resV, resAll, ARes.ev, LV.flat, ite_true, ite_false, exists_eq_left', exists_eq_left, keyOf, implies_true, fillC, capOf]
  refine condC_dec (fun hlt => ?_) (fun hlt => ?_)
  · have hil : i < cs.length := by omega
    have hg := Tri.get (h.pre p3) hil
    have hci := hin _ (getD_mem' (d := default) hil)
    have hgi := hglb _ (getD_mem' (d := default) hil)
    have hts : (cs.take (i + 1)).foldl (fun V c => seenTo y z tp fr V c 3) (List.replicate D.length false) = seenTo y z tp fr ((cs.take i).foldl (fun V c => seenTo y z tp fr V c 3) (List.replicate D.length false)) (cs.getD i default) 3 := by
      rw [List.take_succ, List.getElem?_eq_getElem hil, Option.toList_some, List.foldl_append]; simp [hil]
    have hVl := seenF_len (y := y) (z := z) (tp := tp) (fr := fr) (cs := cs.take i) (V := List.replicate D.length false)
    rw [List.length_replicate] at hVl
    generalize cs.getD i default = c at hg hci hgi hts
    generalize (cs.take i).foldl (fun V c => seenTo y z tp fr V c 3) (List.replicate D.length false) = V at cv hts hVl
    have hcb := cb.lt
    have hcv := cv.lt
    simp (disch := omega) only [f1, f2, f3, f7, f8, hg, Cell.row, cb.cells, ↓SXd, SXu, slBounds, ↓sop, ↓aop, ↓reduceIte, LV.cells, AOp.dst, LV.I, LV.B, LV.U, LV.S, LV.nil, Nat.reduceEqDiff, Nat.reduceAdd, Nat.reduceMul, Nat.reduceSub, Nat.reduceLeDiff, Nat.reduceBEq, Nat.reduceDiv, Nat.reduceMod, Int.reduceToNat, Int.reduceLT, Int.reduceLE, Int.reduceAdd, Int.reduceSub, Int.reduceMul, Int.reduceEq, Int.reduceNeg, reduceCtorEq, resV, resAll, ARes.ev, LV.flat, ite_true, ite_false, exists_eq_left', exists_eq_left, keyOf, implies_true, fillC, capOf]
    refine callK_of (h_l3Lines hok hci ha hb hc') ?_
    simp (disch := omega) only [f1, f2, f3, f7, f8, splice, ↓SXd, SXu, slBounds, ↓sop, ↓aop, ↓reduceIte, LV.cells, AOp.dst, LV.I, LV.B, LV.U, LV.S, LV.nil, Nat.reduceEqDiff, Nat.reduceAdd, Nat.reduceMul, Nat.reduceSub, Nat.reduceLeDiff, Nat.reduceBEq, Nat.reduceDiv, Nat.reduceMod, Int.reduceToNat, Int.reduceLT, Int.reduceLE, Int.reduceAdd, Int.reduceSub, Int.reduceMul, Int.reduceEq, Int.reduceNeg, reduceCtorEq, resV, resAll, ARes.ev, LV.flat, ite_true, ite_false, exists_eq_left', exists_eq_left, keyOf, implies_true, fillC, capOf]
    refine ev_loop (fun m2 fr2 M2 => ∃ k : Nat, k + m2 = 3 ∧ Pre M M2 ∧ Live M2 M.length (.row [.I x, .I y, .I z, a, b, c'] true 0) ∧ Live M2 (M.length + 1) (.row (boolL (seenTo y z tp fr V c k)) true 1) ∧ Live M2 M'.length (.row [.I (gl y z tp fr 2 c : Nat), .I (gl y z tp fr 1 c : Nat), .I (gl y z tp fr 0 c : Nat)] true 0) ∧
      fr2 1 = .ref q r cs.length ∧ fr2 2 = .ref e 0 D.length ∧ fr2 3 = .ptr M.length 0 ∧ fr2 7 = .ref (M.length + 1) 0 D.length ∧ fr2 8 = .I i ∧ fr2 9 = .ptr M'.length 0 ∧ fr2 10 = .I k) 3
      ⟨0, rfl, p3.app', cb.app, cv.app, Live.new, f1, f2, f3, f7, f8, rfl, rfl⟩ ?_
    rintro m2 fr2 M2 ⟨k, hk, p4, db, dv, d9, g1, g2, g3, g7, g8, g9, g10⟩
    simp (disch := omega) only [g1, g2, g3, g7, g8, g9, g10, ↓SXd, SXu, slBounds, ↓sop, ↓aop, ↓reduceIte, LV.cells, AOp.dst, LV.I, LV.B, LV.U, LV.S, LV.nil, Nat.reduceEqDiff, Nat.reduceAdd, Nat.reduceMul, Nat.reduceSub, Nat.reduceLeDiff, Nat.reduceBEq, Nat.reduceDiv, Nat.reduceMod, Int.reduceToNat, Int.reduceLT, Int.reduceLE, Int.reduceAdd, Int.reduceSub, Int.reduceMul, Int.reduceEq, Int.reduceNeg, reduceCtorEq, resV, resAll, ARes.ev, LV.flat, ite_true, ite_false, exists_eq_left', exists_eq_left, keyOf, implies_true, fillC, capOf]
    have hsl := seenTo_len (y := y) (z := z) (tp := tp) (fr := fr) (V := V) (c := c) (k := k)
    refine condC_dec (fun hlt2 => ?_) (fun hlt2 => ?_)
    · have hk3 : k < 3 := by omega
      have hgk := hgi (2 - k) (by omega)
      have h9 := d9.cell (o := k)
      rw [show [LV.I (gl y z tp fr 2 c : Nat), .I (gl y z tp fr 1 c : Nat), .I (gl y z tp fr 0 c : Nat)][k]? = some (.I (gl y z tp fr (2 - k) c : Nat)) by
        rcases (show k = 0 ∨ k = 1 ∨ k = 2 by omega) with rfl | rfl | rfl <;> rfl] at h9
      simp (disch := omega) only [g1, g2, g3, g7, g8, g9, g10, h9, Nat.mul_one, Nat.zero_add, ↓SXd, SXu, slBounds, ↓sop, ↓aop, ↓reduceIte, LV.cells, AOp.dst, LV.I, LV.B, LV.U, LV.S, LV.nil, Nat.reduceEqDiff, Nat.reduceAdd, Nat.reduceMul, Nat.reduceSub, Nat.reduceLeDiff, Nat.reduceBEq, Nat.reduceDiv, Nat.reduceMod, Int.reduceToNat, Int.reduceLT, Int.reduceLE, Int.reduceAdd, Int.reduceSub, Int.reduceMul, Int.reduceEq, Int.reduceNeg, reduceCtorEq, resV, resAll, ARes.ev, LV.flat, ite_true, ite_false, exists_eq_left', exists_eq_left, keyOf, implies_true, fillC, capOf]
      refine memK_bool dv (by omega) fun N3 e1 e2 e3 => ?_
      simp (disch := omega) only [g1, g2, g3, g7, g8, g9, g10, ↓SXd, SXu, slBounds, ↓sop, ↓aop, ↓reduceIte, LV.cells, AOp.dst, LV.I, LV.B, LV.U, LV.S, LV.nil, Nat.reduceEqDiff, Nat.reduceAdd, Nat.reduceMul, Nat.reduceSub, Nat.reduceLeDiff, Nat.reduceBEq, Nat.reduceDiv, Nat.reduceMod, Int.reduceToNat, Int.reduceLT, Int.reduceLE, Int.reduceAdd, Int.reduceSub, Int.reduceMul, Int.reduceEq, Int.reduceNeg, reduceCtorEq, resV, resAll, ARes.ev, LV.flat, ite_true, ite_false, exists_eq_left', exists_eq_left, keyOf, implies_true, fillC, capOf]
      exact ⟨m2 - 1, by omega, k + 1, by omega, pre_step p4 (by omega) (j := 0) e1 e3, live_step db (by omega) e3, e2, live_step d9 (by omega) e3, g1, g2, g3, g7, g8, g9, eqI (natI _)⟩
    · simp (disch := omega) only [g1, g2, g3, g7, g8, g9, g10, ↓SXd, SXu, slBounds, ↓sop, ↓aop, ↓reduceIte, LV.cells, AOp.dst, LV.I, LV.B, LV.U, LV.S, LV.nil, Nat.reduceEqDiff, Nat.reduceAdd, Nat.reduceMul, Nat.reduceSub, Nat.reduceLeDiff, Nat.reduceBEq, Nat.reduceDiv, Nat.reduceMod, Int.reduceToNat, Int.reduceLT, Int.reduceLE, Int.reduceAdd, Int.reduceSub, Int.reduceMul, Int.reduceEq, Int.reduceNeg, reduceCtorEq, resV, resAll, ARes.ev, LV.flat, ite_true, ite_false, exists_eq_left', exists_eq_left, keyOf, implies_true, fillC, capOf]
      have : k = 3 := by omega
      subst this
      rw [← hts] at dv
      exact ⟨m - 1, by omega, i + 1, by omega, p4, db, dv, g1, g2, g3, g7, eqI (natI _)⟩
  · have : i = cs.length := by omega
    subst this
    rw [List.take_length] at cv
    have hseen := seenF_len (y := y) (z := z) (tp := tp) (fr := fr) (cs := cs) (V := List.replicate D.length false)
    rw [List.length_replicate] at hseen
    change Live M' (M.length + 1) (.row (boolL (seenL y z tp fr D.length cs)) true 1) at cv
    change (seenL y z tp fr D.length cs).length = D.length at hseen
    have hcm : CanMeet y z tp fr D cs ↔ ∀ n, n < D.length → D.getD n false = true → (seenL y z tp fr D.length cs).getD n false = true := Iff.rfl
    generalize seenL y z tp fr D.length cs = V at cv hseen hcm
    simp (disch := omega) only [f1, f2, f3, f7, f8, ↓SXd, SXu, slBounds, ↓sop, ↓aop, ↓reduceIte, LV.cells, AOp.dst, LV.I, LV.B, LV.U, LV.S, LV.nil, Nat.reduceEqDiff, Nat.reduceAdd, Nat.reduceMul, Nat.reduceSub, Nat.reduceLeDiff, Nat.reduceBEq, Nat.reduceDiv, Nat.reduceMod, Int.reduceToNat, Int.reduceLT, Int.reduceLE, Int.reduceAdd, Int.reduceSub, Int.reduceMul, Int.reduceEq, Int.reduceNeg, reduceCtorEq, resV, resAll, ARes.ev, LV.flat, ite_true, ite_false, exists_eq_left', exists_eq_left, keyOf, implies_true, fillC, capOf]
    refine ev_loop (fun m fr1 N' => ∃ i : Nat, i + m = D.length ∧ N' = M' ∧ (∀ n, n < i → D.getD n false = true → V.getD n false = true) ∧ fr1 2 = .ref e 0 D.length ∧ fr1 7 = .ref (M.length + 1) 0 D.length ∧ fr1 11 = .I i) D.length
      ⟨0, by omega, rfl, by omega, f2, f7, rfl⟩ ?_
    clear f1 f2 f3 f7 f8
    rintro m fr1 N' ⟨i, hi, rfl, hj, f2, f7, f11⟩
    simp (disch := omega) only [f2, f7, f11, ↓SXd, SXu, slBounds, ↓sop, ↓aop, ↓reduceIte, LV.cells, AOp.dst, LV.I, LV.B, LV.U, LV.S, LV.nil, Nat.reduceEqDiff, Nat.reduceAdd, Nat.reduceMul, Nat.reduceSub, Nat.reduceLeDiff, Nat.reduceBEq, Nat.reduceDiv, Nat.reduceMod, Int.reduceToNat, Int.reduceLT, Int.reduceLE, Int.reduceAdd, Int.reduceSub, Int.reduceMul, Int.reduceEq, Int.reduceNeg, reduceCtorEq, resV, resAll, ARes.ev, LV.flat, ite_true, ite_false, exists_eq_left', exists_eq_left, keyOf, implies_true, fillC, capOf]
    refine condC_dec (fun hlt => ?_) (fun hlt => ?_)
    · have hil : i < D.length := by omega
      have hg := (hD.pre p3).cell (o := i)
      rw [boolL_get hil] at hg
      have hg2 := cv.cell (o := i)
      rw [boolL_get (by omega)] at hg2
      have hnx : ∀ {P : Prop}, (D.getD i false = true → V.getD i false = true) → (∀ n, n < i + 1 → D.getD n false = true → V.getD n false = true) := fun {P} h n hn hd => by
        rcases Nat.lt_or_ge n i with h2 | h2
        · exact hj n h2 hd
        · rw [show n = i by omega] at hd ⊢; exact h hd
      cases hdi : D.getD i false with
      | false =>
        rw [hdi] at hg hnx
        simp (disch := omega) only [f2, f7, f11, hg, Nat.mul_one, Nat.zero_add, ↓SXd, SXu, slBounds, ↓sop, ↓aop, ↓reduceIte, LV.cells, AOp.dst, LV.I, LV.B, LV.U, LV.S, LV.nil, Nat.reduceEqDiff, Nat.reduceAdd, Nat.reduceMul, Nat.reduceSub, Nat.reduceLeDiff, Nat.reduceBEq, Nat.reduceDiv, Nat.reduceMod, Int.reduceToNat, Int.reduceLT, Int.reduceLE, Int.reduceAdd, Int.reduceSub, Int.reduceMul, Int.reduceEq, Int.reduceNeg, reduceCtorEq, resV, resAll, ARes.ev, LV.flat, ite_true, ite_false, exists_eq_left', exists_eq_left, keyOf, implies_true, fillC, capOf]
        exact ⟨m - 1, by omega, i + 1, by omega, rfl, hnx (P := True) (by simp), f2, f7, eqI (natI _)⟩
      | true =>
        cases hvi : V.getD i false with
        | true =>
          rw [hdi] at hg
          rw [hvi] at hg2 hnx
          simp (disch := omega) only [f2, f7, f11, hg, hg2, Nat.mul_one, Nat.zero_add, ↓SXd, SXu, slBounds, ↓sop, ↓aop, ↓reduceIte, LV.cells, AOp.dst, LV.I, LV.B, LV.U, LV.S, LV.nil, Nat.reduceEqDiff, Nat.reduceAdd, Nat.reduceMul, Nat.reduceSub, Nat.reduceLeDiff, Nat.reduceBEq, Nat.reduceDiv, Nat.reduceMod, Int.reduceToNat, Int.reduceLT, Int.reduceLE, Int.reduceAdd, Int.reduceSub, Int.reduceMul, Int.reduceEq, Int.reduceNeg, reduceCtorEq, resV, resAll, ARes.ev, LV.flat, ite_true, ite_false, exists_eq_left', exists_eq_left, keyOf, implies_true, fillC, capOf]
          exact ⟨m - 1, by omega, i + 1, by omega, rfl, hnx (P := True) (by simp), f2, f7, eqI (natI _)⟩
        | false =>
          rw [hdi] at hg
          rw [hvi] at hg2
          simp (disch := omega) only [f2, f7, f11, hg, hg2, Nat.mul_one, Nat.zero_add, ↓SXd, SXu, slBounds, ↓sop, ↓aop, ↓reduceIte, LV.cells, AOp.dst, LV.I, LV.B, LV.U, LV.S, LV.nil, Nat.reduceEqDiff, Nat.reduceAdd, Nat.reduceMul, Nat.reduceSub, Nat.reduceLeDiff, Nat.reduceBEq, Nat.reduceDiv, Nat.reduceMod, Int.reduceToNat, Int.reduceLT, Int.reduceLE, Int.reduceAdd, Int.reduceSub, Int.reduceMul, Int.reduceEq, Int.reduceNeg, reduceCtorEq, resV, resAll, ARes.ev, LV.flat, ite_true, ite_false, exists_eq_left', exists_eq_left, keyOf, implies_true, fillC, capOf]
          rw [decide_eq_false (fun h => by rw [hcm.1 h i hil hdi] at hvi; cases hvi)]
          exact cmp_pre p3 rfl
    · simp (disch := omega) only [f2, f7, f11, ↓SXd, SXu, slBounds, ↓sop, ↓aop, ↓reduceIte, LV.cells, AOp.dst, LV.I, LV.B, LV.U, LV.S, LV.nil, Nat.reduceEqDiff, Nat.reduceAdd, Nat.reduceMul, Nat.reduceSub, Nat.reduceLeDiff, Nat.reduceBEq, Nat.reduceDiv, Nat.reduceMod, Int.reduceToNat, Int.reduceLT, Int.reduceLE, Int.reduceAdd, Int.reduceSub, Int.reduceMul, Int.reduceEq, Int.reduceNeg, reduceCtorEq, resV, resAll, ARes.ev, LV.flat, ite_true, ite_false, exists_eq_left', exists_eq_left, keyOf, implies_true, fillC, capOf]
      have : i = D.length := by omega
      subst this
      rw [decide_eq_true (hcm.2 hj)]
      exact cmp_pre p3 rfl
end Go.Ab

/- Contracts: the reference's search for cells that meet all lines. -/
namespace Go.Ab
open Go
set_option linter.unusedSimpArgs false
set_option linter.unusedVariables false
set_option maxRecDepth 20000

theorem countB_set : ∀ (v : List Bool) (k : Nat), v.countP id ≤ (v.set k false).countP id + 1
  | [], k => by simp
  | b :: v, 0 => by rw [List.set_cons_zero, List.countP_cons, List.countP_cons]; cases b <;> simp
  | b :: v, k + 1 => by
    have := countB_set v k
    rw [List.set_cons_succ, List.countP_cons, List.countP_cons]; omega
theorem dark_count {y z : Int} {tp fr : List Int} : ∀ {T : List Cell} {V : List Bool}, V.countP id ≤ (T.foldl (darkStep y z tp fr) V).countP id + 3 * T.length
  | [], V => by simp
  | c :: T, V => by
    have h1 := dark_count (y := y) (z := z) (tp := tp) (fr := fr) (T := T) (V := darkStep y z tp fr V c)
    have h2 : V.countP id ≤ (darkStep y z tp fr V c).countP id + 3 := by
      unfold darkStep
      have a := countB_set V (gl y z tp fr 2 c)
      have b := countB_set (V.set (gl y z tp fr 2 c) false) (gl y z tp fr 1 c)
      have c := countB_set ((V.set (gl y z tp fr 2 c) false).set (gl y z tp fr 1 c) false) (gl y z tp fr 0 c)
      omega
    rw [List.foldl_cons, List.length_cons]; omega
theorem count_zero {V : List Bool} : V.countP id = 0 ↔ ∀ n, n < V.length → V.getD n false = false := by
  rw [List.countP_eq_zero]
  constructor
  · intro h n hn
    have := h _ (getD_mem' (d := false) hn)
    simpa using this
  · intro h b hb
    obtain ⟨i, hi, rfl⟩ := List.getElem_of_mem hb
    have := h i hi
    simpa [hi] using this
theorem dark_app {y z : Int} {tp fr sd : List Int} {ch T : List Cell} : darkL y z tp fr sd (ch ++ T) = T.foldl (darkStep y z tp fr) (darkL y z tp fr sd ch) := by unfold darkL; rw [List.foldl_append]
section
variable {x y z : Int} {tp fr sd : List Int} (hok : ShdOK x y z tp fr sd)
include hok
theorem dark_zero {ch : List Cell} (h : ∀ c ∈ ch, c.inBox x y z) : (darkL y z tp fr sd ch).countP id = 0 ↔ Meets y z (lits tp fr sd) ch := by
  rw [count_zero]; exact met_iff hok h
theorem prune1 {ch T : List Cell} (h : ∀ c ∈ ch, c.inBox x y z) (hT : ∀ c ∈ T, c.inBox x y z) (hd : 3 * T.length < (darkL y z tp fr sd ch).countP id) : ¬ Meets y z (lits tp fr sd) (ch ++ T) := fun hm => by
  have h0 := (dark_zero hok (ch := ch ++ T) fun c hc => (List.mem_append.1 hc).elim (h c) (hT c)).2 hm
  rw [dark_app] at h0
  have := dark_count (y := y) (z := z) (tp := tp) (fr := fr) (T := T) (V := darkL y z tp fr sd ch)
  omega
theorem prune2 {ch T rest : List Cell} (h : ∀ c ∈ ch, c.inBox x y z) (hT : ∀ c ∈ rest, c.inBox x y z) (hs : T.Sublist rest) (hd : ¬ CanMeet y z tp fr (darkL y z tp fr sd ch) rest) : ¬ Meets y z (lits tp fr sd) (ch ++ T) := fun hm => by
  rw [canMeet_iff] at hd
  apply hd
  intro n hn hdn
  refine Classical.byContradiction fun hno => ?_
  have h0 := (met_iff hok (cs := ch ++ T) fun c hc => (List.mem_append.1 hc).elim (h c) fun hc => hT c (hs.mem hc)).2 hm n (by rw [darkL_len] at hn ⊢; exact hn)
  have h1 : (darkL y z tp fr sd (ch ++ T)).getD n false = true := by
    rw [dark_app, darkF_get]
    exact ⟨hdn, fun c hc d hd e => hno ⟨c, hs.mem hc, d, hd, e⟩⟩
  rw [h1] at h0; cases h0
end
theorem fc_none_of {y z : Int} {L : List (Nat × Nat)} {rest ch : List Cell} {n : Nat} (h : ∀ T, T.Sublist rest → T.length = n → ¬ Meets y z L (ch ++ T)) : fc y z L rest ch n = none := by
  cases hf : fc y z L rest ch n with
  | none => rfl
  | some r =>
    obtain ⟨T, h1, h2, h3⟩ := fc_isSome.1 (by rw [hf]; rfl)
    exact absurd h3 (h T h1 h2)

def SearchRes (M : Mem) (q : Nat) (r : Option (List Cell)) (v : LV) (N : Mem) : Prop := ∃ t, v = .tup [.ref t 0 (r.getD []).length, .B r.isSome] ∧ Live N t (.row (triL (r.getD [])) true 3) ∧ (t = q ∨ M.length ≤ t) ∧ Pre M N
section
variable {x y z : Int} {t o t' o' t2 o2 a : Nat} {w : Bool} {tp fr sd : List Int} {al : List Cell} (hok : ShdOK x y z tp fr sd) (hin : ∀ c ∈ al, c.inBox x y z) (hal : al.length ≤ 64)
include hok hin hal
theorem h_l3Search (k : Nat) (hk : k ≤ 1000) : ∀ (n : Nat) {ch : List Cell} {i0 q : Nat} {M : Mem}, ch.length + n = k → i0 ≤ al.length → Ints M t o tp → Ints M t' o' fr → Ints M t2 o2 sd → Live M a (.row (triL al) w 3) → Live M q (.row (triL ch) true 3) → (∀ c ∈ ch, c.inBox x y z) →
    CallsR PG F.spec_l3Search [.agg [.I x, .I y, .I z, .ref t o tp.length, .ref t' o' fr.length, .ref t2 o2 sd.length], .ref a 0 al.length, .I i0, .ref q 0 ch.length, .I k] M (SearchRes M q (fc y z (lits tp fr sd) (al.drop i0) ch n)) := by
  intro n
  induction n using Nat.strongRecOn with
  | ind n ih =>
  intro ch i0 q M hck hi0 h1 h2 h3 ha hq hch
  have ht := h1.lt
  have ht' := h2.lt
  have ht2 := h3.lt
  have hal' := ha.lt
  have hql := hq.lt
  refine callsR_run K.spec_l3Search rfl ?_
  simp (disch := omega) only [C.spec_l3Search, ↓SXd, SXu, slBounds, ↓sop, ↓aop, ↓reduceIte, LV.cells, AOp.dst, LV.I, LV.B, LV.U, LV.S, LV.nil, Nat.reduceEqDiff, Nat.reduceAdd, Nat.reduceMul, Nat.reduceSub, Nat.reduceLeDiff, Nat.reduceBEq, Nat.reduceDiv, Nat.reduceMod, Int.reduceToNat, Int.reduceLT, Int.reduceLE, Int.reduceAdd, Int.reduceSub, Int.reduceMul, Int.reduceEq, Int.reduceNeg, reduceCtorEq, resV, resAll, ARes.ev, LV.flat, ite_true, ite_false, exists_eq_left', exists_eq_left, keyOf, implies_true, fillC, capOf]
  refine callN_of (h_l3Dark h1.app h2.app h3.app hok hq.app.has hch (by omega)) ?_
  intro e N he hp hD
  have hDl := darkL_len (y := y) (z := z) (tp := tp) (fr := fr) (sd := sd) (cs := ch)
  have hz := dark_zero hok hch
  have hp1 := fun T hT hd => prune1 hok (T := T) hch hT hd
  have hp2 := fun T rest hT hs hd => prune2 hok (T := T) (rest := rest) hch hT hs hd
  have hpM : Pre M N := (Pre.app _ _).trans hp
  have b5 : Live N M.length (.row [.I x, .I y, .I z, .ref t o tp.length, .ref t' o' fr.length, .ref t2 o2 sd.length] true 0) := Live.new.pre hp
  have hD48 : (darkL y z tp fr sd ch).length ≤ 48 := by
    have b0 : ((sd.length : Nat) : Int) = y * z := hok.2.2.2.2
    have b1 : ((fr.length : Nat) : Int) = x * z := hok.2.2.1.2
    have b2 : ((tp.length : Nat) : Int) = x * y := hok.2.1.2
    obtain ⟨⟨_, _⟩, ⟨_, _⟩, ⟨_, _⟩⟩ := prod_le hok.1
    omega
  generalize darkL y z tp fr sd ch = D at hD hDl hz hp1 hp2 hD48 ⊢
  simp (disch := omega) only [↓SXd, SXu, slBounds, ↓sop, ↓aop, ↓reduceIte, LV.cells, AOp.dst, LV.I, LV.B, LV.U, LV.S, LV.nil, Nat.reduceEqDiff, Nat.reduceAdd, Nat.reduceMul, Nat.reduceSub, Nat.reduceLeDiff, Nat.reduceBEq, Nat.reduceDiv, Nat.reduceMod, Int.reduceToNat, Int.reduceLT, Int.reduceLE, Int.reduceAdd, Int.reduceSub, Int.reduceMul, Int.reduceEq, Int.reduceNeg, reduceCtorEq, resV, resAll, ARes.ev, LV.flat, ite_true, ite_false, exists_eq_left', exists_eq_left, keyOf, implies_true, fillC, capOf]
  refine ev_loop (fun m fr1 M' => ∃ i : Nat, i + m = D.length ∧ M' = N ∧ fr1 1 = .ref a 0 al.length ∧ fr1 2 = .I i0 ∧ fr1 3 = .ref q 0 ch.length ∧ fr1 4 = .I k ∧ fr1 5 = .ptr M.length 0 ∧ fr1 12 = .ref e 0 D.length ∧ fr1 13 = .I ((D.take i).countP id : Nat) ∧ fr1 14 = .I i) D.length
    ⟨0, by omega, rfl, rfl, rfl, rfl, rfl, rfl, rfl, rfl, rfl⟩ ?_
  rintro m fr1 M' ⟨i, hi, rfl, f1, f2, f3, f4, f5, f12, f13, f14⟩
  simp (disch := omega) only [f1, f2, f3, f4, f5, f12, f13, f14, ↓SXd, SXu, slBounds, ↓sop, ↓aop, ↓reduceIte, LV.cells, AOp.dst, LV.I, LV.B, LV.U, LV.S, LV.nil, Nat.reduceEqDiff, Nat.reduceAdd, Nat.reduceMul, Nat.reduceSub, Nat.reduceLeDiff, Nat.reduceBEq, Nat.reduceDiv, Nat.reduceMod, Int.reduceToNat, Int.reduceLT, Int.reduceLE, Int.reduceAdd, Int.reduceSub, Int.reduceMul, Int.reduceEq, Int.reduceNeg, reduceCtorEq, resV, resAll, ARes.ev, LV.flat, ite_true, ite_false, exists_eq_left', exists_eq_left, keyOf, implies_true, fillC, capOf]
  refine condC_dec (fun hlt => ?_) (fun hlt => ?_)
  · have hil : i < D.length := by omega
    have hg := hD.cell (o := i)
    rw [boolL_get hil] at hg
    have hts : (D.take (i + 1)).countP id = (D.take i).countP id + (if D.getD i false then 1 else 0) := by
      have e : D.getD i false = D[i] := by simp [hil]
      rw [List.take_succ, List.getElem?_eq_getElem hil, Option.toList_some, List.countP_append, List.countP_singleton, e]; rfl
    have hcl := List.countP_le_length (p := id) (l := D.take i)
    have htl := List.length_take_le i D
    cases hdi : D.getD i false with
    | true =>
      rw [hdi] at hg hts
      simp (disch := omega) only [f1, f2, f3, f4, f5, f12, f13, f14, hg, Nat.mul_one, Nat.zero_add, ↓SXd, SXu, slBounds, ↓sop, ↓aop, ↓reduceIte, LV.cells, AOp.dst, LV.I, LV.B, LV.U, LV.S, LV.nil, Nat.reduceEqDiff, Nat.reduceAdd, Nat.reduceMul, Nat.reduceSub, Nat.reduceLeDiff, Nat.reduceBEq, Nat.reduceDiv, Nat.reduceMod, Int.reduceToNat, Int.reduceLT, Int.reduceLE, Int.reduceAdd, Int.reduceSub, Int.reduceMul, Int.reduceEq, Int.reduceNeg, reduceCtorEq, resV, resAll, ARes.ev, LV.flat, ite_true, ite_false, exists_eq_left', exists_eq_left, keyOf, implies_true, fillC, capOf]
      exact ⟨m - 1, by omega, i + 1, by omega, rfl, f1, f2, f3, f4, f5, f12, by rw [hts]; exact eqI (natI _), eqI (natI _)⟩
    | false =>
      rw [hdi] at hg hts
      simp (disch := omega) only [f1, f2, f3, f4, f5, f12, f13, f14, hg, Nat.mul_one, Nat.zero_add, ↓SXd, SXu, slBounds, ↓sop, ↓aop, ↓reduceIte, LV.cells, AOp.dst, LV.I, LV.B, LV.U, LV.S, LV.nil, Nat.reduceEqDiff, Nat.reduceAdd, Nat.reduceMul, Nat.reduceSub, Nat.reduceLeDiff, Nat.reduceBEq, Nat.reduceDiv, Nat.reduceMod, Int.reduceToNat, Int.reduceLT, Int.reduceLE, Int.reduceAdd, Int.reduceSub, Int.reduceMul, Int.reduceEq, Int.reduceNeg, reduceCtorEq, resV, resAll, ARes.ev, LV.flat, ite_true, ite_false, exists_eq_left', exists_eq_left, keyOf, implies_true, fillC, capOf]
      exact ⟨m - 1, by omega, i + 1, by omega, rfl, f1, f2, f3, f4, f5, f12, by rw [hts]; exact f13, eqI (natI _)⟩
  · have : i = D.length := by omega
    subst this
    rw [List.take_length] at f13
    have hcl := List.countP_le_length (p := id) (l := D)
    have hi0' : i0 ≤ al.length := hi0
    have hnone : fc y z (lits tp fr sd) (al.drop i0) ch n = none → ∀ N' : Mem, Pre M' N' → SearchRes M q (fc y z (lits tp fr sd) (al.drop i0) ch n) (.tup [.ref N'.length 0 0, .B false]) (N' ++ [some (.row [] true 3)]) := fun h N' hN => by
      rw [h]
      exact ⟨N'.length, rfl, Live.new, .inr (Nat.le_trans hpM.1 hN.1), (hpM.trans hN).app'⟩
    have hdin : ∀ j, ∀ c ∈ al.drop j, c.inBox x y z := fun j c hc => hin c (List.mem_of_mem_drop hc)
    generalize D.countP id = lf at f13 hcl hz hp1
    cases n with
    | zero =>
      have hkc : (k : Int) = ch.length := by omega
      by_cases hm : Meets y z (lits tp fr sd) ch
      · have hlf : ((lf : Nat) : Int) = 0 := by rw [hz.2 hm]; rfl
        simp (disch := omega) only [f1, f2, f3, f4, f5, f12, f13, f14, hlf, hkc, ↓SXd, SXu, slBounds, ↓sop, ↓aop, ↓reduceIte, LV.cells, AOp.dst, LV.I, LV.B, LV.U, LV.S, LV.nil, Nat.reduceEqDiff, Nat.reduceAdd, Nat.reduceMul, Nat.reduceSub, Nat.reduceLeDiff, Nat.reduceBEq, Nat.reduceDiv, Nat.reduceMod, Int.reduceToNat, Int.reduceLT, Int.reduceLE, Int.reduceAdd, Int.reduceSub, Int.reduceMul, Int.reduceEq, Int.reduceNeg, reduceCtorEq, resV, resAll, ARes.ev, LV.flat, ite_true, ite_false, exists_eq_left', exists_eq_left, keyOf, implies_true, fillC, capOf]
        rw [show fc y z (lits tp fr sd) (al.drop i0) ch 0 = some ch by unfold fc; rw [if_pos hm]]
        exact ⟨q, rfl, hq.pre hpM, .inl rfl, hpM⟩
      · have hlf : ¬ ((lf : Nat) : Int) = 0 := fun h => hm (hz.1 (by omega))
        have hlg : ((lf : Nat) : Int) > 0 := by omega
        simp (disch := omega) only [f1, f2, f3, f4, f5, f12, f13, f14, hlf, hkc, Int.sub_self, Int.mul_zero, hlg, ↓SXd, SXu, slBounds, ↓sop, ↓aop, ↓reduceIte, LV.cells, AOp.dst, LV.I, LV.B, LV.U, LV.S, LV.nil, Nat.reduceEqDiff, Nat.reduceAdd, Nat.reduceMul, Nat.reduceSub, Nat.reduceLeDiff, Nat.reduceBEq, Nat.reduceDiv, Nat.reduceMod, Int.reduceToNat, Int.reduceLT, Int.reduceLE, Int.reduceAdd, Int.reduceSub, Int.reduceMul, Int.reduceEq, Int.reduceNeg, reduceCtorEq, resV, resAll, ARes.ev, LV.flat, ite_true, ite_false, exists_eq_left', exists_eq_left, keyOf, implies_true, fillC, capOf]
        exact hnone (by unfold fc; rw [if_neg hm]) _ (Pre.refl _)
    | succ n =>
      have hkc : ¬ ((ch.length : Nat) : Int) = k := by omega
      have hks : (k : Int) - ((ch.length : Nat) : Int) = (n : Int) + 1 := by omega
      have hal64 : al.length ≤ 64 := hal
      have hTin : ∀ T : List Cell, T.Sublist (al.drop i0) → ∀ c ∈ T, c.inBox x y z := fun T hT c hc => hdin i0 c (hT.mem hc)
      by_cases hbig : ((lf : Nat) : Int) > 3 * ((n : Int) + 1)
      · have hfn : fc y z (lits tp fr sd) (al.drop i0) ch (n + 1) = none := fc_none_of fun T hT hl => hp1 T (hTin T hT) (by rw [hl]; omega)
        by_cases hlf : ((lf : Nat) : Int) = 0
        · omega
        · simp (disch := omega) only [f1, f2, f3, f4, f5, f12, f13, f14, hlf, hkc, hks, hbig, ↓SXd, SXu, slBounds, ↓sop, ↓aop, ↓reduceIte, LV.cells, AOp.dst, LV.I, LV.B, LV.U, LV.S, LV.nil, Nat.reduceEqDiff, Nat.reduceAdd, Nat.reduceMul, Nat.reduceSub, Nat.reduceLeDiff, Nat.reduceBEq, Nat.reduceDiv, Nat.reduceMod, Int.reduceToNat, Int.reduceLT, Int.reduceLE, Int.reduceAdd, Int.reduceSub, Int.reduceMul, Int.reduceEq, Int.reduceNeg, reduceCtorEq, resV, resAll, ARes.ev, LV.flat, ite_true, ite_false, exists_eq_left', exists_eq_left, keyOf, implies_true, fillC, capOf]
          exact hnone hfn _ (Pre.refl _)
      · by_cases hfew : (al.length : Int) - (i0 : Int) < (n : Int) + 1
        · have hfn : fc y z (lits tp fr sd) (al.drop i0) ch (n + 1) = none := fc_none_of fun T hT hl _ => by
            have := hT.length_le
            rw [List.length_drop] at this; omega
          have hb0 : ¬ ((0 : Int) > 3 * ((n : Int) + 1)) := by omega
          by_cases hlf : ((lf : Nat) : Int) = 0
          · simp (disch := omega) only [f1, f2, f3, f4, f5, f12, f13, f14, hlf, hkc, hks, hb0, hfew, ↓SXd, SXu, slBounds, ↓sop, ↓aop, ↓reduceIte, LV.cells, AOp.dst, LV.I, LV.B, LV.U, LV.S, LV.nil, Nat.reduceEqDiff, Nat.reduceAdd, Nat.reduceMul, Nat.reduceSub, Nat.reduceLeDiff, Nat.reduceBEq, Nat.reduceDiv, Nat.reduceMod, Int.reduceToNat, Int.reduceLT, Int.reduceLE, Int.reduceAdd, Int.reduceSub, Int.reduceMul, Int.reduceEq, Int.reduceNeg, reduceCtorEq, resV, resAll, ARes.ev, LV.flat, ite_true, ite_false, exists_eq_left', exists_eq_left, keyOf, implies_true, fillC, capOf]
            exact hnone hfn _ (Pre.refl _)
          · simp (disch := omega) only [f1, f2, f3, f4, f5, f12, f13, f14, hlf, hkc, hks, hbig, hfew, ↓SXd, SXu, slBounds, ↓sop, ↓aop, ↓reduceIte, LV.cells, AOp.dst, LV.I, LV.B, LV.U, LV.S, LV.nil, Nat.reduceEqDiff, Nat.reduceAdd, Nat.reduceMul, Nat.reduceSub, Nat.reduceLeDiff, Nat.reduceBEq, Nat.reduceDiv, Nat.reduceMod, Int.reduceToNat, Int.reduceLT, Int.reduceLE, Int.reduceAdd, Int.reduceSub, Int.reduceMul, Int.reduceEq, Int.reduceNeg, reduceCtorEq, resV, resAll, ARes.ev, LV.flat, ite_true, ite_false, exists_eq_left', exists_eq_left, keyOf, implies_true, fillC, capOf]
            exact hnone hfn _ (Pre.refl _)
        · have hb0 : ¬ ((0 : Int) > 3 * ((n : Int) + 1)) := by omega
          have hdr := Tri.drop (ha.has.pre hpM) hi0
          have hdl : (al.drop i0).length = al.length - i0 := List.length_drop ..
          have hcan := h_l3Can (D := D) (a := .ref t o tp.length) (b := .ref t' o' fr.length) (c' := .ref t2 o2 sd.length) hok ⟨rfl, rfl⟩ ⟨rfl, rfl⟩ ⟨rfl, rfl⟩ hdr (hdin i0) (by omega) hD hDl
          rw [hdl, Nat.zero_add] at hcan
          have hesz := (ha.pre hpM).esz
          refine Classical.byCases (p := ((lf : Nat) : Int) = 0) (fun hlf => ?_) (fun hlf => ?_)
          all_goals
            simp (disch := omega) only [f1, f2, f3, f4, f5, f12, f13, f14, hlf, hkc, hks, hbig, hfew, hb0, b5.cells, hesz, Nat.zero_add, ↓SXd, SXu, slBounds, ↓sop, ↓aop, ↓reduceIte, LV.cells, AOp.dst, LV.I, LV.B, LV.U, LV.S, LV.nil, Nat.reduceEqDiff, Nat.reduceAdd, Nat.reduceMul, Nat.reduceSub, Nat.reduceLeDiff, Nat.reduceBEq, Nat.reduceDiv, Nat.reduceMod, Int.reduceToNat, Int.reduceLT, Int.reduceLE, Int.reduceAdd, Int.reduceSub, Int.reduceMul, Int.reduceEq, Int.reduceNeg, reduceCtorEq, resV, resAll, ARes.ev, LV.flat, ite_true, ite_false, exists_eq_left', exists_eq_left, keyOf, implies_true, fillC, capOf]
            refine callK_of hcan ?_
            by_cases hC : CanMeet y z tp fr D (al.drop i0)
            · simp (disch := omega) only [f1, f2, f3, f4, f5, f12, f13, f14, hC, ↓SXd, SXu, slBounds, ↓sop, ↓aop, ↓reduceIte, LV.cells, AOp.dst, LV.I, LV.B, LV.U, LV.S, LV.nil, Nat.reduceEqDiff, Nat.reduceAdd, Nat.reduceMul, Nat.reduceSub, Nat.reduceLeDiff, Nat.reduceBEq, Nat.reduceDiv, Nat.reduceMod, Int.reduceToNat, Int.reduceLT, Int.reduceLE, Int.reduceAdd, Int.reduceSub, Int.reduceMul, Int.reduceEq, Int.reduceNeg, reduceCtorEq, resV, resAll, ARes.ev, LV.flat, ite_true, ite_false, exists_eq_left', exists_eq_left, keyOf, implies_true, fillC, capOf]
              refine ev_loop (fun m fr2 M2 => ∃ i : Nat, i + m = al.length ∧ i0 ≤ i ∧ Pre M' M2 ∧ fr2 1 = .ref a 0 al.length ∧ fr2 3 = .ref q 0 ch.length ∧ fr2 4 = .I k ∧ fr2 5 = .ptr M.length 0 ∧ fr2 12 = .ref e 0 D.length ∧ fr2 15 = .I i ∧ fc y z (lits tp fr sd) (al.drop i0) ch (n + 1) = fc y z (lits tp fr sd) (al.drop i) ch (n + 1)) (al.length - i0)
                ⟨i0, by omega, by omega, Pre.refl _, f1, f3, f4, f5, f12, rfl, rfl⟩ ?_
              rintro m2 fr2 M2 ⟨i, hi, hii, hp3, g1, g3, g4, g5, g12, g15, hfi⟩
              simp (disch := omega) only [g1, g3, g4, g5, g12, g15, ↓SXd, SXu, slBounds, ↓sop, ↓aop, ↓reduceIte, LV.cells, AOp.dst, LV.I, LV.B, LV.U, LV.S, LV.nil, Nat.reduceEqDiff, Nat.reduceAdd, Nat.reduceMul, Nat.reduceSub, Nat.reduceLeDiff, Nat.reduceBEq, Nat.reduceDiv, Nat.reduceMod, Int.reduceToNat, Int.reduceLT, Int.reduceLE, Int.reduceAdd, Int.reduceSub, Int.reduceMul, Int.reduceEq, Int.reduceNeg, reduceCtorEq, resV, resAll, ARes.ev, LV.flat, ite_true, ite_false, exists_eq_left', exists_eq_left, keyOf, implies_true, fillC, capOf]
              refine condC_dec (fun hlt2 => ?_) (fun hlt2 => ?_)
              · have hil : i < al.length := by omega
                have hpM2 := hpM.trans hp3
                have b52 := b5.pre hp3
                have ha2 := ha.pre hpM2
                have hq2 := hq.pre hpM2
                have hg := ha2.tri0 hil
                have hcm := getD_mem' (d := default) hil
                have hcin := hin _ hcm
                have hdc : al.drop i = al.getD i default :: al.drop (i + 1) := by
                  rw [List.drop_eq_getElem_cons hil]; congr 1; simp [hil]
                have hfc : fc y z (lits tp fr sd) (al.drop i) ch (n + 1) = match fc y z (lits tp fr sd) (al.drop (i + 1)) (ch ++ [al.getD i default]) n with | some r => some r | none => fc y z (lits tp fr sd) (al.drop (i + 1)) ch (n + 1) := by rw [hdc]; rfl
                generalize al.getD i default = c at hg hcm hcin hfc
                simp (disch := omega) only [g1, g3, g4, g5, g12, g15, hg, Cell.row, b52.cells, splice, ↓SXd, SXu, slBounds, ↓sop, ↓aop, ↓reduceIte, LV.cells, AOp.dst, LV.I, LV.B, LV.U, LV.S, LV.nil, Nat.reduceEqDiff, Nat.reduceAdd, Nat.reduceMul, Nat.reduceSub, Nat.reduceLeDiff, Nat.reduceBEq, Nat.reduceDiv, Nat.reduceMod, Int.reduceToNat, Int.reduceLT, Int.reduceLE, Int.reduceAdd, Int.reduceSub, Int.reduceMul, Int.reduceEq, Int.reduceNeg, reduceCtorEq, resV, resAll, ARes.ev, LV.flat, ite_true, ite_false, exists_eq_left', exists_eq_left, keyOf, implies_true, fillC, capOf]
                refine appendK_list (acc := []) (n := 0) Live.new rfl (hq2.has.app) (by rw [triL_len]) (by omega) (by omega) fun u N k1 k2 k3 k4 => ?_
                have hl2 : ∀ {r1 r2 : Option Blk}, (M2 ++ [r1, r2]).length = M2.length + 2 := by intros; simp
                rw [hl2] at k1 k3 k4
                rw [List.nil_append] at k2
                have hk4 : ∀ v, v < M2.length → N[v]? = M2[v]? := fun v hv => by rw [k4 v (by omega) (by omega), List.getElem?_append_left hv]
                simp (disch := omega) only [g1, g3, g4, g5, g12, g15, ↓SXd, SXu, slBounds, ↓sop, ↓aop, ↓reduceIte, LV.cells, AOp.dst, LV.I, LV.B, LV.U, LV.S, LV.nil, Nat.reduceEqDiff, Nat.reduceAdd, Nat.reduceMul, Nat.reduceSub, Nat.reduceLeDiff, Nat.reduceBEq, Nat.reduceDiv, Nat.reduceMod, Int.reduceToNat, Int.reduceLT, Int.reduceLE, Int.reduceAdd, Int.reduceSub, Int.reduceMul, Int.reduceEq, Int.reduceNeg, reduceCtorEq, resV, resAll, ARes.ev, LV.flat, ite_true, ite_false, exists_eq_left', exists_eq_left, keyOf, implies_true, fillC, capOf]
                have hW1 : Live (N.set (M2.length + 1) (some (.row [.I c.a, .I c.b, .I c.c] true 3))) (M2.length + 1) (.row (triL [c]) true 3) := by
                  unfold Live; rw [List.getElem?_set_self (by omega)]; rfl
                have hW2 : Live (N.set (M2.length + 1) (some (.row [.I c.a, .I c.b, .I c.c] true 3))) u (.row (triL ch) true 3) := k2.set_ne (by omega)
                have hWp : Pre M2 (N.set (M2.length + 1) (some (.row [.I c.a, .I c.b, .I c.c] true 3))) := ⟨by rw [List.length_set]; omega, fun v hv => by rw [List.getElem?_set_ne (by omega)]; exact hk4 v hv⟩
                have hWl : (N.set (M2.length + 1) (some (Blk.row [.I c.a, .I c.b, .I c.c] true 3))).length = N.length := List.length_set ..
                have hbl : M.length < M2.length := b52.lt
                have hal2 : a < M2.length := ha2.lt
                refine ⟨⟨fun b hb => ?_, fun b hb => ?_⟩, ?_⟩
                · rw [hWp.2 _ hbl]; rw [List.getElem?_append_left hbl] at hb; exact hb
                · rw [hWp.2 _ hal2]; rw [List.getElem?_append_left hal2] at hb; exact hb
                change appendK 3 24 (LV.ref u 0 ch.length) (LV.ref (M2.length + 1) 0 1) (N.set (M2.length + 1) (some (.row [.I c.a, .I c.b, .I c.c] true 3))) _
                generalize N.set (M2.length + 1) (some (Blk.row [.I c.a, .I c.b, .I c.c] true 3)) = W at hW1 hW2 hWp hWl ⊢
                refine appendK_list (n2 := 1) hW2 (by rw [triL_len]) hW1.has rfl (by omega) (by omega) fun u2 N2 j1 j2 j3 j4 => ?_
                have hp4 : Pre M2 N2 := pre_stepL hWp (t := u) (by omega) j1 j4
                have hpMN : Pre M N2 := hpM2.trans hp4
                have hu2 : M2.length ≤ u2 := by have := hWp.1; omega
                rw [← triL_append] at j2
                simp (disch := omega) only [g1, g3, g4, g5, g12, g15, ↓SXd, SXu, slBounds, ↓sop, ↓aop, ↓reduceIte, LV.cells, AOp.dst, LV.I, LV.B, LV.U, LV.S, LV.nil, Nat.reduceEqDiff, Nat.reduceAdd, Nat.reduceMul, Nat.reduceSub, Nat.reduceLeDiff, Nat.reduceBEq, Nat.reduceDiv, Nat.reduceMod, Int.reduceToNat, Int.reduceLT, Int.reduceLE, Int.reduceAdd, Int.reduceSub, Int.reduceMul, Int.reduceEq, Int.reduceNeg, reduceCtorEq, resV, resAll, ARes.ev, LV.flat, ite_true, ite_false, exists_eq_left', exists_eq_left, keyOf, implies_true, fillC, capOf]
                refine ⟨fun b hb => by rw [j4 _ (by omega) (by omega)]; exact hb, ?_⟩
                rw [show ch.length + 1 = (ch ++ [c]).length by simp, natI]
                refine callR_of (ih n (by omega) (ch := ch ++ [c]) (i0 := i + 1) (q := u2) (M := N2) (by rw [List.length_append, List.length_singleton]; omega) (by omega) (h1.pre hpMN) (h2.pre hpMN) (h3.pre hpMN) (ha2.pre hp4) j2 (fun d hd => by
                  rcases List.mem_append.1 hd with hd | hd
                  · exact hch d hd
                  · rw [List.mem_singleton.1 hd]; exact hcin)) ?_
                rintro _ N3 ⟨r1, rfl, hr1, hr2, hp5⟩
                cases hr : fc y z (lits tp fr sd) (al.drop (i + 1)) (ch ++ [c]) n with
                | some r =>
                  rw [hr] at hfc hr1
                  simp (disch := omega) only [g1, g3, g4, g5, g12, g15, Option.isSome_some, ↓SXd, SXu, slBounds, ↓sop, ↓aop, ↓reduceIte, LV.cells, AOp.dst, LV.I, LV.B, LV.U, LV.S, LV.nil, Nat.reduceEqDiff, Nat.reduceAdd, Nat.reduceMul, Nat.reduceSub, Nat.reduceLeDiff, Nat.reduceBEq, Nat.reduceDiv, Nat.reduceMod, Int.reduceToNat, Int.reduceLT, Int.reduceLE, Int.reduceAdd, Int.reduceSub, Int.reduceMul, Int.reduceEq, Int.reduceNeg, reduceCtorEq, resV, resAll, ARes.ev, LV.flat, ite_true, ite_false, exists_eq_left', exists_eq_left, keyOf, implies_true, fillC, capOf]
                  rw [hfi, hfc]
                  exact ⟨r1, rfl, hr1, .inr (by have := hpM2.1; have := hp4.1; omega), hpMN.trans hp5⟩
                | none =>
                  rw [hr] at hfc
                  have hpMN3 := hpMN.trans hp5
                  have b53 := (b52.pre hp4).pre hp5
                  have hdr2 := Tri.drop (k := i + 1) (ha.has.pre hpMN3) (by omega)
                  have hdl2 : (al.drop (i + 1)).length = al.length - (i + 1) := List.length_drop ..
                  have hcan2 := h_l3Can (D := D) (a := .ref t o tp.length) (b := .ref t' o' fr.length) (c' := .ref t2 o2 sd.length) hok ⟨rfl, rfl⟩ ⟨rfl, rfl⟩ ⟨rfl, rfl⟩ hdr2 (hdin (i + 1)) (by omega) (((hD.pre hp3).pre hp4).pre hp5) hDl
                  rw [hdl2, Nat.zero_add] at hcan2
                  have hesz2 := ((ha2.pre hp4).pre hp5).esz
                  have hp3N : Pre M' N3 := (hp3.trans hp4).trans hp5
                  have hto : ((i : Int) + 1).toNat = i + 1 := by omega
                  simp (disch := omega) only [g1, g3, g4, g5, g12, g15, b53.cells, hesz2, hto, Nat.zero_add, Option.isSome_none, ↓SXd, SXu, slBounds, ↓sop, ↓aop, ↓reduceIte, LV.cells, AOp.dst, LV.I, LV.B, LV.U, LV.S, LV.nil, Nat.reduceEqDiff, Nat.reduceAdd, Nat.reduceMul, Nat.reduceSub, Nat.reduceLeDiff, Nat.reduceBEq, Nat.reduceDiv, Nat.reduceMod, Int.reduceToNat, Int.reduceLT, Int.reduceLE, Int.reduceAdd, Int.reduceSub, Int.reduceMul, Int.reduceEq, Int.reduceNeg, reduceCtorEq, resV, resAll, ARes.ev, LV.flat, ite_true, ite_false, exists_eq_left', exists_eq_left, keyOf, implies_true, fillC, capOf]
                  refine callK_of hcan2 ?_
                  by_cases hC2 : CanMeet y z tp fr D (al.drop (i + 1))
                  · simp (disch := omega) only [g1, g3, g4, g5, g12, g15, hC2, ↓SXd, SXu, slBounds, ↓sop, ↓aop, ↓reduceIte, LV.cells, AOp.dst, LV.I, LV.B, LV.U, LV.S, LV.nil, Nat.reduceEqDiff, Nat.reduceAdd, Nat.reduceMul, Nat.reduceSub, Nat.reduceLeDiff, Nat.reduceBEq, Nat.reduceDiv, Nat.reduceMod, Int.reduceToNat, Int.reduceLT, Int.reduceLE, Int.reduceAdd, Int.reduceSub, Int.reduceMul, Int.reduceEq, Int.reduceNeg, reduceCtorEq, resV, resAll, ARes.ev, LV.flat, ite_true, ite_false, exists_eq_left', exists_eq_left, keyOf, implies_true, fillC, capOf]
                    exact ⟨m2 - 1, by omega, i + 1, by omega, by omega, hp3N, g1, g3, g4, g5, g12, eqI (natI _), by rw [hfi, hfc]⟩
                  · simp (disch := omega) only [g1, g3, g4, g5, g12, g15, hC2, ↓SXd, SXu, slBounds, ↓sop, ↓aop, ↓reduceIte, LV.cells, AOp.dst, LV.I, LV.B, LV.U, LV.S, LV.nil, Nat.reduceEqDiff, Nat.reduceAdd, Nat.reduceMul, Nat.reduceSub, Nat.reduceLeDiff, Nat.reduceBEq, Nat.reduceDiv, Nat.reduceMod, Int.reduceToNat, Int.reduceLT, Int.reduceLE, Int.reduceAdd, Int.reduceSub, Int.reduceMul, Int.reduceEq, Int.reduceNeg, reduceCtorEq, resV, resAll, ARes.ev, LV.flat, ite_true, ite_false, exists_eq_left', exists_eq_left, keyOf, implies_true, fillC, capOf]
                    exact hnone (by rw [hfi, hfc]; exact fc_none_of fun T hT _ => hp2 T _ (hdin (i + 1)) hT hC2) _ hp3N
              · have : i = al.length := by omega
                subst this
                simp (disch := omega) only [g1, g3, g4, g5, g12, g15, ↓SXd, SXu, slBounds, ↓sop, ↓aop, ↓reduceIte, LV.cells, AOp.dst, LV.I, LV.B, LV.U, LV.S, LV.nil, Nat.reduceEqDiff, Nat.reduceAdd, Nat.reduceMul, Nat.reduceSub, Nat.reduceLeDiff, Nat.reduceBEq, Nat.reduceDiv, Nat.reduceMod, Int.reduceToNat, Int.reduceLT, Int.reduceLE, Int.reduceAdd, Int.reduceSub, Int.reduceMul, Int.reduceEq, Int.reduceNeg, reduceCtorEq, resV, resAll, ARes.ev, LV.flat, ite_true, ite_false, exists_eq_left', exists_eq_left, keyOf, implies_true, fillC, capOf]
                exact hnone (by rw [hfi, List.drop_length]; rfl) _ hp3
            · simp (disch := omega) only [f1, f2, f3, f4, f5, f12, f13, f14, hC, ↓SXd, SXu, slBounds, ↓sop, ↓aop, ↓reduceIte, LV.cells, AOp.dst, LV.I, LV.B, LV.U, LV.S, LV.nil, Nat.reduceEqDiff, Nat.reduceAdd, Nat.reduceMul, Nat.reduceSub, Nat.reduceLeDiff, Nat.reduceBEq, Nat.reduceDiv, Nat.reduceMod, Int.reduceToNat, Int.reduceLT, Int.reduceLE, Int.reduceAdd, Int.reduceSub, Int.reduceMul, Int.reduceEq, Int.reduceNeg, reduceCtorEq, resV, resAll, ARes.ev, LV.flat, ite_true, ite_false, exists_eq_left', exists_eq_left, keyOf, implies_true, fillC, capOf]
              exact hnone (fc_none_of fun T hT _ => hp2 T _ (hdin i0) hT hC) _ (Pre.refl _)
end
end Go.Ab

/- The abstract code of some functions (written by a program of mine from the translation, by way of prepF). -/
namespace Go.Ab.C
open Go.Ab
end Go.Ab.C

/- That the program has this code. -/
namespace Go.Ab.K
open Go Go.Ab
end Go.Ab.K

/- Contracts: CountHeaps, the reference's side. -/
namespace Go.Ab
open Go
set_option linter.unusedSimpArgs false
set_option linter.unusedVariables false
set_option maxRecDepth 20000

/-- Of a list the members whose bits are set, among the first k. -/
def selTo (S : List Cell) (code k : Nat) : List Cell := ((List.range k).filter fun i => code.testBit i).map fun i => S.getD i default
/-- The codes that make a heap. -/
def goodCode (y z : Int) (L : List (Nat × Nat)) (mu S : List Cell) (code : Nat) : Bool := decide (Meets y z L (mu ++ selTo S code S.length))
def countOf (x y z : Int) (tp fr sd : List Int) : Int × Bool :=
  if ShdOK x y z tp fr sd then (if Fits x y z tp fr sd then (if (parted x y z tp fr sd true).length ≤ 14 then ((((List.range (2 ^ (parted x y z tp fr sd true).length)).countP (goodCode y z (lits tp fr sd) (parted x y z tp fr sd false) (parted x y z tp fr sd true)) : Nat) : Int), true) else (0, false)) else (0, true)) else (0, false)
section
variable {x y z : Int} {t o t' o' t2 o2 : Nat} {tp fr sd : List Int} {M : Mem} (h1 : Ints M t o tp) (h2 : Ints M t' o' fr) (h3 : Ints M t2 o2 sd) (l1 : tp.length ≤ 1000000000) (l2 : fr.length ≤ 1000000000) (l3 : sd.length ≤ 1000000000)
include h1 h2 h3 l1 l2 l3
end
end Go.Ab

/- Plain: parts of a set in falling order. -/
namespace Go.Ab
open Go
set_option linter.unusedSimpArgs false
set_option linter.unusedVariables false

section
variable {x y z : Int} (hS : Sides x y z)
include hS
/-- The part with a code, as a set. -/
def bsel (x y z : Int) (S : List Cell) (code : Nat) : BitVec 64 := bs x y z fun c => decide (c ∈ selTo S code S.length)
end
end Go.Ab

/- Plain: the fewest cubes, and the first heap of them, step by step. -/
namespace Go.Ab
open Go
set_option linter.unusedSimpArgs false
set_option linter.unusedVariables false

theorem nodup_sub : ∀ {l T : List Cell}, l.Nodup → (∀ c ∈ l, c ∈ T) → l.length ≤ T.length
  | [], _, _, _ => Nat.zero_le _
  | a :: l, T, hn, h => by
    rw [List.nodup_cons] at hn
    have ha := h a (by simp)
    have := nodup_sub (l := l) (T := T.erase a) hn.2 fun c hc => (List.mem_erase_of_ne (fun e => hn.1 (by rw [← e]; exact hc))).2 (h c (by simp [hc]))
    rw [List.length_erase_of_mem ha] at this
    have : 0 < T.length := List.length_pos_of_mem ha
    simp only [List.length_cons]; omega
theorem pick_nodup {x y z : Int} (hS : Sides x y z) (p : Cell → Bool) : (pick x y z p).Nodup := (pick_ok hS p).nodup
/-- The first list of the fewest cells that meet all lines. -/
def fewR (y z : Int) (L : List (Nat × Nat)) (al : List Cell) : Option (List Cell) := (List.range (al.length + 1)).findSome? fun k => fc y z L al [] k
theorem exists_min {P : Nat → Prop} : ∀ n, P n → ∃ k, k ≤ n ∧ P k ∧ ∀ j, j < k → ¬ P j := by
  intro n
  induction n using Nat.strongRecOn with
  | ind n ih =>
    intro h
    by_cases hx : ∃ j, j < n ∧ P j
    · obtain ⟨j, h1, h2⟩ := hx
      obtain ⟨k, h3, h4, h5⟩ := ih j h1 h2
      exact ⟨k, by omega, h4, h5⟩
    · exact ⟨n, Nat.le_refl _, h, fun j hj hp => hx ⟨j, hj, hp⟩⟩
theorem fewR_of {y z : Int} {L : List (Nat × Nat)} {al r : List Cell} {k : Nat} (hk : k ≤ al.length) (h1 : fc y z L al [] k = some r) (h2 : ∀ j, j < k → fc y z L al [] j = none) : fewR y z L al = some r := by
  unfold fewR
  rw [List.findSome?_eq_some_iff]
  refine ⟨List.range k, k, (List.range (al.length - k)).map (k + 1 + ·), ?_, h1, fun j hj => h2 j (List.mem_range.1 hj)⟩
  rw [show al.length + 1 = k + 1 + (al.length - k) by omega, List.range_add, List.range_succ, List.append_assoc]; rfl

section
variable {x y z : Int} {tp fr sd : List Int}
theorem fits_meets (h : Fits x y z tp fr sd) : Meets y z (lits tp fr sd) (pick x y z (allowedB y z tp fr sd)) := by
  obtain ⟨hok, hs⟩ := h
  rintro ⟨d, i⟩ hq
  obtain ⟨hd, hi, hl⟩ := mem_lits.1 hq
  have hsl : shdOf x y z d (pick x y z (allowedB y z tp fr sd)) = shdList d tp fr sd := by
    rcases (show d = 0 ∨ d = 1 ∨ d = 2 by omega) with rfl | rfl | rfl
    · exact hs.2.2
    · exact hs.2.1
    · exact hs.1
  have hil : i < (linesOf x y z d).toNat := by
    have := (hok.list hd).2
    omega
  rw [← hsl] at hl
  unfold shdOf onesL at hl
  rw [List.getD_eq_getElem?_getD, List.getElem?_map] at hl
  have hvl := viewL_len (x := x) (y := y) (z := z) (d := d) (cs := pick x y z (allowedB y z tp fr sd))
  rw [List.getElem?_eq_getElem (by omega)] at hl
  have hg := viewL_get (x := x) (y := y) (z := z) (d := d) (cs := pick x y z (allowedB y z tp fr sd)) hil
  rw [List.getD_eq_getElem?_getD, List.getElem?_eq_getElem (by omega)] at hg
  simp only [Option.map_some, Option.getD_some] at hl hg
  rw [hg] at hl
  have hpos : 0 < (pick x y z (allowedB y z tp fr sd)).countP (onLine y z d i) := by omega
  obtain ⟨c, hc, ho⟩ := List.countP_pos_iff.1 hpos
  exact ⟨c, hc, ho⟩
/-- How many are needed, and the first list of them. -/
theorem few_ex (h : Fits x y z tp fr sd) : ∃ k r, k ≤ (pick x y z (allowedB y z tp fr sd)).length ∧ fc y z (lits tp fr sd) (pick x y z (allowedB y z tp fr sd)) [] k = some r ∧ (∀ j, j < k → fc y z (lits tp fr sd) (pick x y z (allowedB y z tp fr sd)) [] j = none) ∧
    fewR y z (lits tp fr sd) (pick x y z (allowedB y z tp fr sd)) = some r ∧ r.length = k := by
  have hm := fits_meets h
  obtain ⟨k, h1, h2, h3⟩ := exists_min (P := fun k => (fc y z (lits tp fr sd) (pick x y z (allowedB y z tp fr sd)) [] k).isSome = true) _ (fc_isSome.2 ⟨_, List.Sublist.refl _, rfl, hm⟩)
  obtain ⟨r, hr⟩ := Option.isSome_iff_exists.1 h2
  have hn : ∀ j, j < k → fc y z (lits tp fr sd) (pick x y z (allowedB y z tp fr sd)) [] j = none := fun j hj => by
    cases hf : fc y z (lits tp fr sd) (pick x y z (allowedB y z tp fr sd)) [] j with
    | none => rfl
    | some r => exact absurd (by show (fc _ _ _ _ _ _).isSome = true; rw [hf]; rfl) (h3 j hj)
  obtain ⟨T, h4, h5, h6, h7⟩ := fc_some hr
  exact ⟨k, r, h1, hr, hn, fewR_of h1 hr hn, by rw [h6]; simpa using h5⟩
theorem must_in (hok : ShdOK x y z tp fr sd) {T : List Cell} (hT : ∀ c ∈ T, c ∈ pick x y z (allowedB y z tp fr sd)) (hm : Meets y z (lits tp fr sd) T) : ∀ c ∈ parted x y z tp fr sd false, c ∈ T := by
  intro c hc
  rw [parted_must hok, mem_pick hok.1] at hc
  obtain ⟨hcb, hmu⟩ := hc
  unfold mustTo at hmu
  obtain ⟨q, hq, h1, h2⟩ := of_decide_eq_true hmu
  obtain ⟨e, he, ho⟩ := hm q hq
  have hea := (mem_pick hok.1).1 (hT e he)
  have hei : inLine y z (allowedB y z tp fr sd) q e = true := by unfold inLine; rw [hea.2, ho]; rfl
  have m1 := (mem_pick hok.1).2 ⟨hcb, h2⟩
  have m2 := (mem_pick hok.1).2 ⟨hea.1, hei⟩
  have hce : c = e := by
    generalize pick x y z (inLine y z (allowedB y z tp fr sd) q) = l at h1 m1 m2
    match l, h1 with
    | [a], _ => rw [List.mem_singleton.1 m1, List.mem_singleton.1 m2]
  rw [hce]; exact he
/-- The search of the program, in terms of that of the reference. -/
theorem cov_few (h : Fits x y z tp fr sd) {k n : Nat} {r : List Cell} (h1 : fc y z (lits tp fr sd) (pick x y z (allowedB y z tp fr sd)) [] k = some r) (h2 : ∀ j, j < k → fc y z (lits tp fr sd) (pick x y z (allowedB y z tp fr sd)) [] j = none) :
    Cov y z (lits tp fr sd) (pick x y z (allowedB y z tp fr sd)) (mustTo x y z (allowedB y z tp fr sd) (lits tp fr sd)) (fun _ => false) n ↔ k ≤ (parted x y z tp fr sd false).length + n := by
  have hok := h.1
  have hS := hok.1
  have hU := parted_must hok
  have hn := pick_nodup hS (allowedB y z tp fr sd)
  have hUn : (parted x y z tp fr sd false).Nodup := by rw [hU]; exact pick_nodup hS _
  have hUm := fun c => mem_pick hS (p := mustTo x y z (allowedB y z tp fr sd) (lits tp fr sd)) (c := c)
  rw [← hU] at hUm
  have hmi := fun T => must_in hok (T := T)
  generalize mustTo x y z (allowedB y z tp fr sd) (lits tp fr sd) = mu at hUm ⊢
  generalize parted x y z tp fr sd false = U at hUn hUm hmi ⊢
  have hAb : ∀ c ∈ pick x y z (allowedB y z tp fr sd), c.inBox x y z := fun c hc => ((mem_pick hS).1 hc).1
  generalize pick x y z (allowedB y z tp fr sd) = A at h1 h2 hn hAb hmi ⊢
  constructor
  · rintro ⟨T, t1, _, t3⟩
    refine Classical.byContradiction fun hlt => ?_
    have hs : (A.filter fun c => mu c || decide (c ∈ T)).Sublist A := List.filter_sublist
    have hm : Meets y z (lits tp fr sd) ([] ++ A.filter fun c => mu c || decide (c ∈ T)) := fun q hq => by
      obtain ⟨c, hc, ho, hpt⟩ := t3 q hq
      refine ⟨c, List.mem_filter.2 ⟨hc, ?_⟩, ho⟩
      rcases hpt with hp | hp
      · rw [hp]; rfl
      · rw [decide_eq_true hp]; simp
    have hl : (A.filter fun c => mu c || decide (c ∈ T)).length ≤ (U ++ T).length := nodup_sub (hn.filter _) fun c hc => by
      obtain ⟨hc1, hc2⟩ := List.mem_filter.1 hc
      rw [Bool.or_eq_true, decide_eq_true_iff] at hc2
      rcases hc2 with hc2 | hc2
      · exact List.mem_append.2 (.inl ((hUm c).2 ⟨hAb c hc1, hc2⟩))
      · exact List.mem_append.2 (.inr hc2)
    rw [List.length_append] at hl
    exact fc_none (h2 _ (by omega)) _ hs rfl hm
  · intro hle
    obtain ⟨T, t1, t2, t3, t4⟩ := fc_some h1
    rw [List.nil_append] at t3
    subst t3
    have hTA : ∀ c ∈ r, c ∈ A := fun c hc => t1.mem hc
    have hUT := hmi r hTA t4
    refine ⟨r.filter fun c => !mu c, ?_, fun _ _ => rfl, fun q hq => ?_⟩
    · have hrn : r.Nodup := hn.sublist t1
      have e1 := List.length_eq_countP_add_countP mu (l := r)
      have e2 : U.length ≤ (r.filter mu).length := nodup_sub hUn fun c hc => List.mem_filter.2 ⟨hUT c hc, ((hUm c).1 hc).2⟩
      rw [← List.countP_eq_length_filter] at e2
      have e3 : (r.filter fun c => !mu c).length = r.countP fun c => decide ¬mu c = true := by
        rw [← List.countP_eq_length_filter]
        apply List.countP_congr
        intro c _; cases mu c <;> simp
      omega
    · obtain ⟨c, hc, ho⟩ := t4 q hq
      refine ⟨c, hTA c hc, ho, ?_⟩
      cases hmc : mu c with
      | true => exact .inl rfl
      | false => exact .inr (List.mem_filter.2 ⟨hc, by rw [hmc]; rfl⟩)
theorem must_le (h : Fits x y z tp fr sd) {k : Nat} {r : List Cell} (h1 : fc y z (lits tp fr sd) (pick x y z (allowedB y z tp fr sd)) [] k = some r) : (parted x y z tp fr sd false).length ≤ k := by
  obtain ⟨T, t1, t2, t3, t4⟩ := fc_some h1
  rw [List.nil_append] at t3
  subst t3
  have hUn : (parted x y z tp fr sd false).Nodup := by rw [parted_must h.1]; exact pick_nodup h.1.1 _
  have := nodup_sub hUn (must_in h.1 (fun c hc => t1.mem hc) t4)
  omega
/-- One step of the greedy choice. -/
theorem greedy {L : List (Nat × Nat)} {A pre rest ch : List Cell} {c : Cell} {w : Cell → Bool} {m n : Nat} (hA : A = pre ++ c :: rest) (hn : A.Nodup) (h2 : ∀ j, j < n → fc y z L A [] j = none) (hch : ch.Sublist pre) (hpre : ∀ d ∈ pre, d ∈ ch ∨ w d = true) (hrest : ∀ d ∈ rest, w d = false) (hcw : w c = false) (hnm : n = ch.length + 1 + m) :
    Cov y z L A (fun d => decide (d ∈ ch) || decide (d = c)) w m ↔ (fc y z L rest (ch ++ [c]) m).isSome = true := by
  rw [fc_isSome]
  have hrn : rest.Nodup := by
    rw [hA] at hn
    exact (List.nodup_cons.1 (List.nodup_append.1 hn).2.1).2
  constructor
  · rintro ⟨T, t1, t2, t3⟩
    have hs : (rest.filter fun d => decide (d ∈ T)).Sublist rest := List.filter_sublist
    have hl : (rest.filter fun d => decide (d ∈ T)).length ≤ T.length := nodup_sub (hrn.filter _) fun d hd => of_decide_eq_true (List.mem_filter.1 hd).2
    have hm : Meets y z L ((ch ++ [c]) ++ rest.filter fun d => decide (d ∈ T)) := fun q hq => by
      obtain ⟨d, hd, ho, hpt⟩ := t3 q hq
      refine ⟨d, ?_, ho⟩
      rw [Bool.or_eq_true, decide_eq_true_iff, decide_eq_true_iff] at hpt
      rcases hpt with (hp | hp) | hp
      · simp [hp]
      · simp [hp]
      · have hwd := t2 d hp
        rw [hA] at hd
        rcases List.mem_append.1 hd with hd | hd
        · rcases hpre d hd with h | h
          · simp [h]
          · rw [h] at hwd; cases hwd
        · rcases List.mem_cons.1 hd with rfl | hd
          · simp
          · exact List.mem_append.2 (.inr (List.mem_filter.2 ⟨hd, decide_eq_true hp⟩))
    have hsub : ((ch ++ [c]) ++ rest.filter fun d => decide (d ∈ T)).Sublist A := by
      rw [hA, List.append_assoc]
      exact hch.append (hs.cons_cons c)
    refine ⟨_, hs, ?_, hm⟩
    refine Classical.byContradiction fun hne => ?_
    have hlen : ((ch ++ [c]) ++ rest.filter fun d => decide (d ∈ T)).length < n := by
      simp only [List.length_append, List.length_singleton]; omega
    exact fc_none (h2 _ hlen) _ hsub rfl (by rw [List.nil_append]; exact hm)
  · rintro ⟨T, t1, t2, t3⟩
    refine ⟨T, by omega, fun d hd => hrest d (t1.mem hd), fun q hq => ?_⟩
    obtain ⟨d, hd, ho⟩ := t3 q hq
    rcases List.mem_append.1 hd with hd | hd
    · rcases List.mem_append.1 hd with hd | hd
      · exact ⟨d, by rw [hA]; exact List.mem_append.2 (.inl (hch.mem hd)), ho, .inl (by show (decide (d ∈ ch) || decide (d = c)) = true; rw [decide_eq_true hd]; rfl)⟩
      · rw [List.mem_singleton] at hd
        subst hd
        exact ⟨d, by rw [hA]; simp, ho, .inl (by simp)⟩
    · exact ⟨d, by rw [hA]; simp [t1.mem hd], ho, .inr hd⟩
end
end Go.Ab
