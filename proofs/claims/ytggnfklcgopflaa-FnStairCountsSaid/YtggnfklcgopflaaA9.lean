/- Parts of the proof of FnStairCountsSaid: Kc Kd C_On K_On Om On Jk C_Bd K_Bd C_Jm K_Jm C_Tr K_Tr C_Tp K_Tp C_Tn K_Tn Tn Tp Tr C_Bf K_Bf Bf C_Jl K_Jl C_Xs K_Xs Xs C_Jg K_Jg Jg Jl C_Qa K_Qa Qa Jm C_Jj K_Jj Jj Bd C_Ba K_Ba C_Jw K_Jw C_Jv K_Jv C_Ju K_Ju Tx C_Vd K_Vd Vd Ve Jo Js Ju C_Ty K_Ty Ty C_Pf K_Pf Pf Jv Jt Jw C_Jp K_Jp Jp C_El K_El C_Ej K_Ej C_Ed2 K_Ed2 C_Ec2 K_Ec2 C_Eg K_Eg C_Ef K_Ef C_Ee K_Ee C_Ed K_Ed C_Ec K_Ec C_Eb3 K_Eb3 C_Eb2 K_Eb2 Eb2 Eb3 Mb Mc Md Ec Ed Ee Ef C_Dh K_Dh C_Dg K_Dg C_Df K_Df Df Dg Dh Eg Me Mf Ec2 Ed2 Mh Ej Mg Mi C_Ek K_Ek Ek El Ba. -/
import Derived.Test.YtggnfklcgopflaaA4
import Derived.Test.YtggnfklcgopflaaA8
import Derived.Test.YtggnfklcgopflaaA7
import Derived.Test.YtggnfklcgopflaaA3
import Derived.Test.YtggnfklcgopflaaProg
import Derived.KernelRfl
import Derived.Test.YtggnfklcgopflaaA6
import Derived.Test.YtggnfklcgopflaaA5
import Derived.Laws.Bits64
set_option linter.all false
/- Contracts: all staircases of a box, the reference's side. -/
namespace Go.Ab
open Go
set_option linter.unusedSimpArgs false
set_option linter.unusedVariables false
set_option maxRecDepth 20000

/-- A table none of whose blocks is among av. -/
def TabR (N : Mem) (t : Nat) (L : List (List Int)) (av : List Nat) : Prop := ∃ refs : List LV, Live N t (.row refs true 1) ∧ refs.length = L.length ∧ t ∉ av ∧ ∀ i, i < L.length → ∃ u, u ≠ t ∧ u ∉ av ∧ refs[i]? = some (.ref u 0 (L.getD i []).length) ∧ Ints N u 0 (L.getD i [])
theorem TabR.pre {N N' : Mem} {t : Nat} {L : List (List Int)} {av : List Nat} (h : TabR N t L av) (hp : Pre N N') : TabR N' t L av := by
  obtain ⟨refs, h1, h2, h3, h4⟩ := h
  exact ⟨refs, h1.pre hp, h2, h3, fun i hi => by obtain ⟨u, q1, q2, q3, q4⟩ := h4 i hi; exact ⟨u, q1, q2, q3, q4.pre hp⟩⟩
/-- What is among av may turn. -/
theorem TabR.keep {N N' : Mem} {t : Nat} {L : List (List Int)} {av av' : List Nat} (h : TabR N t L av) (hk : ∀ q, q ∉ av → q < N.length → N'[q]? = N[q]?) (ha : ∀ q, q ∈ av' → q ∈ av ∨ N.length ≤ q) : TabR N' t L av' := by
  obtain ⟨refs, h1, h2, h3, h4⟩ := h
  have hno : ∀ q, q ∉ av → q < N.length → q ∉ av' := fun q h1 h2 h3 => (ha q h3).elim h1 (by omega)
  refine ⟨refs, Live.at h1 (hk _ h3 h1.lt), h2, hno _ h3 h1.lt, fun i hi => ?_⟩
  obtain ⟨u, q1, q2, q3, q4⟩ := h4 i hi
  exact ⟨u, q1, hno _ q2 q4.lt, q3, Has.at' q4 (hk _ q2 q4.lt)⟩
theorem TabR.nil {N : Mem} {t : Nat} {av : List Nat} (h : Live N t (.row [] true 1)) (ha : t ∉ av) : TabR N t [] av := ⟨[], h, rfl, ha, fun i hi => by simp at hi⟩
theorem TabR.v {N : Mem} {t : Nat} {L : List (List Int)} {av : List Nat} (h : TabR N t L av) : ∃ refs : List LV, Live N t (.row refs true 1) ∧ refs.length = L.length ∧ ∀ i, i < L.length → ∃ u : Nat, refs[i]? = some (.ref u 0 (L.getD i []).length) ∧ Ints N u 0 (L.getD i []) := by
  obtain ⟨refs, h1, h2, h3, h4⟩ := h
  exact ⟨refs, h1, h2, fun i hi => by obtain ⟨u, q1, q2, q3, q4⟩ := h4 i hi; exact ⟨u, q3, q4⟩⟩
theorem TabR.lt {N : Mem} {t : Nat} {L : List (List Int)} {av : List Nat} (h : TabR N t L av) : t < N.length := by
  obtain ⟨refs, h1, _⟩ := h
  exact h1.lt
theorem live_row {N : Mem} {t : Nat} {r r' : List LV} {w w' : Bool} {e e' : Nat} (h : Live N t (.row r w e)) (h' : Live N t (.row r' w' e')) : r = r' := by
  unfold Live at h h'
  rw [h] at h'
  injection h' with h'
  injection h' with h'
  injection h'
/-- Rows go behind a table. -/
theorem appendK_tabs {N : Mem} {t t2 : Nat} {L L2 : List (List Int)} {A : LV → Mem → Prop} (h : TabR N t L []) (h2 : TabR N t2 L2 [t]) (hl : L.length + L2.length ≤ 1000000000000)
    (hA : ∀ u M', N.length ≤ M'.length → (∀ av : List Nat, TabR N t L av → TabR N t2 L2 (t :: av) → (∀ a ∈ av, a < N.length) → TabR M' u (L ++ L2) av) → (u = t ∨ N.length ≤ u) → (∀ w, w ≠ t → w < N.length → M'[w]? = N[w]?) → A (.ref u 0 (L.length + L2.length)) M') : appendK 1 24 (.ref t 0 L.length) (.ref t2 0 L2.length) N A := by
  obtain ⟨refs, h1, hr, _⟩ := h
  obtain ⟨refs2, g1, gr, _⟩ := h2
  have g1' : Has N t2 0 refs2 := g1.has
  refine appendK_list (acc := refs) (new := refs2) h1 (by omega) g1' (by omega) (by omega) (by omega) fun u M' k1 k2 k3 k4 => hA u M' k1 (fun av h h2 hav => ?_) k3 k4
  obtain ⟨refs', h1', hr', h3, h4⟩ := h
  obtain ⟨refs2', g1'', gr', g3, g4⟩ := h2
  cases live_row h1 h1'
  cases live_row g1 g1''
  refine ⟨refs ++ refs2, k2, by simp [hr, gr], ?_, fun i hi => ?_⟩
  · rcases k3 with rfl | k3
    · exact h3
    · exact fun hm => by have := hav u hm; omega
  · have fin : ∀ v, v ≠ t → v < N.length → v ≠ u := fun v hv hlt e => by
      subst e
      rcases k3 with rfl | k3
      · exact hv rfl
      · omega
    rw [List.length_append] at hi
    by_cases hi2 : i < L.length
    · obtain ⟨v, q1, q2, q3, q4⟩ := h4 i hi2
      have hg : (L ++ L2).getD i [] = L.getD i [] := by simp only [List.getD_eq_getElem?_getD]; rw [List.getElem?_append_left hi2]
      rw [hg]
      exact ⟨v, fin v q1 q4.lt, q2, by rw [List.getElem?_append_left (by omega)]; exact q3, Has.at' q4 (k4 v q1 q4.lt)⟩
    · obtain ⟨v, q1, q2, q3, q4⟩ := g4 (i - L.length) (by omega)
      have hg : (L ++ L2).getD i [] = L2.getD (i - L.length) [] := by simp only [List.getD_eq_getElem?_getD]; rw [List.getElem?_append_right (by omega)]
      rw [hg]
      have hvt : v ≠ t := fun e => q2 (by simp [e])
      exact ⟨v, fin v hvt q4.lt, fun hm => q2 (by simp [hm]), by rw [List.getElem?_append_right (by omega), hr]; exact q3, Has.at' q4 (k4 v hvt q4.lt)⟩
theorem tabR_one {N : Mem} {l : List Int} {u : Nat} {av : List Nat} (h : Ints N u 0 l) (hu : u ∉ av) (ha : ∀ a ∈ av, a < N.length) : TabR (N ++ [some (.row [.ref u 0 l.length] true 1)]) N.length [l] av := by
  refine ⟨[.ref u 0 l.length], Live.new, rfl, fun hm => by have := ha _ hm; omega, fun i hi => ?_⟩
  simp at hi
  subst hi
  exact ⟨u, by have := h.lt; omega, hu, rfl, h.app⟩

theorem h_l5All {x y z : Nat} (hx : 1 ≤ x ∧ x ≤ 4) (hy : 1 ≤ y ∧ y ≤ 4) (hz : 1 ≤ z ∧ z ≤ 4) : ∀ (n : Nat) {l : List Int} {t : Nat} {M : Mem}, l.length + n = x * y → OkS z l → Ints M t 0 l →
    CallsR PG F.spec_l5All [.I x, .I y, .I z, .ref t 0 l.length] M fun v N => ∃ u, v = .ref u 0 (allS y z n l).length ∧ Pre M N ∧ M.length ≤ u ∧ ∀ av : List Nat, t ∉ av → (∀ a ∈ av, a < M.length) → TabR N u (allS y z n l) av
  | 0, l, t, M, hl, hO, h => by
    have e : ((x : Nat) : Int) * ((y : Nat) : Int) = ((l.length : Nat) : Int) := by rw [← Int.natCast_mul]; omega
    have hxy : x * y ≤ 4 * 4 := Nat.mul_le_mul hx.2 hy.2
    refine callsR_run K.spec_l5All rfl ?_
    simp (disch := omega) only [C.spec_l5All, e, ↓SXd, SXu, slBounds, ↓sop, ↓aop, ↓reduceIte, LV.cells, AOp.dst, LV.I, LV.B, LV.U, LV.S, LV.nil, Nat.reduceEqDiff, Nat.reduceAdd, Nat.reduceMul, Nat.reduceSub, Nat.reduceLeDiff, Nat.reduceBEq, Nat.reduceDiv, Nat.reduceMod, Int.reduceToNat, Int.reduceLT, Int.reduceLE, Int.reduceAdd, Int.reduceSub, Int.reduceMul, Int.reduceEq, Int.reduceNeg, reduceCtorEq, resV, resAll, ARes.ev, LV.flat, ite_true, ite_false, exists_eq_left', exists_eq_left, keyOf, implies_true, fillC, capOf]
    exact ⟨_, rfl, Pre.app _ _, Nat.le_refl _, fun av h1 h2 => tabR_one h h1 h2⟩
  | n + 1, l, t, M, hl, hO, h => by
    have e : ((x : Nat) : Int) * ((y : Nat) : Int) = ((l.length + (n + 1) : Nat) : Int) := by rw [← Int.natCast_mul]; omega
    have hxy : x * y ≤ 4 * 4 := Nat.mul_le_mul hx.2 hy.2
    have hne : ¬ ((l.length : Nat) : Int) = ((l.length + (n + 1) : Nat) : Int) := by omega
    have hm := mostS_in (y := y) (z := z) (by omega) (by omega) hO
    have hb := allS_len (y := y) (z := z) (by omega) (by omega) (n := n + 1) hO
    have hp5 : (5 : Nat) ^ (n + 1) ≤ 5 ^ 16 := Nat.pow_le_pow_right (by omega) (by omega)
    have h516 : (5 : Nat) ^ 16 = 152587890625 := rfl
    refine callsR_run K.spec_l5All rfl ?_
    simp (disch := omega) only [C.spec_l5All, e, hne, ↓SXd, SXu, slBounds, ↓sop, ↓aop, ↓reduceIte, LV.cells, AOp.dst, LV.I, LV.B, LV.U, LV.S, LV.nil, Nat.reduceEqDiff, Nat.reduceAdd, Nat.reduceMul, Nat.reduceSub, Nat.reduceLeDiff, Nat.reduceBEq, Nat.reduceDiv, Nat.reduceMod, Int.reduceToNat, Int.reduceLT, Int.reduceLE, Int.reduceAdd, Int.reduceSub, Int.reduceMul, Int.reduceEq, Int.reduceNeg, reduceCtorEq, resV, resAll, ARes.ev, LV.flat, ite_true, ite_false, exists_eq_left', exists_eq_left, keyOf, implies_true, fillC, capOf]
    have hM : M = M := rfl
    refine cond_cut (fun fr M' => M' = M ∧ fr 0 = .I x ∧ fr 1 = .I y ∧ fr 2 = .I z ∧ fr 3 = .ref t 0 l.length ∧ fr 9 = .I l.length ∧ fr 10 = .I (if y ≤ l.length then min (z : Int) (l.getD (l.length - y) 0) else z)) ?_ ?_
    · by_cases h1 : y ≤ l.length
      · have h1' : (y : Int) ≤ (l.length : Nat) := by omega
        have hg := Ints.get h (k := l.length - y) (by omega)
        rw [Nat.zero_add] at hg
        have hti : ((l.length : Nat) - (y : Nat) : Int).toNat = l.length - y := by omega
        have hi1 : (0 : Int) ≤ (l.length : Nat) - (y : Nat) ∧ ((l.length : Nat) - (y : Nat) : Int) < (l.length : Nat) := by omega
        rw [if_pos h1]
        simp (disch := omega) only [h1', hti, hg, ↓SXd, SXu, slBounds, ↓sop, ↓aop, ↓reduceIte, LV.cells, AOp.dst, LV.I, LV.B, LV.U, LV.S, LV.nil, Nat.reduceEqDiff, Nat.reduceAdd, Nat.reduceMul, Nat.reduceSub, Nat.reduceLeDiff, Nat.reduceBEq, Nat.reduceDiv, Nat.reduceMod, Int.reduceToNat, Int.reduceLT, Int.reduceLE, Int.reduceAdd, Int.reduceSub, Int.reduceMul, Int.reduceEq, Int.reduceNeg, reduceCtorEq, resV, resAll, ARes.ev, LV.flat, ite_true, ite_false, exists_eq_left', exists_eq_left, keyOf, implies_true, fillC, capOf]
        refine callK_of (h_l1Least) ?_
        simp (disch := omega) only [↓SXd, SXu, slBounds, ↓sop, ↓aop, ↓reduceIte, LV.cells, AOp.dst, LV.I, LV.B, LV.U, LV.S, LV.nil, Nat.reduceEqDiff, Nat.reduceAdd, Nat.reduceMul, Nat.reduceSub, Nat.reduceLeDiff, Nat.reduceBEq, Nat.reduceDiv, Nat.reduceMod, Int.reduceToNat, Int.reduceLT, Int.reduceLE, Int.reduceAdd, Int.reduceSub, Int.reduceMul, Int.reduceEq, Int.reduceNeg, reduceCtorEq, resV, resAll, ARes.ev, LV.flat, ite_true, ite_false, exists_eq_left', exists_eq_left, keyOf, implies_true, fillC, capOf]
      · have h1' : ¬ (y : Int) ≤ (l.length : Nat) := by omega
        rw [if_neg h1]
        simp (disch := omega) only [h1', ↓SXd, SXu, slBounds, ↓sop, ↓aop, ↓reduceIte, LV.cells, AOp.dst, LV.I, LV.B, LV.U, LV.S, LV.nil, Nat.reduceEqDiff, Nat.reduceAdd, Nat.reduceMul, Nat.reduceSub, Nat.reduceLeDiff, Nat.reduceBEq, Nat.reduceDiv, Nat.reduceMod, Int.reduceToNat, Int.reduceLT, Int.reduceLE, Int.reduceAdd, Int.reduceSub, Int.reduceMul, Int.reduceEq, Int.reduceNeg, reduceCtorEq, resV, resAll, ARes.ev, LV.flat, ite_true, ite_false, exists_eq_left', exists_eq_left, keyOf, implies_true, fillC, capOf]
    rintro fr M' ⟨rfl, f0, f1, f2, f3, f9, f10⟩
    have hyn : ¬ ((y : Nat) : Int) = 0 := by omega
    simp (disch := omega) only [f0, f1, f2, f3, f9, f10, tmodNN, hyn, ne_eq, not_false_eq_true, ↓SXd, SXu, slBounds, ↓sop, ↓aop, ↓reduceIte, LV.cells, AOp.dst, LV.I, LV.B, LV.U, LV.S, LV.nil, Nat.reduceEqDiff, Nat.reduceAdd, Nat.reduceMul, Nat.reduceSub, Nat.reduceLeDiff, Nat.reduceBEq, Nat.reduceDiv, Nat.reduceMod, Int.reduceToNat, Int.reduceLT, Int.reduceLE, Int.reduceAdd, Int.reduceSub, Int.reduceMul, Int.reduceEq, Int.reduceNeg, reduceCtorEq, resV, resAll, ARes.ev, LV.flat, ite_true, ite_false, exists_eq_left', exists_eq_left, keyOf, implies_true, fillC, capOf]
    refine cond_cut (fun fr M2 => M2 = M' ∧ fr 0 = .I x ∧ fr 1 = .I y ∧ fr 2 = .I z ∧ fr 3 = .ref t 0 l.length ∧ fr 10 = .I (mostS y z l)) ?_ ?_
    · unfold mostS
      by_cases h1 : 0 < l.length % y
      · have h1' : (0 : Int) < ((l.length % y : Nat) : Int) := by omega
        have hl0 : 0 < l.length := by
          rcases Nat.eq_zero_or_pos l.length with e | e
          · rw [e, Nat.zero_mod] at h1; omega
          · exact e
        have hg := Ints.get h (k := l.length - 1) (by omega)
        rw [Nat.zero_add] at hg
        have hti : ((l.length : Nat) - 1 : Int).toNat = l.length - 1 := by omega
        rw [if_pos h1]
        simp (disch := omega) only [f0, f1, f2, f3, f9, f10, h1', hti, hg, ↓SXd, SXu, slBounds, ↓sop, ↓aop, ↓reduceIte, LV.cells, AOp.dst, LV.I, LV.B, LV.U, LV.S, LV.nil, Nat.reduceEqDiff, Nat.reduceAdd, Nat.reduceMul, Nat.reduceSub, Nat.reduceLeDiff, Nat.reduceBEq, Nat.reduceDiv, Nat.reduceMod, Int.reduceToNat, Int.reduceLT, Int.reduceLE, Int.reduceAdd, Int.reduceSub, Int.reduceMul, Int.reduceEq, Int.reduceNeg, reduceCtorEq, resV, resAll, ARes.ev, LV.flat, ite_true, ite_false, exists_eq_left', exists_eq_left, keyOf, implies_true, fillC, capOf]
        refine callK_of (h_l1Least) ?_
        simp (disch := omega) only [f0, f1, f2, f3, f9, f10, ↓SXd, SXu, slBounds, ↓sop, ↓aop, ↓reduceIte, LV.cells, AOp.dst, LV.I, LV.B, LV.U, LV.S, LV.nil, Nat.reduceEqDiff, Nat.reduceAdd, Nat.reduceMul, Nat.reduceSub, Nat.reduceLeDiff, Nat.reduceBEq, Nat.reduceDiv, Nat.reduceMod, Int.reduceToNat, Int.reduceLT, Int.reduceLE, Int.reduceAdd, Int.reduceSub, Int.reduceMul, Int.reduceEq, Int.reduceNeg, reduceCtorEq, resV, resAll, ARes.ev, LV.flat, ite_true, ite_false, exists_eq_left', exists_eq_left, keyOf, implies_true, fillC, capOf]
      · have h1' : ¬ (0 : Int) < ((l.length % y : Nat) : Int) := by omega
        rw [if_neg h1]
        simp (disch := omega) only [f0, f1, f2, f3, f9, f10, h1', ↓SXd, SXu, slBounds, ↓sop, ↓aop, ↓reduceIte, LV.cells, AOp.dst, LV.I, LV.B, LV.U, LV.S, LV.nil, Nat.reduceEqDiff, Nat.reduceAdd, Nat.reduceMul, Nat.reduceSub, Nat.reduceLeDiff, Nat.reduceBEq, Nat.reduceDiv, Nat.reduceMod, Int.reduceToNat, Int.reduceLT, Int.reduceLE, Int.reduceAdd, Int.reduceSub, Int.reduceMul, Int.reduceEq, Int.reduceNeg, reduceCtorEq, resV, resAll, ARes.ev, LV.flat, ite_true, ite_false, exists_eq_left', exists_eq_left, keyOf, implies_true, fillC, capOf]
    clear f0 f1 f2 f3 f9 f10
    rintro fr M2 ⟨rfl, f0, f1, f2, f3, f10⟩
    simp (disch := omega) only [f0, f1, f2, f3, f10, ↓SXd, SXu, slBounds, ↓sop, ↓aop, ↓reduceIte, LV.cells, AOp.dst, LV.I, LV.B, LV.U, LV.S, LV.nil, Nat.reduceEqDiff, Nat.reduceAdd, Nat.reduceMul, Nat.reduceSub, Nat.reduceLeDiff, Nat.reduceBEq, Nat.reduceDiv, Nat.reduceMod, Int.reduceToNat, Int.reduceLT, Int.reduceLE, Int.reduceAdd, Int.reduceSub, Int.reduceMul, Int.reduceEq, Int.reduceNeg, reduceCtorEq, resV, resAll, ARes.ev, LV.flat, ite_true, ite_false, exists_eq_left', exists_eq_left, keyOf, implies_true, fillC, capOf]
    have hall : allS y z (n + 1) l = (List.range (mostS y z l + 1).toNat).flatMap fun h : Nat => allS y z n (l ++ [(h : Int)]) := rfl
    have htl := h.lt
    refine ev_loop (fun m fr N => ∃ i u : Nat, i + m = (mostS y z l + 1).toNat ∧ Pre M2 N ∧ M2.length ≤ u ∧ (∀ av : List Nat, t ∉ av → (∀ a ∈ av, a < M2.length) → TabR N u ((List.range i).flatMap fun h : Nat => allS y z n (l ++ [(h : Int)])) av) ∧
      fr 0 = .I x ∧ fr 1 = .I y ∧ fr 2 = .I z ∧ fr 3 = .ref t 0 l.length ∧ fr 10 = .I (mostS y z l) ∧ fr 11 = .ref u 0 ((List.range i).flatMap fun h : Nat => allS y z n (l ++ [(h : Int)])).length ∧ fr 12 = .I i) (mostS y z l + 1).toNat
      ⟨0, M2.length, by omega, Pre.app _ _, Nat.le_refl _, fun av h1 h2 => TabR.nil Live.new fun hm => by have := h2 _ hm; omega, f0, f1, f2, f3, f10, rfl, rfl⟩ ?_
    clear f0 f1 f2 f3 f10
    rintro m fr N ⟨i, u, hi, hpre, hu, hT, f0, f1, f2, f3, f10, f11, f12⟩
    simp (disch := omega) only [f0, f1, f2, f3, f10, f11, f12, ↓SXd, SXu, slBounds, ↓sop, ↓aop, ↓reduceIte, LV.cells, AOp.dst, LV.I, LV.B, LV.U, LV.S, LV.nil, Nat.reduceEqDiff, Nat.reduceAdd, Nat.reduceMul, Nat.reduceSub, Nat.reduceLeDiff, Nat.reduceBEq, Nat.reduceDiv, Nat.reduceMod, Int.reduceToNat, Int.reduceLT, Int.reduceLE, Int.reduceAdd, Int.reduceSub, Int.reduceMul, Int.reduceEq, Int.reduceNeg, reduceCtorEq, resV, resAll, ARes.ev, LV.flat, ite_true, ite_false, exists_eq_left', exists_eq_left, keyOf, implies_true, fillC, capOf]
    refine condC_dec (fun hlt => ?_) (fun hlt => ?_)
    · have hile : i < (mostS y z l + 1).toNat := by omega
      have hOi : OkS z (l ++ [(i : Int)]) := okS_snoc hO ⟨by omega, by omega⟩
      have hbi : ((List.range (i + 1)).flatMap fun h : Nat => allS y z n (l ++ [(h : Int)])).length ≤ 152587890625 := by
        obtain ⟨T, hT'⟩ := flat_le (f := fun h : Nat => allS y z n (l ++ [(h : Int)])) (show i + 1 ≤ (mostS y z l + 1).toNat by omega)
        rw [hall, hT', List.length_append] at hb
        omega
      rw [flat_succ, List.length_append] at hbi
      have hTt : TabR N u ((List.range i).flatMap fun h : Nat => allS y z n (l ++ [(h : Int)])) [] := hT [] (by simp) (by simp)
      have hul := hTt.lt
      have hpl := hpre.1
      simp (disch := omega) only [f0, f1, f2, f3, f10, f11, f12, ↓SXd, SXu, slBounds, ↓sop, ↓aop, ↓reduceIte, LV.cells, AOp.dst, LV.I, LV.B, LV.U, LV.S, LV.nil, Nat.reduceEqDiff, Nat.reduceAdd, Nat.reduceMul, Nat.reduceSub, Nat.reduceLeDiff, Nat.reduceBEq, Nat.reduceDiv, Nat.reduceMod, Int.reduceToNat, Int.reduceLT, Int.reduceLE, Int.reduceAdd, Int.reduceSub, Int.reduceMul, Int.reduceEq, Int.reduceNeg, reduceCtorEq, resV, resAll, ARes.ev, LV.flat, ite_true, ite_false, exists_eq_left', exists_eq_left, keyOf, implies_true, fillC, capOf]
      refine callK_of (h_l1Own (h.pre hpre) (by omega)) ?_
      simp (disch := omega) only [f0, f1, f2, f3, f10, f11, f12, ↓SXd, SXu, slBounds, ↓sop, ↓aop, ↓reduceIte, LV.cells, AOp.dst, LV.I, LV.B, LV.U, LV.S, LV.nil, Nat.reduceEqDiff, Nat.reduceAdd, Nat.reduceMul, Nat.reduceSub, Nat.reduceLeDiff, Nat.reduceBEq, Nat.reduceDiv, Nat.reduceMod, Int.reduceToNat, Int.reduceLT, Int.reduceLE, Int.reduceAdd, Int.reduceSub, Int.reduceMul, Int.reduceEq, Int.reduceNeg, reduceCtorEq, resV, resAll, ARes.ev, LV.flat, ite_true, ite_false, exists_eq_left', exists_eq_left, keyOf, implies_true, fillC, capOf]
      refine appendK_1a (M := N) (t := N.length) (acc := intL l) (new := [LV.I i]) Live.new (by rw [intL_len]; omega) rfl (by omega) (by omega) (by omega) fun N5 l1 l2 l3 => ?_
      rw [show intL l ++ [LV.I (i : Int)] = intL (l ++ [(i : Int)]) by rw [intL_append]; rfl] at l2
      have hp5' : Pre N N5 := pre_step (Pre.refl _) (Nat.le_refl _) (j := 3) (by omega) fun q h1 h2 => by rw [l3 q h1 (by omega), List.getElem?_append_left h2]
      simp (disch := omega) only [f0, f1, f2, f3, f10, f11, f12, ↓SXd, SXu, slBounds, ↓sop, ↓aop, ↓reduceIte, LV.cells, AOp.dst, LV.I, LV.B, LV.U, LV.S, LV.nil, Nat.reduceEqDiff, Nat.reduceAdd, Nat.reduceMul, Nat.reduceSub, Nat.reduceLeDiff, Nat.reduceBEq, Nat.reduceDiv, Nat.reduceMod, Int.reduceToNat, Int.reduceLT, Int.reduceLE, Int.reduceAdd, Int.reduceSub, Int.reduceMul, Int.reduceEq, Int.reduceNeg, reduceCtorEq, resV, resAll, ARes.ev, LV.flat, ite_true, ite_false, exists_eq_left', exists_eq_left, keyOf, implies_true, fillC, capOf]
      have hrec := h_l5All hx hy hz n (l := l ++ [(i : Int)]) (by simp; omega) hOi l2.has
      rw [show (l ++ [(i : Int)]).length = l.length + 1 by simp] at hrec
      refine callR_of hrec ?_
      rintro _ N6 ⟨v, rfl, hp6, hv, hT6⟩
      have hp56 := hp5'.trans hp6
      have h2 : ∀ av : List Nat, t ∉ av → (∀ a ∈ av, a < M2.length) → TabR N6 u ((List.range i).flatMap fun h : Nat => allS y z n (l ++ [(h : Int)])) av ∧ TabR N6 v (allS y z n (l ++ [(i : Int)])) (u :: av) := fun av h1 h2 => ⟨(hT av h1 h2).pre hp56, hT6 _ (by
        simp only [List.mem_cons, not_or]
        exact ⟨by omega, fun hm => by have := h2 _ hm; omega⟩) fun a ha => by
          rcases List.mem_cons.1 ha with rfl | ha
          · omega
          · have := h2 a ha; omega⟩
      have hpl6 := hp6.1
      have hM' : Pre M2 N6 := hpre.trans hp56
      obtain ⟨ha0, ha1⟩ := h2 [] (by simp) (by simp)
      simp (disch := omega) only [f0, f1, f2, f3, f10, f11, f12, ↓SXd, SXu, slBounds, ↓sop, ↓aop, ↓reduceIte, LV.cells, AOp.dst, LV.I, LV.B, LV.U, LV.S, LV.nil, Nat.reduceEqDiff, Nat.reduceAdd, Nat.reduceMul, Nat.reduceSub, Nat.reduceLeDiff, Nat.reduceBEq, Nat.reduceDiv, Nat.reduceMod, Int.reduceToNat, Int.reduceLT, Int.reduceLE, Int.reduceAdd, Int.reduceSub, Int.reduceMul, Int.reduceEq, Int.reduceNeg, reduceCtorEq, resV, resAll, ARes.ev, LV.flat, ite_true, ite_false, exists_eq_left', exists_eq_left, keyOf, implies_true, fillC, capOf]
      refine appendK_tabs ha0 ha1 (by omega) fun u' N7 k1 k2 k3 k4 => ?_
      have hul6 := ha0.lt
      simp (disch := omega) only [f0, f1, f2, f3, f10, f11, f12, ↓SXd, SXu, slBounds, ↓sop, ↓aop, ↓reduceIte, LV.cells, AOp.dst, LV.I, LV.B, LV.U, LV.S, LV.nil, Nat.reduceEqDiff, Nat.reduceAdd, Nat.reduceMul, Nat.reduceSub, Nat.reduceLeDiff, Nat.reduceBEq, Nat.reduceDiv, Nat.reduceMod, Int.reduceToNat, Int.reduceLT, Int.reduceLE, Int.reduceAdd, Int.reduceSub, Int.reduceMul, Int.reduceEq, Int.reduceNeg, reduceCtorEq, resV, resAll, ARes.ev, LV.flat, ite_true, ite_false, exists_eq_left', exists_eq_left, keyOf, implies_true, fillC, capOf]
      refine ⟨m - 1, by omega, i + 1, u', by omega, ⟨by have := hM'.1; omega, fun q hq => by rw [k4 q (by omega) (by have := hM'.1; omega)]; exact hM'.2 q hq⟩, by rcases k3 with rfl | k3 <;> omega, fun av q1 q2 => ?_, f0, f1, f2, f3, f10, ?_, eqI (natI _)⟩
      · rw [flat_succ]
        exact k2 av (h2 av q1 q2).1 (h2 av q1 q2).2 fun a ha => by have := q2 a ha; omega
      · rw [flat_succ, List.length_append]; rfl
    · have : i = (mostS y z l + 1).toNat := by omega
      subst this
      rw [← hall] at f11 hT
      simp (disch := omega) only [f0, f1, f2, f3, f10, f11, f12, ↓SXd, SXu, slBounds, ↓sop, ↓aop, ↓reduceIte, LV.cells, AOp.dst, LV.I, LV.B, LV.U, LV.S, LV.nil, Nat.reduceEqDiff, Nat.reduceAdd, Nat.reduceMul, Nat.reduceSub, Nat.reduceLeDiff, Nat.reduceBEq, Nat.reduceDiv, Nat.reduceMod, Int.reduceToNat, Int.reduceLT, Int.reduceLE, Int.reduceAdd, Int.reduceSub, Int.reduceMul, Int.reduceEq, Int.reduceNeg, reduceCtorEq, resV, resAll, ARes.ev, LV.flat, ite_true, ite_false, exists_eq_left', exists_eq_left, keyOf, implies_true, fillC, capOf]
      exact ⟨u, rfl, hpre, hu, hT⟩
end Go.Ab

/- Contracts: all staircases of a box, the program's side (lists that share their backing array). -/
namespace Go.Ab
open Go
set_option linter.unusedSimpArgs false
set_option linter.unusedVariables false
set_option maxRecDepth 20000

theorem g_cloneI {ys : List Int} {w : Nat} {N : Mem} (hw : Ints N w 0 ys) (h0 : 0 < ys.length) (hl : ys.length ≤ 1000000) :
    CallsR PG F.slices_Clone_Sint_int [.ref w 0 ys.length] N fun r N' => ∃ t', r = .ref t' 0 ys.length ∧ Live N' t' (.row (intL ys) true 1) ∧ N.length ≤ t' ∧ Pre N N' := by
  obtain ⟨m, hm⟩ : ∃ m, ys.length = m + 1 := ⟨ys.length - 1, by omega⟩
  rw [hm]
  refine callsR_run K.slices_Clone_Sint_int rfl ?_
  simp (disch := omega) only [C.slices_Clone_Sint_int, Bool.false_eq_true, ↓SXd, SXu, slBounds, ↓sop, ↓aop, ↓reduceIte, LV.cells, AOp.dst, LV.I, LV.B, LV.U, LV.S, LV.nil, Nat.reduceEqDiff, Nat.reduceAdd, Nat.reduceMul, Nat.reduceSub, Nat.reduceLeDiff, Nat.reduceBEq, Nat.reduceDiv, Nat.reduceMod, Int.reduceToNat, Int.reduceLT, Int.reduceLE, Int.reduceAdd, Int.reduceSub, Int.reduceMul, Int.reduceEq, Int.reduceNeg, reduceCtorEq, resV, resAll, ARes.ev, LV.flat, ite_true, ite_false, exists_eq_left', exists_eq_left, keyOf, implies_true, fillC, capOf]
  refine appendK_list (acc := []) (n := 0) Live.new rfl hw.app (by rw [intL_len, Nat.mul_one, hm]) (by omega) (by omega) fun u N2 k1 k2 k3 k4 => ?_
  simp (disch := omega) only [↓SXd, SXu, slBounds, ↓sop, ↓aop, ↓reduceIte, LV.cells, AOp.dst, LV.I, LV.B, LV.U, LV.S, LV.nil, Nat.reduceEqDiff, Nat.reduceAdd, Nat.reduceMul, Nat.reduceSub, Nat.reduceLeDiff, Nat.reduceBEq, Nat.reduceDiv, Nat.reduceMod, Int.reduceToNat, Int.reduceLT, Int.reduceLE, Int.reduceAdd, Int.reduceSub, Int.reduceMul, Int.reduceEq, Int.reduceNeg, reduceCtorEq, resV, resAll, ARes.ev, LV.flat, ite_true, ite_false, exists_eq_left', exists_eq_left, keyOf, implies_true, fillC, capOf]
  exact ⟨u, rfl, by rw [List.nil_append] at k2; exact k2, by simp at k3; omega, pre_stepL (Pre.app _ _) (t := N.length) (Nat.le_refl _) k1 k4⟩
/-- One number more, the old list staying. -/
theorem appendK_keep {M : Mem} {t len : Nat} {cs : List LV} {v : Int} {A : LV → Mem → Prop} (ht : Live M t (.row cs true 1)) (hl : len ≤ cs.length) (hb : len ≤ 1000000)
    (h1 : ∀ M', M'.length = M.length + 1 → Live M' t (.row (cs.take len ++ [.I v] ++ cs.drop (len + 1)) true 1) → (∀ q, q ≠ t → q < M.length → M'[q]? = M[q]?) → A (.ref t 0 (len + 1)) M')
    (h2 : ∀ M', M'.length = M.length + 2 → Live M' (M.length + 1) (.row (cs.take len ++ [.I v]) true 1) → (∀ q, q < M.length → M'[q]? = M[q]?) → A (.ref (M.length + 1) 0 (len + 1)) M') :
    appendK 1 8 (.ref t 0 len) (.ref M.length 0 1) (M ++ [some (.row [.I v] true 1)]) A := by
  have htl := ht.lt
  have hg : (M ++ [some (Blk.row [LV.I v] true 1)])[t]? = some (some (.row cs true 1)) := by rw [List.getElem?_append_left htl]; exact ht
  have hw : getCells (M ++ [some (.row [LV.I v] true 1)]) M.length 0 (1 * 1) = some [LV.I v] := (Live.new (b := .row [LV.I v] true 1)).cells
  simp only [appendK, lenS, winC, Nat.one_ne_zero, if_false, hw]
  refine ⟨⟨by omega, by omega⟩, .inr ?_⟩
  simp only [appS, hg, Nat.mul_one, Nat.zero_add]
  refine ⟨by omega, trivial, by omega, h1 _ (by simp) ?_ fun q q1 q2 => ?_, ?_⟩
  · unfold Live
    rw [List.getElem?_set_self (by simp; omega)]
    rfl
  · rw [List.getElem?_set_ne (fun e => q1 e.symm), List.getElem?_append_left q2]
  · have := h2 ((M ++ [some (.row [LV.I v] true 1)]) ++ [some (.row (List.take len (List.drop 0 cs) ++ [LV.I v]) true 1)]) (by simp) (by unfold Live; rw [List.getElem?_append_right (by simp)]; simp) fun q q1 => by rw [List.append_assoc, List.getElem?_append_left q1]
    simpa using this
theorem appendK_nil1 {M : Mem} {v : Int} {A : LV → Mem → Prop} (hA : ∀ M', M'.length = M.length + 2 → Live M' (M.length + 1) (.row [.I v] true 1) → (∀ u, u < M.length → M'[u]? = M[u]?) → A (.ref (M.length + 1) 0 1) M') :
    appendK 1 8 (.val (.slice none 0 0)) (.ref M.length 0 1) (M ++ [some (.row [LV.I v] true 1)]) A := by
  have hw : getCells (M ++ [some (.row [LV.I v] true 1)]) M.length 0 (1 * 1) = some [LV.I v] := (Live.new (b := .row [LV.I v] true 1)).cells
  have := hA (M ++ [some (.row [LV.I v] true 1)] ++ [some (.row [LV.I v] true 1)]) (by simp) (by unfold Live; simp) fun u hu => by rw [List.append_assoc, List.getElem?_append_left hu]
  simp only [appendK, lenS, winC, Nat.one_ne_zero, if_false, hw]
  refine ⟨⟨by omega, by omega⟩, .inl ?_⟩
  simp [appV, appK]
  simpa using this

/-- A list that may share its block with longer ones. -/
def LstAt (M : Mem) (v : LV) (l : List Int) (av : List Nat) : Prop := (v = .nil ∧ l = [] ∧ av = []) ∨ ∃ (t : Nat) (cs : List LV), v = .ref t 0 l.length ∧ av = [t] ∧ Live M t (.row cs true 1) ∧ l.length ≤ cs.length ∧ cs.take l.length = intL l
theorem LstAt.keep {M N : Mem} {v : LV} {l : List Int} {av : List Nat} (h : LstAt M v l av) (hk : ∀ q, q ∈ av → q < M.length → N[q]? = M[q]?) : LstAt N v l av := by
  rcases h with h | ⟨t, cs, h1, rfl, h3, h4, h5⟩
  · exact .inl h
  · exact .inr ⟨t, cs, h1, rfl, Live.at h3 (hk t (by simp) h3.lt), h4, h5⟩
theorem LstAt.lt {M : Mem} {v : LV} {l : List Int} {av : List Nat} (h : LstAt M v l av) : ∀ a ∈ av, a < M.length := by
  rcases h with ⟨_, _, rfl⟩ | ⟨t, cs, h1, rfl, h3, h4, h5⟩
  · simp
  · intro a ha; rw [List.mem_singleton.1 ha]; exact h3.lt
theorem LstAt.at {M : Mem} {v : LV} {l : List Int} {av : List Nat} (h : LstAt M v l av) (h0 : 0 < l.length) : ∃ t, v = .ref t 0 l.length ∧ Ints M t 0 l := by
  rcases h with ⟨_, rfl, _⟩ | ⟨t, cs, h1, _, h3, h4, h5⟩
  · simp at h0
  · refine ⟨t, h1, cs, h3.row, ?_, ?_⟩
    · rw [intL_len]; omega
    · rw [intL_len, List.drop_zero]; exact h5
theorem LstAt.len {M : Mem} {v : LV} {l : List Int} {av : List Nat} (h : LstAt M v l av) : lenV v = some (l.length : Int) := by
  rcases h with ⟨rfl, rfl, _⟩ | ⟨t, cs, rfl, _⟩ <;> rfl
theorem TabR.both {N : Mem} {t : Nat} {L : List (List Int)} {av av' : List Nat} (h : TabR N t L av) (h' : TabR N t L av') : TabR N t L (av ++ av') := by
  obtain ⟨refs, h1, h2, h3, h4⟩ := h
  obtain ⟨refs', g1, g2, g3, g4⟩ := h'
  cases live_row h1 g1
  refine ⟨refs, h1, h2, by simp [h3, g3], fun i hi => ?_⟩
  obtain ⟨u, q1, q2, q3, q4⟩ := h4 i hi
  obtain ⟨u', p1, p2, p3, p4⟩ := g4 i hi
  rw [q3] at p3
  injection p3 with p3
  injection p3 with p3
  subst p3
  exact ⟨u, q1, by simp [q2, p2], q3, q4⟩
theorem LstAt.shrink {M N : Mem} {v v' : LV} {l : List Int} {a : Int} {av : List Nat} (h : LstAt M v l av) (k : LstAt N v' (l ++ [a]) av) (h0 : 0 < av.length) : LstAt N v l av := by
  rcases h with ⟨_, _, rfl⟩ | ⟨t, cs, h1, rfl, h3, h4, h5⟩
  · simp at h0
  · rcases k with ⟨_, k, _⟩ | ⟨t', cs', k1, k2, k3, k4, k5⟩
    · simp at k
    · injection k2 with k2
      subst k2
      rw [List.length_append, List.length_singleton] at k4 k5
      refine .inr ⟨t, cs', h1, rfl, k3, by omega, ?_⟩
      have : (cs'.take (l.length + 1)).take l.length = (intL (l ++ [a])).take l.length := by rw [k5]
      rw [List.take_take, Nat.min_eq_left (by omega), intL_append, List.take_append_of_le_length (by rw [intL_len]; omega)] at this
      rw [this, List.take_of_length_le (by rw [intL_len]; omega)]
/-- One number behind a list that may share its block. -/
theorem appendK_lst {M : Mem} {v : LV} {l : List Int} {av : List Nat} {a : Int} {A : LV → Mem → Prop} (h : LstAt M v l av) (hb : l.length ≤ 1000000)
    (hA : ∀ v' M' av', M.length < M'.length → v' = .ref (av'.getD 0 0) 0 (l.length + 1) → LstAt M' v' (l ++ [a]) av' → (∀ q, q ∉ av → q < M.length → M'[q]? = M[q]?) → ((av' = av ∧ 0 < av.length) ∨ (av' = [M.length + 1] ∧ ∀ q, q < M.length → M'[q]? = M[q]?)) → A v' M') :
    appendK 1 8 v (.ref M.length 0 1) (M ++ [some (.row [.I a] true 1)]) A := by
  rcases h with ⟨rfl, rfl, rfl⟩ | ⟨t, cs, rfl, rfl, h3, h4, h5⟩
  · refine appendK_nil1 fun M' k1 k2 k3 => hA _ M' [M.length + 1] (by omega) rfl (.inr ⟨_, _, rfl, rfl, k2, by simp, rfl⟩) (fun q _ hq => k3 q hq) (.inr ⟨rfl, k3⟩)
  · have e : (l ++ [a]).length = l.length + 1 := by simp
    refine appendK_keep h3 h4 hb (fun M' k1 k2 k3 => hA _ M' [t] (by omega) rfl (.inr ⟨t, _, by rw [e], rfl, k2, ?_, ?_⟩) (fun q hq hl => k3 q (by simpa using hq) hl) (.inl ⟨rfl, by simp⟩)) fun M' k1 k2 k3 => hA _ M' [M.length + 1] (by omega) rfl (.inr ⟨_, _, by rw [e], rfl, k2, ?_, ?_⟩) (fun q _ hq => k3 q hq) (.inr ⟨rfl, k3⟩)
    · simp; omega
    · rw [h5, e, List.take_append_of_le_length (by simp [intL_len]), List.take_of_length_le (by simp [intL_len]), intL_append]; rfl
    · rw [h5, e]; simp [intL_len]
    · rw [h5, e, List.take_of_length_le (by simp [intL_len]), intL_append]; rfl

theorem g_stairs_1 {x y z : Nat} (hx : 1 ≤ x ∧ x ≤ 4) (hy : 1 ≤ y ∧ y ≤ 4) (hz : 1 ≤ z ∧ z ≤ 4) {b1 b2 b3 : Nat} (hd : b1 ≠ b2 ∧ b3 ≠ b2) : ∀ (n : Nat) {l : List Int} {v : LV} {av : List Nat} {L : List (List Int)} {uo : Nat} {M : Mem}, l.length + n = x * y → OkS z l → LstAt M v l av →
    Live M b1 (.row [.I x, .I y, .I z] true 0) → Live M b2 (.row [.ref uo 0 L.length] true 0) → Live M b3 (.row [.clo F.impl_box_stairs_1 [(b1, 0), (b2, 0), (b3, 0)]] true 0) → TabR M uo L (b2 :: av) → L.length + (allS y z n l).length ≤ 1000000000000 →
    CallsR PG F.impl_box_stairs_1 [v, .ptr b1 0, .ptr b2 0, .ptr b3 0] M fun w N => ∃ uo', w = .tup [] ∧ Live N b2 (.row [.ref uo' 0 (L ++ allS y z n l).length] true 0) ∧ (uo' = uo ∨ M.length ≤ uo') ∧ M.length ≤ N.length ∧ (∀ q, q < M.length → q ≠ b2 → q ≠ uo → q ∉ av → N[q]? = M[q]?) ∧ LstAt N v l av ∧
      ∀ av2 : List Nat, TabR M uo L av2 → (∀ a ∈ av2, a < M.length) → TabR N uo' (L ++ allS y z n l) av2
  | 0, l, v, av, L, uo, M, hl, hO, hv, l1, l2, l3, hT, hB => by
    have e : ((x : Nat) : Int) * ((y : Nat) : Int) = ((l.length : Nat) : Int) := by rw [← Int.natCast_mul]; omega
    have hxy : x * y ≤ 4 * 4 := Nat.mul_le_mul hx.2 hy.2
    have hxy1 : 1 * 1 ≤ x * y := Nat.mul_le_mul hx.1 hy.1
    have hll := hv.len
    have hva := hv.lt
    obtain ⟨t, rfl, hI⟩ := hv.at (by omega)
    have hal : (allS y z 0 l).length = 1 := rfl
    refine callsR_run K.impl_box_stairs_1 rfl ?_
    simp (disch := omega) only [C.impl_box_stairs_1, l1.cell, e, l2.cell, ↓SXd, SXu, slBounds, ↓sop, ↓aop, ↓reduceIte, LV.cells, AOp.dst, LV.I, LV.B, LV.U, LV.S, LV.nil, Nat.reduceEqDiff, Nat.reduceAdd, Nat.reduceMul, Nat.reduceSub, Nat.reduceLeDiff, Nat.reduceBEq, Nat.reduceDiv, Nat.reduceMod, Int.reduceToNat, Int.reduceLT, Int.reduceLE, Int.reduceAdd, Int.reduceSub, Int.reduceMul, Int.reduceEq, Int.reduceNeg, reduceCtorEq, resV, resAll, ARes.ev, LV.flat, ite_true, ite_false, exists_eq_left', exists_eq_left, keyOf, implies_true, fillC, capOf]
    refine callR_of (g_cloneI hI (by omega) (by omega)) ?_
    rintro _ N ⟨c, rfl, hc, hcl, hp⟩
    have hul := hT.lt
    have e1 : ∀ av2 : List Nat, TabR M uo L av2 → (∀ a ∈ av2, a < M.length) → TabR (N ++ [some (.row [.ref c 0 l.length] true 1)]) uo L av2 ∧ TabR (N ++ [some (.row [.ref c 0 l.length] true 1)]) N.length [l] (uo :: av2) := fun av2 h1 h2 =>
      ⟨h1.pre (hp.trans (Pre.app _ _)), tabR_one hc.has (by
        simp only [List.mem_cons, not_or]
        exact ⟨by omega, fun hm => by have := h2 _ hm; omega⟩) fun a ha => by
          rcases List.mem_cons.1 ha with rfl | ha
          · have := hp.1; omega
          · have := h2 a ha; have := hp.1; omega⟩
    have hT0 : TabR M uo L [] := hT.keep (fun _ _ _ => rfl) (by simp)
    obtain ⟨ha0, ha1⟩ := e1 [] hT0 (by simp)
    have hpl := hp.1
    simp (disch := omega) only [(keepL_pr hp), ↓SXd, SXu, slBounds, ↓sop, ↓aop, ↓reduceIte, LV.cells, AOp.dst, LV.I, LV.B, LV.U, LV.S, LV.nil, Nat.reduceEqDiff, Nat.reduceAdd, Nat.reduceMul, Nat.reduceSub, Nat.reduceLeDiff, Nat.reduceBEq, Nat.reduceDiv, Nat.reduceMod, Int.reduceToNat, Int.reduceLT, Int.reduceLE, Int.reduceAdd, Int.reduceSub, Int.reduceMul, Int.reduceEq, Int.reduceNeg, reduceCtorEq, resV, resAll, ARes.ev, LV.flat, ite_true, ite_false, exists_eq_left', exists_eq_left, keyOf, implies_true, fillC, capOf]
    refine appendK_tabs (L2 := [l]) ha0 ha1 (by rw [List.length_singleton]; omega) fun u N2 k1 k2 k3 k4 => ?_
    rw [List.length_append, List.length_singleton] at k1 k3 k4
    have hl2 : Live N2 b2 (.row [.ref uo 0 L.length] true 0) := by
      obtain ⟨refs, h1, _⟩ := ha0
      have := (l2.pre hp).app (L := [some (.row [.ref c 0 l.length] true 1)])
      exact Live.at this (k4 _ (fun e => by subst e; exact absurd rfl (this.ne_esz h1 (by decide))) (by have := l2.lt; omega))
    have hub : u ≠ b2 := by
      obtain ⟨refs, h1, _⟩ := k2 [] ha0 ha1 (by simp)
      exact h1.ne_esz hl2 (by decide)
    simp (disch := omega) only [↓SXd, SXu, slBounds, ↓sop, ↓aop, ↓reduceIte, LV.cells, AOp.dst, LV.I, LV.B, LV.U, LV.S, LV.nil, Nat.reduceEqDiff, Nat.reduceAdd, Nat.reduceMul, Nat.reduceSub, Nat.reduceLeDiff, Nat.reduceBEq, Nat.reduceDiv, Nat.reduceMod, Int.reduceToNat, Int.reduceLT, Int.reduceLE, Int.reduceAdd, Int.reduceSub, Int.reduceMul, Int.reduceEq, Int.reduceNeg, reduceCtorEq, resV, resAll, ARes.ev, LV.flat, ite_true, ite_false, exists_eq_left', exists_eq_left, keyOf, implies_true, fillC, capOf]
    refine memK_box hl2 (by simp) fun N3 j1 j2 j3 => ?_
    have hfr : ∀ q, q < M.length → q ≠ b2 → q ≠ uo → N3[q]? = M[q]? := fun q q1 q2 q3 => by
      rw [j3 q q2 (by omega), k4 q q3 (by omega), List.getElem?_append_left (by omega)]
      exact hp.2 q q1
    simp (disch := omega) only [↓SXd, SXu, slBounds, ↓sop, ↓aop, ↓reduceIte, LV.cells, AOp.dst, LV.I, LV.B, LV.U, LV.S, LV.nil, Nat.reduceEqDiff, Nat.reduceAdd, Nat.reduceMul, Nat.reduceSub, Nat.reduceLeDiff, Nat.reduceBEq, Nat.reduceDiv, Nat.reduceMod, Int.reduceToNat, Int.reduceLT, Int.reduceLE, Int.reduceAdd, Int.reduceSub, Int.reduceMul, Int.reduceEq, Int.reduceNeg, reduceCtorEq, resV, resAll, ARes.ev, LV.flat, ite_true, ite_false, exists_eq_left', exists_eq_left, keyOf, implies_true, fillC, capOf]
    refine ⟨u, rfl, ?_, by rcases k3 with rfl | k3 <;> omega, by omega, fun q q1 q2 q3 _ => hfr q q1 q2 q3, hv.keep fun q q1 q2 => hfr q q2 ?_ ?_, fun av2 g1 g2 => ?_⟩
    · rw [show (L ++ allS y z 0 l).length = L.length + 1 by simp [allS]]; exact j2
    · rcases hv with ⟨_, _, rfl⟩ | ⟨t', cs, _, rfl, h3, _⟩
      · simp at q1
      · rw [List.mem_singleton.1 q1]; exact h3.ne_esz l2 (by decide)
    · obtain ⟨_, _, _, h3, _⟩ := hT
      exact fun e => h3 (e ▸ (by simp [q1]))
    · have h3 : TabR M uo L ((b2 :: av) ++ av2) := hT.both g1
      have g3 : ∀ a ∈ (b2 :: av) ++ av2, a < M.length := fun a ha => by
        simp only [List.mem_append, List.mem_cons] at ha
        rcases ha with (rfl | ha) | ha
        · exact l2.lt
        · exact hva a ha
        · exact g2 a ha
      have h5 := k2 _ (e1 _ h3 g3).1 (e1 _ h3 g3).2 fun a ha => by have := g3 a ha; simp; omega
      exact h5.keep (fun q q1 q2 => j3 q (fun e => q1 (by simp [e])) q2) fun q hq => .inl (by simp [hq])
  | n + 1, l, v, av, L, uo, M, hl, hO, hv, l1, l2, l3, hT, hB => by
    have e : ((x : Nat) : Int) * ((y : Nat) : Int) = ((l.length + (n + 1) : Nat) : Int) := by rw [← Int.natCast_mul]; omega
    have hxy : x * y ≤ 4 * 4 := Nat.mul_le_mul hx.2 hy.2
    have hne : ¬ ((l.length : Nat) : Int) = ((l.length + (n + 1) : Nat) : Int) := by omega
    have hm := mostS_in (y := y) (z := z) (by omega) (by omega) hO
    have hll := hv.len
    have hva := hv.lt
    refine callsR_run K.impl_box_stairs_1 rfl ?_
    simp (disch := omega) only [C.impl_box_stairs_1, l1.cell, e, hne, hll, ↓SXd, SXu, slBounds, ↓sop, ↓aop, ↓reduceIte, LV.cells, AOp.dst, LV.I, LV.B, LV.U, LV.S, LV.nil, Nat.reduceEqDiff, Nat.reduceAdd, Nat.reduceMul, Nat.reduceSub, Nat.reduceLeDiff, Nat.reduceBEq, Nat.reduceDiv, Nat.reduceMod, Int.reduceToNat, Int.reduceLT, Int.reduceLE, Int.reduceAdd, Int.reduceSub, Int.reduceMul, Int.reduceEq, Int.reduceNeg, reduceCtorEq, resV, resAll, ARes.ev, LV.flat, ite_true, ite_false, exists_eq_left', exists_eq_left, keyOf, implies_true, fillC, capOf]
    refine cond_cut (fun fr M' => M' = M ∧ fr 0 = v ∧ fr 1 = .ptr b1 0 ∧ fr 2 = .ptr b2 0 ∧ fr 3 = .ptr b3 0 ∧ fr 5 = .I l.length ∧ fr 6 = .I (if y ≤ l.length then min (z : Int) (l.getD (l.length - y) 0) else z)) ?_ ?_
    · by_cases h1 : y ≤ l.length
      · have h1' : (y : Int) ≤ (l.length : Nat) := by omega
        obtain ⟨t, rfl, hI⟩ := hv.at (by omega)
        have hg := Ints.get hI (k := l.length - y) (by omega)
        rw [Nat.zero_add] at hg
        have hti : ((l.length : Nat) - (y : Nat) : Int).toNat = l.length - y := by omega
        rw [if_pos h1]
        simp (disch := omega) only [h1', hti, hg, l1.cell, maxV, ↓SXd, SXu, slBounds, ↓sop, ↓aop, ↓reduceIte, LV.cells, AOp.dst, LV.I, LV.B, LV.U, LV.S, LV.nil, Nat.reduceEqDiff, Nat.reduceAdd, Nat.reduceMul, Nat.reduceSub, Nat.reduceLeDiff, Nat.reduceBEq, Nat.reduceDiv, Nat.reduceMod, Int.reduceToNat, Int.reduceLT, Int.reduceLE, Int.reduceAdd, Int.reduceSub, Int.reduceMul, Int.reduceEq, Int.reduceNeg, reduceCtorEq, resV, resAll, ARes.ev, LV.flat, ite_true, ite_false, exists_eq_left', exists_eq_left, keyOf, implies_true, fillC, capOf]
      · have h1' : ¬ (y : Int) ≤ (l.length : Nat) := by omega
        rw [if_neg h1]
        simp (disch := omega) only [h1', ↓SXd, SXu, slBounds, ↓sop, ↓aop, ↓reduceIte, LV.cells, AOp.dst, LV.I, LV.B, LV.U, LV.S, LV.nil, Nat.reduceEqDiff, Nat.reduceAdd, Nat.reduceMul, Nat.reduceSub, Nat.reduceLeDiff, Nat.reduceBEq, Nat.reduceDiv, Nat.reduceMod, Int.reduceToNat, Int.reduceLT, Int.reduceLE, Int.reduceAdd, Int.reduceSub, Int.reduceMul, Int.reduceEq, Int.reduceNeg, reduceCtorEq, resV, resAll, ARes.ev, LV.flat, ite_true, ite_false, exists_eq_left', exists_eq_left, keyOf, implies_true, fillC, capOf]
    rintro fr M' ⟨rfl, f0, f1, f2, f3, f5, f6⟩
    have hyn : ¬ ((y : Nat) : Int) = 0 := by omega
    simp (disch := omega) only [f0, f1, f2, f3, f5, f6, l1.cell, tmodNN, hyn, ne_eq, not_false_eq_true, ↓SXd, SXu, slBounds, ↓sop, ↓aop, ↓reduceIte, LV.cells, AOp.dst, LV.I, LV.B, LV.U, LV.S, LV.nil, Nat.reduceEqDiff, Nat.reduceAdd, Nat.reduceMul, Nat.reduceSub, Nat.reduceLeDiff, Nat.reduceBEq, Nat.reduceDiv, Nat.reduceMod, Int.reduceToNat, Int.reduceLT, Int.reduceLE, Int.reduceAdd, Int.reduceSub, Int.reduceMul, Int.reduceEq, Int.reduceNeg, reduceCtorEq, resV, resAll, ARes.ev, LV.flat, ite_true, ite_false, exists_eq_left', exists_eq_left, keyOf, implies_true, fillC, capOf]
    refine cond_cut (fun fr M2 => M2 = M' ∧ fr 0 = v ∧ fr 1 = .ptr b1 0 ∧ fr 2 = .ptr b2 0 ∧ fr 3 = .ptr b3 0 ∧ fr 6 = .I (mostS y z l)) ?_ ?_
    · unfold mostS
      by_cases h1 : 0 < l.length % y
      · have h1' : (0 : Int) < ((l.length % y : Nat) : Int) := by omega
        have hl0 : 0 < l.length := by
          rcases Nat.eq_zero_or_pos l.length with e | e
          · rw [e, Nat.zero_mod] at h1; omega
          · exact e
        obtain ⟨t, rfl, hI⟩ := hv.at (by omega)
        have hg := Ints.get hI (k := l.length - 1) (by omega)
        rw [Nat.zero_add] at hg
        have hti : ((l.length : Nat) - 1 : Int).toNat = l.length - 1 := by omega
        rw [if_pos h1]
        simp (disch := omega) only [f0, f1, f2, f3, f5, f6, h1', hti, hg, maxV, ↓SXd, SXu, slBounds, ↓sop, ↓aop, ↓reduceIte, LV.cells, AOp.dst, LV.I, LV.B, LV.U, LV.S, LV.nil, Nat.reduceEqDiff, Nat.reduceAdd, Nat.reduceMul, Nat.reduceSub, Nat.reduceLeDiff, Nat.reduceBEq, Nat.reduceDiv, Nat.reduceMod, Int.reduceToNat, Int.reduceLT, Int.reduceLE, Int.reduceAdd, Int.reduceSub, Int.reduceMul, Int.reduceEq, Int.reduceNeg, reduceCtorEq, resV, resAll, ARes.ev, LV.flat, ite_true, ite_false, exists_eq_left', exists_eq_left, keyOf, implies_true, fillC, capOf]
      · have h1' : ¬ (0 : Int) < ((l.length % y : Nat) : Int) := by omega
        rw [if_neg h1]
        simp (disch := omega) only [f0, f1, f2, f3, f5, f6, h1', ↓SXd, SXu, slBounds, ↓sop, ↓aop, ↓reduceIte, LV.cells, AOp.dst, LV.I, LV.B, LV.U, LV.S, LV.nil, Nat.reduceEqDiff, Nat.reduceAdd, Nat.reduceMul, Nat.reduceSub, Nat.reduceLeDiff, Nat.reduceBEq, Nat.reduceDiv, Nat.reduceMod, Int.reduceToNat, Int.reduceLT, Int.reduceLE, Int.reduceAdd, Int.reduceSub, Int.reduceMul, Int.reduceEq, Int.reduceNeg, reduceCtorEq, resV, resAll, ARes.ev, LV.flat, ite_true, ite_false, exists_eq_left', exists_eq_left, keyOf, implies_true, fillC, capOf]
    clear f0 f1 f2 f3 f5 f6
    rintro fr M2 ⟨rfl, f0, f1, f2, f3, f6⟩
    simp (disch := omega) only [f0, f1, f2, f3, f6, ↓SXd, SXu, slBounds, ↓sop, ↓aop, ↓reduceIte, LV.cells, AOp.dst, LV.I, LV.B, LV.U, LV.S, LV.nil, Nat.reduceEqDiff, Nat.reduceAdd, Nat.reduceMul, Nat.reduceSub, Nat.reduceLeDiff, Nat.reduceBEq, Nat.reduceDiv, Nat.reduceMod, Int.reduceToNat, Int.reduceLT, Int.reduceLE, Int.reduceAdd, Int.reduceSub, Int.reduceMul, Int.reduceEq, Int.reduceNeg, reduceCtorEq, resV, resAll, ARes.ev, LV.flat, ite_true, ite_false, exists_eq_left', exists_eq_left, keyOf, implies_true, fillC, capOf]
    have hall : allS y z (n + 1) l = (List.range (mostS y z l + 1).toNat).flatMap fun h : Nat => allS y z n (l ++ [(h : Int)]) := rfl
    have g1 := l1.lt
    have g2 := l2.lt
    have g3 := l3.lt
    have gu := hT.lt
    have hub : ∀ {q : Nat}, q = b1 ∨ q = b3 → q ≠ uo ∧ q ∉ av := fun {q} hq => by
      obtain ⟨refs, h1, _⟩ := hT
      constructor
      · rcases hq with rfl | rfl
        · exact l1.ne_esz h1 (by decide)
        · exact l3.ne_esz h1 (by decide)
      · intro hm
        rcases hv with ⟨_, _, rfl⟩ | ⟨t', cs, _, rfl, h3, _⟩
        · simp at hm
        · rw [List.mem_singleton] at hm
          subst hm
          rcases hq with rfl | rfl
          · exact h3.ne_esz l1 (by decide) rfl
          · exact h3.ne_esz l3 (by decide) rfl
    have hub2 : b2 ∉ av := fun hm => by
      rcases hv with ⟨_, _, rfl⟩ | ⟨t', cs, _, rfl, h3, _⟩
      · simp at hm
      · rw [List.mem_singleton] at hm
        subst hm
        exact h3.ne_esz l2 (by decide) rfl
    refine ev_loop (fun m fr N => ∃ i uo' : Nat, i + m = (mostS y z l + 1).toNat ∧ Live N b2 (.row [.ref uo' 0 (L ++ (List.range i).flatMap fun h : Nat => allS y z n (l ++ [(h : Int)])).length] true 0) ∧ (uo' = uo ∨ M2.length ≤ uo') ∧ M2.length ≤ N.length ∧ (∀ q, q < M2.length → q ≠ b2 → q ≠ uo → q ∉ av → N[q]? = M2[q]?) ∧ LstAt N v l av ∧
      (∀ av2 : List Nat, TabR M2 uo L av2 → (∀ a ∈ av2, a < M2.length) → TabR N uo' (L ++ (List.range i).flatMap fun h : Nat => allS y z n (l ++ [(h : Int)])) av2) ∧
      fr 0 = v ∧ fr 1 = .ptr b1 0 ∧ fr 2 = .ptr b2 0 ∧ fr 3 = .ptr b3 0 ∧ fr 50 = .I (mostS y z l + 1) ∧ fr 51 = .I i) (mostS y z l + 1).toNat
      ⟨0, uo, by omega, by simpa using l2, .inl rfl, Nat.le_refl _, fun _ _ _ _ _ => rfl, hv, fun av2 h1 h2 => by simpa using h1, f0, f1, f2, f3, rfl, rfl⟩ ?_
    clear f0 f1 f2 f3 f6
    rintro m fr N ⟨i, uo', hi, c2, hu, hNl, hfr, cv, hTT, f0, f1, f2, f3, f50, f51⟩
    simp (disch := omega) only [f0, f1, f2, f3, f50, f51, ↓SXd, SXu, slBounds, ↓sop, ↓aop, ↓reduceIte, LV.cells, AOp.dst, LV.I, LV.B, LV.U, LV.S, LV.nil, Nat.reduceEqDiff, Nat.reduceAdd, Nat.reduceMul, Nat.reduceSub, Nat.reduceLeDiff, Nat.reduceBEq, Nat.reduceDiv, Nat.reduceMod, Int.reduceToNat, Int.reduceLT, Int.reduceLE, Int.reduceAdd, Int.reduceSub, Int.reduceMul, Int.reduceEq, Int.reduceNeg, reduceCtorEq, resV, resAll, ARes.ev, LV.flat, ite_true, ite_false, exists_eq_left', exists_eq_left, keyOf, implies_true, fillC, capOf]
    refine condC_dec (fun hlt => ?_) (fun hlt => ?_)
    · have hile : i < (mostS y z l + 1).toNat := by omega
      have hOi : OkS z (l ++ [(i : Int)]) := okS_snoc hO ⟨by omega, by omega⟩
      obtain ⟨T, hT'⟩ := flat_le (f := fun h : Nat => allS y z n (l ++ [(h : Int)])) (show i + 1 ≤ (mostS y z l + 1).toNat by omega)
      have hBi : (L ++ (List.range i).flatMap fun h : Nat => allS y z n (l ++ [(h : Int)])).length + (allS y z n (l ++ [(i : Int)])).length ≤ 1000000000000 := by
        rw [hall, hT', flat_succ] at hB
        simp only [List.length_append] at hB ⊢
        omega
      have c1 : Live N b1 (.row [.I x, .I y, .I z] true 0) := Live.at l1 (hfr b1 g1 hd.1 (hub (.inl rfl)).1 (hub (.inl rfl)).2)
      have c3 : Live N b3 (.row [.clo F.impl_box_stairs_1 [(b1, 0), (b2, 0), (b3, 0)]] true 0) := Live.at l3 (hfr b3 g3 hd.2 (hub (.inr rfl)).1 (hub (.inr rfl)).2)
      generalize hLi : (L ++ (List.range i).flatMap fun h : Nat => allS y z n (l ++ [(h : Int)])) = Li at c2 hTT hBi
      have hTi : TabR N uo' Li (b2 :: av) := hTT _ hT fun a ha => by
        rcases List.mem_cons.1 ha with rfl | ha
        · exact g2
        · exact hva a ha
      simp (disch := omega) only [f0, f1, f2, f3, f50, f51, c3.cell, ↓SXd, SXu, slBounds, ↓sop, ↓aop, ↓reduceIte, LV.cells, AOp.dst, LV.I, LV.B, LV.U, LV.S, LV.nil, Nat.reduceEqDiff, Nat.reduceAdd, Nat.reduceMul, Nat.reduceSub, Nat.reduceLeDiff, Nat.reduceBEq, Nat.reduceDiv, Nat.reduceMod, Int.reduceToNat, Int.reduceLT, Int.reduceLE, Int.reduceAdd, Int.reduceSub, Int.reduceMul, Int.reduceEq, Int.reduceNeg, reduceCtorEq, resV, resAll, ARes.ev, LV.flat, ite_true, ite_false, exists_eq_left', exists_eq_left, keyOf, implies_true, fillC, capOf]
      refine appendK_lst (a := (i : Int)) cv (by omega) fun v' N5 av' k1 k2 k3 k4 k5 => ?_
      have hn2 : ∀ q, q = b1 ∨ q = b2 ∨ q = b3 → q ∉ av := fun q hq => by
        rcases hq with h | h | h
        · exact (hub (.inl h)).2
        · rw [h]; exact hub2
        · exact (hub (.inr h)).2
      have d1 : Live N5 b1 _ := Live.at c1 (k4 b1 (hn2 _ (.inl rfl)) c1.lt)
      have d2 : Live N5 b2 _ := Live.at c2 (k4 b2 (hn2 _ (.inr (.inl rfl))) c2.lt)
      have d3 : Live N5 b3 _ := Live.at c3 (k4 b3 (hn2 _ (.inr (.inr rfl))) c3.lt)
      have hT5 : ∀ av2 : List Nat, TabR N uo' Li av2 → ∀ av3 : List Nat, (∀ q, q ∈ av3 → q ∈ (b2 :: av) ++ av2 ∨ N.length ≤ q) → TabR N5 uo' Li av3 := fun av2 h1 av3 h3 => (hTi.both h1).keep (fun q q1 q2 => k4 q (fun hm => q1 (by simp [hm])) q2) h3
      have hT5' : TabR N5 uo' Li (b2 :: av') := hT5 [] (hTi.keep (fun _ _ _ => rfl) (by simp)) _ fun q hq => by
        rcases List.mem_cons.1 hq with rfl | hq
        · exact .inl (by simp)
        · rcases k5 with ⟨rfl, _⟩ | ⟨rfl, _⟩
          · exact .inl (by simp [hq])
          · rw [List.mem_singleton.1 hq]; exact .inr (by omega)
      have hrec := g_stairs_1 hx hy hz hd n (l := l ++ [(i : Int)]) (v := v') (av := av') (L := Li) (uo := uo') (M := N5) (by simp; omega) hOi k3 d1 d2 d3 hT5' hBi
      have hv1 : v' = .ref (av'.getD 0 0) 0 (l.length + 1) := k2
      simp (disch := omega) only [f0, f1, f2, f3, f50, f51, ↓SXd, SXu, slBounds, ↓sop, ↓aop, ↓reduceIte, LV.cells, AOp.dst, LV.I, LV.B, LV.U, LV.S, LV.nil, Nat.reduceEqDiff, Nat.reduceAdd, Nat.reduceMul, Nat.reduceSub, Nat.reduceLeDiff, Nat.reduceBEq, Nat.reduceDiv, Nat.reduceMod, Int.reduceToNat, Int.reduceLT, Int.reduceLE, Int.reduceAdd, Int.reduceSub, Int.reduceMul, Int.reduceEq, Int.reduceNeg, reduceCtorEq, resV, resAll, ARes.ev, LV.flat, ite_true, ite_false, exists_eq_left', exists_eq_left, keyOf, implies_true, fillC, capOf]
      refine ⟨fun b hb => ?_, ?_⟩
      · rw [List.getElem?_append_left c3.lt] at hb
        rw [k4 b3 (hn2 _ (.inr (.inr rfl))) c3.lt]; exact hb
      refine callR_of hrec ?_
      rintro _ N6 ⟨uo2, rfl, r2, ru, rl, rfr, rv, rT⟩
      have hstep : (L ++ (List.range (i + 1)).flatMap fun h : Nat => allS y z n (l ++ [(h : Int)])) = Li ++ allS y z n (l ++ [(i : Int)]) := by rw [flat_succ, ← hLi, List.append_assoc]
      have huo : uo' ∉ av := by
        obtain ⟨_, _, _, h3, _⟩ := hTi
        exact fun hm => h3 (by simp [hm])
      simp (disch := omega) only [f0, f1, f2, f3, f50, f51, ↓SXd, SXu, slBounds, ↓sop, ↓aop, ↓reduceIte, LV.cells, AOp.dst, LV.I, LV.B, LV.U, LV.S, LV.nil, Nat.reduceEqDiff, Nat.reduceAdd, Nat.reduceMul, Nat.reduceSub, Nat.reduceLeDiff, Nat.reduceBEq, Nat.reduceDiv, Nat.reduceMod, Int.reduceToNat, Int.reduceLT, Int.reduceLE, Int.reduceAdd, Int.reduceSub, Int.reduceMul, Int.reduceEq, Int.reduceNeg, reduceCtorEq, resV, resAll, ARes.ev, LV.flat, ite_true, ite_false, exists_eq_left', exists_eq_left, keyOf, implies_true, fillC, capOf]
      refine ⟨m - 1, by omega, i + 1, uo2, by omega, by rw [hstep]; exact r2, by omega, by omega, fun q q1 q2 q3 q4 => ?_, ?_, fun av2 q1 q2 => ?_, f0, f1, f2, f3, f50, eqI (natI _)⟩
      · rw [rfr q (by omega) q2 (by omega) ?_, k4 q q4 (by omega), hfr q q1 q2 q3 q4]
        rcases k5 with ⟨rfl, _⟩ | ⟨rfl, _⟩
        · exact q4
        · simp; omega
      · rcases k5 with ⟨rfl, h0⟩ | ⟨rfl, h0⟩
        · exact cv.shrink rv h0
        · refine cv.keep fun q q1 q2 => ?_
          rw [rfr q (by omega) (fun e => hub2 (e ▸ q1)) (fun e => huo (e ▸ q1)) (by simp; omega), h0 q q2]
      · rw [hstep]
        exact rT av2 (hT5 av2 (hTT av2 q1 q2) av2 fun q hq => .inl (by simp [hq])) fun a ha => by have := q2 a ha; omega
    · have : i = (mostS y z l + 1).toNat := by omega
      subst this
      rw [← hall] at c2 hTT
      simp (disch := omega) only [f0, f1, f2, f3, f50, f51, ↓SXd, SXu, slBounds, ↓sop, ↓aop, ↓reduceIte, LV.cells, AOp.dst, LV.I, LV.B, LV.U, LV.S, LV.nil, Nat.reduceEqDiff, Nat.reduceAdd, Nat.reduceMul, Nat.reduceSub, Nat.reduceLeDiff, Nat.reduceBEq, Nat.reduceDiv, Nat.reduceMod, Int.reduceToNat, Int.reduceLT, Int.reduceLE, Int.reduceAdd, Int.reduceSub, Int.reduceMul, Int.reduceEq, Int.reduceNeg, reduceCtorEq, resV, resAll, ARes.ev, LV.flat, ite_true, ite_false, exists_eq_left', exists_eq_left, keyOf, implies_true, fillC, capOf]
      exact ⟨uo', rfl, c2, hu, hNl, hfr, cv, hTT⟩

/-- All staircases of a box. -/
noncomputable def stairsOf (x y z : Int) : List (List Int) := allS y.toNat z (x.toNat * y.toNat) []
theorem stairs_len {x y z : Int} (hS : Sides x y z) : (stairsOf x y z).length ≤ 1000000000000 := by
  obtain ⟨e1, e2, e3, h1, h2, h3⟩ := sidesN hS
  have hxy : x.toNat * y.toNat ≤ 4 * 4 := Nat.mul_le_mul h1.2 h2.2
  have hb := allS_len (y := y.toNat) (z := z) (by omega) (by omega) (n := x.toNat * y.toNat) (l := []) (by intro a ha; simp at ha)
  have hp5 : (5 : Nat) ^ (x.toNat * y.toNat) ≤ 5 ^ 16 := Nat.pow_le_pow_right (by omega) (by omega)
  have h516 : (5 : Nat) ^ 16 = 152587890625 := rfl
  unfold stairsOf
  omega
theorem g_stairs {x y z : Int} {M : Mem} : CallsR PG F.impl_box_stairs [.agg [.I x, .I y, .I z]] M fun v N => ((fewB x y z = true ∧ ∃ u, v = .tup [.ref u 0 (stairsOf x y z).length, .B true] ∧ M.length ≤ u ∧ TabR N u (stairsOf x y z) []) ∨ (fewB x y z = false ∧ v = .tup [.nil, .B false])) ∧ Pre M N := by
  refine callsR_run K.impl_box_stairs rfl ?_
  simp (disch := omega) only [C.impl_box_stairs, ↓SXd, SXu, slBounds, ↓sop, ↓aop, ↓reduceIte, LV.cells, AOp.dst, LV.I, LV.B, LV.U, LV.S, LV.nil, Nat.reduceEqDiff, Nat.reduceAdd, Nat.reduceMul, Nat.reduceSub, Nat.reduceLeDiff, Nat.reduceBEq, Nat.reduceDiv, Nat.reduceMod, Int.reduceToNat, Int.reduceLT, Int.reduceLE, Int.reduceAdd, Int.reduceSub, Int.reduceMul, Int.reduceEq, Int.reduceNeg, reduceCtorEq, resV, resAll, ARes.ev, LV.flat, ite_true, ite_false, exists_eq_left', exists_eq_left, keyOf, implies_true, fillC, capOf]
  refine callK_of (g_valid) ?_
  simp (disch := omega) only [↓SXd, SXu, slBounds, ↓sop, ↓aop, ↓reduceIte, LV.cells, AOp.dst, LV.I, LV.B, LV.U, LV.S, LV.nil, Nat.reduceEqDiff, Nat.reduceAdd, Nat.reduceMul, Nat.reduceSub, Nat.reduceLeDiff, Nat.reduceBEq, Nat.reduceDiv, Nat.reduceMod, Int.reduceToNat, Int.reduceLT, Int.reduceLE, Int.reduceAdd, Int.reduceSub, Int.reduceMul, Int.reduceEq, Int.reduceNeg, reduceCtorEq, resV, resAll, ARes.ev, LV.flat, ite_true, ite_false, exists_eq_left', exists_eq_left, keyOf, implies_true, fillC, capOf]
  by_cases hS : Sides x y z
  rotate_left
  · have hf : fewB x y z = false := by unfold fewB; rw [decide_eq_false hS, Bool.false_and]
    rw [decide_eq_false hS]
    simp (disch := omega) only [↓SXd, SXu, slBounds, ↓sop, ↓aop, ↓reduceIte, LV.cells, AOp.dst, LV.I, LV.B, LV.U, LV.S, LV.nil, Nat.reduceEqDiff, Nat.reduceAdd, Nat.reduceMul, Nat.reduceSub, Nat.reduceLeDiff, Nat.reduceBEq, Nat.reduceDiv, Nat.reduceMod, Int.reduceToNat, Int.reduceLT, Int.reduceLE, Int.reduceAdd, Int.reduceSub, Int.reduceMul, Int.reduceEq, Int.reduceNeg, reduceCtorEq, resV, resAll, ARes.ev, LV.flat, ite_true, ite_false, exists_eq_left', exists_eq_left, keyOf, implies_true, fillC, capOf]
    exact ⟨.inr ⟨hf, rfl⟩, Pre.app _ _⟩
  rw [decide_eq_true hS]
  simp (disch := omega) only [↓SXd, SXu, slBounds, ↓sop, ↓aop, ↓reduceIte, LV.cells, AOp.dst, LV.I, LV.B, LV.U, LV.S, LV.nil, Nat.reduceEqDiff, Nat.reduceAdd, Nat.reduceMul, Nat.reduceSub, Nat.reduceLeDiff, Nat.reduceBEq, Nat.reduceDiv, Nat.reduceMod, Int.reduceToNat, Int.reduceLT, Int.reduceLE, Int.reduceAdd, Int.reduceSub, Int.reduceMul, Int.reduceEq, Int.reduceNeg, reduceCtorEq, resV, resAll, ARes.ev, LV.flat, ite_true, ite_false, exists_eq_left', exists_eq_left, keyOf, implies_true, fillC, capOf]
  refine callK_of (g_count' hS) ?_
  simp (disch := omega) only [↓SXd, SXu, slBounds, ↓sop, ↓aop, ↓reduceIte, LV.cells, AOp.dst, LV.I, LV.B, LV.U, LV.S, LV.nil, Nat.reduceEqDiff, Nat.reduceAdd, Nat.reduceMul, Nat.reduceSub, Nat.reduceLeDiff, Nat.reduceBEq, Nat.reduceDiv, Nat.reduceMod, Int.reduceToNat, Int.reduceLT, Int.reduceLE, Int.reduceAdd, Int.reduceSub, Int.reduceMul, Int.reduceEq, Int.reduceNeg, reduceCtorEq, resV, resAll, ARes.ev, LV.flat, ite_true, ite_false, exists_eq_left', exists_eq_left, keyOf, implies_true, fillC, capOf]
  by_cases hc : cntSP x.toNat y.toNat z.toNat ≤ 1000
  rotate_left
  · have hc' : (1000 : Int) < (cntSP x.toNat y.toNat z.toNat : Nat) := by omega
    have hf : fewB x y z = false := by unfold fewB; rw [decide_eq_false hc, Bool.and_false]
    simp (disch := omega) only [hc', ↓SXd, SXu, slBounds, ↓sop, ↓aop, ↓reduceIte, LV.cells, AOp.dst, LV.I, LV.B, LV.U, LV.S, LV.nil, Nat.reduceEqDiff, Nat.reduceAdd, Nat.reduceMul, Nat.reduceSub, Nat.reduceLeDiff, Nat.reduceBEq, Nat.reduceDiv, Nat.reduceMod, Int.reduceToNat, Int.reduceLT, Int.reduceLE, Int.reduceAdd, Int.reduceSub, Int.reduceMul, Int.reduceEq, Int.reduceNeg, reduceCtorEq, resV, resAll, ARes.ev, LV.flat, ite_true, ite_false, exists_eq_left', exists_eq_left, keyOf, implies_true, fillC, capOf]
    exact ⟨.inr ⟨hf, rfl⟩, Pre.app _ _⟩
  have hc' : ¬ (1000 : Int) < (cntSP x.toNat y.toNat z.toNat : Nat) := by omega
  have hf : fewB x y z = true := by unfold fewB; rw [decide_eq_true hS, decide_eq_true hc]; rfl
  obtain ⟨e1, e2, e3, h1, h2, h3⟩ := sidesN hS
  have hlen := stairs_len hS
  simp (disch := omega) only [hc', splice, ↓SXd, SXu, slBounds, ↓sop, ↓aop, ↓reduceIte, LV.cells, AOp.dst, LV.I, LV.B, LV.U, LV.S, LV.nil, Nat.reduceEqDiff, Nat.reduceAdd, Nat.reduceMul, Nat.reduceSub, Nat.reduceLeDiff, Nat.reduceBEq, Nat.reduceDiv, Nat.reduceMod, Int.reduceToNat, Int.reduceLT, Int.reduceLE, Int.reduceAdd, Int.reduceSub, Int.reduceMul, Int.reduceEq, Int.reduceNeg, reduceCtorEq, resV, resAll, ARes.ev, LV.flat, ite_true, ite_false, exists_eq_left', exists_eq_left, keyOf, implies_true, fillC, capOf]
  have hrec := fun (b : Blk) (hb : b = .row [.I (x.toNat : Nat), .I (y.toNat : Nat), .I (z.toNat : Nat)] true 0) => g_stairs_1 h1 h2 h3 (b1 := M.length) (b2 := M.length + 2) (b3 := M.length + 3) (by omega) (x.toNat * y.toNat) (l := []) (v := .nil) (av := []) (L := []) (uo := M.length + 1)
    (M := M ++ [some b, some (.row [] true 1), some (.row [.ref (M.length + 1) 0 0] true 0), some (.row [.clo F.impl_box_stairs_1 [(M.length, 0), (M.length + 2, 0), (M.length + 3, 0)]] true 0)])
    (by simp) (fun a ha => by simp at ha) (.inl ⟨rfl, rfl, rfl⟩) (by subst hb; exact Live.new) (Live.newj (j := 2) rfl) (Live.newj (j := 3) rfl) (TabR.nil (Live.newj (j := 1) rfl) (by simp)) (by rw [List.length_nil, Nat.zero_add, e3]; exact hlen)
  replace hrec := hrec _ rfl
  rw [e1, e2, e3, show [] ++ allS y.toNat z (x.toNat * y.toNat) [] = stairsOf x y z from rfl] at hrec
  refine callR_of hrec ?_
  rintro _ N ⟨uo, rfl, r2, ru, rl, rfr, _, rT⟩
  have hT := rT [] (TabR.nil (Live.newj (j := 1) rfl) (by simp)) (by simp)
  simp only [List.length_append, List.length_cons, List.length_nil] at ru rl rfr
  simp (disch := omega) only [r2.cell, ↓SXd, SXu, slBounds, ↓sop, ↓aop, ↓reduceIte, LV.cells, AOp.dst, LV.I, LV.B, LV.U, LV.S, LV.nil, Nat.reduceEqDiff, Nat.reduceAdd, Nat.reduceMul, Nat.reduceSub, Nat.reduceLeDiff, Nat.reduceBEq, Nat.reduceDiv, Nat.reduceMod, Int.reduceToNat, Int.reduceLT, Int.reduceLE, Int.reduceAdd, Int.reduceSub, Int.reduceMul, Int.reduceEq, Int.reduceNeg, reduceCtorEq, resV, resAll, ARes.ev, LV.flat, ite_true, ite_false, exists_eq_left', exists_eq_left, keyOf, implies_true, fillC, capOf]
  exact ⟨.inl ⟨hf, uo, rfl, by omega, hT⟩, by omega, fun q hq => by rw [rfr q (by omega) (by omega) (by omega) (by simp), List.getElem?_append_left hq]⟩
end Go.Ab

/- The abstract code of some functions (written by a program of mine from the translation, by way of prepF). -/
namespace Go.Ab.C
open Go.Ab
end Go.Ab.C

/- That the program has this code. -/
namespace Go.Ab.K
open Go Go.Ab
end Go.Ab.K

/- Plain words: sinking. -/
namespace Go.Ab

def up (c : Cell) : Cell := ⟨c.a, c.b, c.c + 1⟩
def down (c : Cell) : Cell := ⟨c.a, c.b, c.c - 1⟩
noncomputable def hang (x y z : Int) (p : Cell → Bool) : Cell → Bool := fun c => p c && !stand x y z p c
noncomputable def sinkNext (x y z : Int) (p : Cell → Bool) : Cell → Bool := fun d => stand x y z p d || (decide ((up d).inBox x y z) && hang x y z p (up d))
/-- The first k cubes that hang have sunk. -/
noncomputable def sinkK (x y z : Int) (p : Cell → Bool) (k : Nat) : Cell → Bool := fun d => stand x y z p d || ((pick x y z (hang x y z p)).take k).any fun e => decide (d = down e)
noncomputable def sink (x y z : Int) : Nat → (Cell → Bool) → (Cell → Bool) × Nat
  | 0, p => (p, 0)
  | f + 1, p => if Firm x y z p then (p, 0) else ((sink x y z f (sinkNext x y z p)).1, (sink x y z f (sinkNext x y z p)).2 + 1)

def sumC (l : List Cell) : Nat := (l.map fun c => c.c.toNat).sum
section
variable {x y z : Int} (hS : Sides x y z)
include hS
end
end Go.Ab

/- Contracts: sinking, both sides. -/
namespace Go.Ab
open Go
set_option linter.unusedSimpArgs false
set_option linter.unusedVariables false

/-- What SinkHeap answers. -/
noncomputable def sinkOf (x y z : Int) (cs : List Cell) : Option Hp := by
  classical
  exact if HeapOK x y z cs then some ⟨x, y, z, pick x y z (sink x y z 1000 fun c => decide (c ∈ cs)).1⟩ else none
noncomputable def sinkTimes (x y z : Int) (cs : List Cell) : Int := by
  classical
  exact if HeapOK x y z cs then ((sink x y z 1000 fun c => decide (c ∈ cs)).2 : Nat) else 0
end Go.Ab

/- Plain: drops, views from above, what sinks; settled heaps. -/
namespace Go.Ab
open Go
set_option linter.unusedSimpArgs false
set_option linter.unusedVariables false
set_option maxRecDepth 20000

/-- How many cells of a set lie in a column. -/
def colN (x y z : Int) (j : Nat) (p : Cell → Bool) : Nat := (pick x y z fun c => p c && onLine y z 2 j c).length
theorem col_count {x y z : Int} {j : Nat} {p : Cell → Bool} : (pick x y z p).countP (onLine y z 2 j) = colN x y z j p := by
  unfold colN
  rw [← filter_pick p (onLine y z 2 j), List.countP_eq_length_filter]
theorem view_get {x y z : Int} {j : Nat} {p : Cell → Bool} (h : j < (x * y).toNat) : (viewL x y z 2 (pick x y z p)).getD j 0 = (colN x y z j p : Nat) := by
  rw [viewL_get (d := 2) (by exact h), col_count]
/-- Some cells of a set, each moved down by one. -/
def movD (x y z : Int) (H p : Cell → Bool) : Cell → Bool := fun d => (p d && !H d) || (decide ((up d).inBox x y z) && H (up d))
section
variable {x y z : Int} (hS : Sides x y z)
include hS
end
/-- The cells of a column, from the floor. -/
def colL (a b : Int) (n : Nat) : List Cell := (List.range n).map fun k : Nat => ⟨a, b, (k : Int)⟩
theorem colL_len {a b : Int} {n : Nat} : (colL a b n).length = n := by simp [colL]
theorem mem_colL {a b : Int} {n : Nat} {c : Cell} : c ∈ colL a b n ↔ c.a = a ∧ c.b = b ∧ 0 ≤ c.c ∧ c.c < n := by
  unfold colL
  rw [List.mem_map]
  constructor
  · rintro ⟨k, hk, rfl⟩
    rw [List.mem_range] at hk
    exact ⟨rfl, rfl, by simp only; omega, by simp only; omega⟩
  · rintro ⟨h1, h2, h3, h4⟩
    exact ⟨c.c.toNat, List.mem_range.2 (by omega), by rw [cell_eq]; exact ⟨h1.symm, h2.symm, by simp only; omega⟩⟩
theorem colL_nodup {a b : Int} {n : Nat} : (colL a b n).Nodup := by
  unfold colL
  refine List.Pairwise.map _ (fun i j hne h => hne ?_) List.nodup_range
  have : ((i : Nat) : Int) = j := congrArg Cell.c h
  omega
section
variable {x y z : Int} (hS : Sides x y z)
include hS
theorem line_cell {c d : Cell} (hc : c.inBox x y z) (hd : d.inBox x y z) : onLine y z 2 (d.a * y + d.b).toNat c = true ↔ c.a = d.a ∧ c.b = d.b := by
  obtain ⟨hx, hy, hz⟩ := hS
  obtain ⟨⟨_, _⟩, ⟨_, _⟩, ⟨_, _⟩⟩ := hc
  obtain ⟨⟨_, _⟩, ⟨_, _⟩, ⟨_, _⟩⟩ := hd
  unfold onLine lineOf
  rw [decide_eq_true_iff, if_neg (by omega), if_neg (by omega)]
  have e2 : y = 1 ∨ y = 2 ∨ y = 3 ∨ y = 4 := by omega
  rcases e2 with rfl | rfl | rfl | rfl <;> omega
theorem col_at {j : Nat} (hj : j < (x * y).toNat) : ∃ d : Cell, d.inBox x y z ∧ (d.a * y + d.b).toNat = j := by
  obtain ⟨hx, hy, hz⟩ := hS
  refine ⟨⟨(j : Int) / y, (j : Int) % y, 0⟩, ?_, ?_⟩
  · have e2 : y = 1 ∨ y = 2 ∨ y = 3 ∨ y = 4 := by omega
    have e1 : x = 1 ∨ x = 2 ∨ x = 3 ∨ x = 4 := by omega
    refine ⟨⟨?_, ?_⟩, ⟨?_, ?_⟩, ⟨?_, ?_⟩⟩ <;> simp only <;> rcases e1 with rfl | rfl | rfl | rfl <;> rcases e2 with rfl | rfl | rfl | rfl <;> omega
  · have e2 : y = 1 ∨ y = 2 ∨ y = 3 ∨ y = 4 := by omega
    rcases e2 with rfl | rfl | rfl | rfl <;> simp only <;> omega
theorem col_lt {d : Cell} (hd : d.inBox x y z) : (d.a * y + d.b).toNat < (x * y).toNat := by
  obtain ⟨hx, hy, hz⟩ := hS
  obtain ⟨⟨_, _⟩, ⟨_, _⟩, ⟨_, _⟩⟩ := hd
  have e2 : y = 1 ∨ y = 2 ∨ y = 3 ∨ y = 4 := by omega
  rcases e2 with rfl | rfl | rfl | rfl <;> omega
theorem col_le {j : Nat} {p : Cell → Bool} (hj : j < (x * y).toNat) : (colN x y z j p : Int) ≤ z := by
  obtain ⟨d, hd, rfl⟩ := col_at hS hj
  have := nodup_sub (l := pick x y z fun c => p c && onLine y z 2 (d.a * y + d.b).toNat c) (m := colL d.a d.b z.toNat) (pick_ok hS _).nodup fun c hc => by
    obtain ⟨h1, h2⟩ := (mem_pick hS).1 hc
    rw [Bool.and_eq_true] at h2
    obtain ⟨h3, h4⟩ := (line_cell hS h1 hd).1 h2.2
    have := h1.2.2
    exact mem_colL.2 ⟨h3, h4, this.1, by omega⟩
  rw [colL_len] at this
  unfold colN
  have hz := hS.2.2
  omega
/-- The height of the column of a cell, in a view. -/
theorem view_cell {p : Cell → Bool} {c : Cell} (hc : c.inBox x y z) : (viewL x y z 2 (pick x y z p)).getD (c.a * y + c.b).toNat 0 = (colN x y z (c.a * y + c.b).toNat p : Nat) := view_get (col_lt hS hc)
/-- All cells below a cell of the set are in it. -/
def Filled1 (x y z : Int) (p : Cell → Bool) : Prop := ∀ c, c.inBox x y z → p c = true → 0 < c.c → p (down c) = true
theorem down_in {c : Cell} (hc : c.inBox x y z) (h0 : 0 < c.c) : (down c).inBox x y z := by
  obtain ⟨q1, q2, q3⟩ := hc
  exact ⟨q1, q2, by unfold down; simp only; omega, by unfold down; simp only; omega⟩
theorem filled_all {p : Cell → Bool} (hF : Filled1 x y z p) : ∀ {n : Nat} {c : Cell}, c.inBox x y z → p c = true → c.c = n → ∀ {k : Int}, 0 ≤ k → k ≤ c.c → p ⟨c.a, c.b, k⟩ = true
  | 0, c, hc, hp, hn, k, h0, h1 => by
    rw [show k = c.c by omega]; exact hp
  | n + 1, c, hc, hp, hn, k, h0, h1 => by
    by_cases e : k = c.c
    · rw [e]; exact hp
    have := filled_all hF (n := n) (down_in hS hc (by omega)) (hF c hc hp (by omega)) (by unfold down; simp only; omega) (k := k) h0 (by unfold down; simp only; omega)
    exact this
theorem filled_stack {p : Cell → Bool} (hF : Filled1 x y z p) {c : Cell} (hc : c.inBox x y z) : stackP y (viewL x y z 2 (pick x y z p)) c = p c := by
  rw [Bool.eq_iff_iff]
  unfold stackP
  rw [decide_eq_true_iff, view_cell hS hc]
  have h0 := hc.2.2.1
  constructor
  · intro h
    apply Classical.byContradiction
    intro hp
    have := nodup_sub (l := pick x y z fun e => p e && onLine y z 2 (c.a * y + c.b).toNat e) (m := colL c.a c.b c.c.toNat) (pick_ok hS _).nodup fun e he => by
      obtain ⟨h1, h2⟩ := (mem_pick hS).1 he
      rw [Bool.and_eq_true] at h2
      obtain ⟨h3, h4⟩ := (line_cell hS h1 hc).1 h2.2
      refine mem_colL.2 ⟨h3, h4, h1.2.2.1, ?_⟩
      apply Classical.byContradiction
      intro hlt
      have := filled_all hS hF (n := e.c.toNat) h1 h2.1 (by have := h1.2.2.1; omega) (k := c.c) h0 (by omega)
      rw [h3, h4] at this
      exact hp this
    rw [colL_len] at this
    unfold colN at h
    omega
  · intro hp
    have := nodup_sub (l := colL c.a c.b (c.c.toNat + 1)) (m := pick x y z fun e => p e && onLine y z 2 (c.a * y + c.b).toNat e) colL_nodup fun e he => by
      obtain ⟨h1, h2, h3, h4⟩ := mem_colL.1 he
      have hpe := filled_all hS hF (n := c.c.toNat) hc hp (by omega) (k := e.c) h3 (by omega)
      rw [show (⟨c.a, c.b, e.c⟩ : Cell) = e by rw [cell_eq]; exact ⟨h1.symm, h2.symm, rfl⟩] at hpe
      have hin : e.inBox x y z := by
        obtain ⟨q1, q2, q3⟩ := hc
        rw [← h1] at q1
        rw [← h2] at q2
        exact ⟨q1, q2, h3, by omega⟩
      exact (mem_pick hS).2 ⟨hin, by rw [Bool.and_eq_true]; exact ⟨hpe, (line_cell hS hin hc).2 ⟨h1, h2⟩⟩⟩
    rw [colL_len] at this
    unfold colN
    omega
/-- A cell with nothing below. -/
def looseP (p : Cell → Bool) (c : Cell) : Bool := decide (0 < c.c) && !p (down c)
end
end Go.Ab

/- The abstract code of some functions (written by a program of mine from the translation, by way of prepF). -/
namespace Go.Ab.C
open Go.Ab
end Go.Ab.C

/- That the program has this code. -/
namespace Go.Ab.K
open Go Go.Ab
end Go.Ab.K

/- The abstract code of some functions (written by a program of mine from the translation, by way of prepF). -/
namespace Go.Ab.C
open Go.Ab
def impl_box_stack : AFn :=
 ⟨2, 8, [.tmp 4],
 .seq (.ops [(none, .box 2 (.t 0)),
 (none, .box 3 (.t 1)),
 (none, .mv 4 (.c (.U 0)))])
 (.seq (.ops [(none, .loadN 5 3 (.t 2)),
 (none, .mkf 6 F.impl_box_stack_1 [(.t 3), (.t 2)]),
 (none, .call (some 7) F.impl_box_those [(.t 5), (.t 6)]),
 (none, .mv 4 (.t 7))])
 (.ret))⟩
def impl_box_stack_1 : AFn :=
 ⟨3, 14, [.tmp 4],
 .seq (.ops [(none, .box 3 (.t 0)),
 (none, .mv 4 (.c (.B false)))])
 (.seq (.draw [⟨(none, .idxA 5 3 1 (.t 3) (.c (.I 2))), [], []⟩,
 ⟨(none, .load1 6 (.t 5)), [], []⟩,
 ⟨(none, .load1 7 (.t 1)), [], []⟩,
 ⟨(none, .loadN 8 3 (.t 2)), [], []⟩,
 ⟨(none, .loadN 9 3 (.t 3)), [], []⟩,
 ⟨(none, .call (some 10) F.impl_box_line [(.t 8), (.t 9), (.c (.I 2))]), [], [0, 1, 2]⟩,
 ⟨(none, .idxS 11 1 (.t 7) (.t 10)), [], []⟩,
 ⟨(none, .load1 12 (.t 11)), [], []⟩,
 ⟨(none, .bin 13 .lss (.t 6) (.t 12)), [], []⟩,
 ⟨(none, .mv 4 (.t 13)), [], []⟩])
 (.ret))⟩
end Go.Ab.C

/- That the program has this code. -/
namespace Go.Ab.K
open Go Go.Ab
theorem impl_box_stack : prepF Go.Proofs.Try.prog F.impl_box_stack = some C.impl_box_stack := by kernel_rfl
theorem impl_box_stack_1 : prepF Go.Proofs.Try.prog F.impl_box_stack_1 = some C.impl_box_stack_1 := by kernel_rfl
end Go.Ab.K

/- The abstract code of some functions (written by a program of mine from the translation, by way of prepF). -/
namespace Go.Ab.C
open Go.Ab
end Go.Ab.C

/- That the program has this code. -/
namespace Go.Ab.K
open Go Go.Ab
end Go.Ab.K

/- The abstract code of some functions (written by a program of mine from the translation, by way of prepF). -/
namespace Go.Ab.C
open Go.Ab
end Go.Ab.C

/- That the program has this code. -/
namespace Go.Ab.K
open Go Go.Ab
end Go.Ab.K

/- The abstract code of some functions (written by a program of mine from the translation, by way of prepF). -/
namespace Go.Ab.C
open Go.Ab
end Go.Ab.C

/- That the program has this code. -/
namespace Go.Ab.K
open Go Go.Ab
end Go.Ab.K

/- Contracts: the program's positions and forms. -/
namespace Go.Ab
open Go
set_option linter.unusedSimpArgs false
set_option linter.unusedVariables false

/-- Heaps, as the elements of a slice; each with the block of its cells. -/
def hrow (p : Nat × Hp) : List LV := [.I p.2.x, .I p.2.y, .I p.2.z, .ref p.1 0 p.2.cs.length]
def hpL (l : List (Nat × Hp)) : List LV := l.flatMap hrow
theorem hpL_len (l : List (Nat × Hp)) : (hpL l).length = l.length * 4 := by
  induction l with
  | nil => rfl
  | cons t l ih => rw [show hpL (t :: l) = hrow t ++ hpL l from rfl, List.length_append, ih, List.length_cons]; simp [hrow]; omega
theorem hpL_at {l : List (Nat × Hp)} : ∀ {k : Nat}, (hk : k < l.length) → ((hpL l).drop (k * 4)).take 4 = hrow l[k] := by
  induction l with
  | nil => intro k hk; simp at hk
  | cons t l ih =>
    intro k hk
    have e : hpL (t :: l) = hrow t ++ hpL l := rfl
    have hr : (hrow t).length = 4 := rfl
    cases k with
    | zero => rw [e, Nat.zero_mul, List.drop_zero, List.take_append_of_le_length (by omega), List.take_of_length_le (by omega)]; rfl
    | succ k =>
      rw [e, List.drop_append, List.drop_eq_nil_of_le (by omega), List.nil_append, hr, show (k + 1) * 4 - 4 = k * 4 by omega, ih (by simpa using hk)]
      rfl
theorem Live.hp {N : Mem} {t k e : Nat} {w : Bool} {l : List (Nat × Hp)} (h : Live N t (.row (hpL l) w e)) (hk : k < l.length) : getCells N t (k * 4) 4 = some (hrow l[k]) := by
  rw [h.cells, if_pos (by rw [hpL_len]; omega), hpL_at hk]
/-- All these heaps' cells are there, behind M. -/
def HpsOK (M N : Mem) (l : List (Nat × Hp)) : Prop := ∀ p ∈ l, Live N p.1 (.row (triL p.2.cs) true 3) ∧ M.length ≤ p.1 ∧ p.2.cs.length ≤ 64
theorem HpsOK.pre {M N N' : Mem} {l : List (Nat × Hp)} (h : HpsOK M N l) (hp : Pre N N') : HpsOK M N' l := fun p hpl => ⟨(h p hpl).1.pre hp, (h p hpl).2⟩

def bestP (b : Nat × Hp) (l : List (Nat × Hp)) : Nat × Hp := l.foldl (fun b n => if lessHp n.2 b.2 then n else b) b
/-- A form as a value: its cells are in a block behind M. -/
def FormRes (M : Mem) (f : Hp) (v : LV) (N : Mem) : Prop := ∃ u : Nat, v = .agg [.I f.x, .I f.y, .I f.z, .ref u 0 f.cs.length] ∧ M.length ≤ u ∧ Live N u (.row (triL f.cs) true 3) ∧ Pre M N
end Go.Ab

/- Contracts: the program's statements on forms. -/
namespace Go.Ab
open Go
set_option linter.unusedSimpArgs false
set_option linter.unusedVariables false

end Go.Ab

/- Contracts: the program's mirrored heaps; IsHanded. -/
namespace Go.Ab
open Go
set_option linter.unusedSimpArgs false
set_option linter.unusedVariables false

end Go.Ab

/- The abstract code of some functions (written by a program of mine from the translation, by way of prepF). -/
namespace Go.Ab.C
open Go.Ab
end Go.Ab.C

/- That the program has this code. -/
namespace Go.Ab.K
open Go Go.Ab
end Go.Ab.K

/- The code of ViewOf. -/
namespace Go.Ab
end Go.Ab

/- The abstract code of some functions (written by a program of mine from the translation, by way of prepF). -/
namespace Go.Ab.C
open Go.Ab
end Go.Ab.C

/- That the program has this code. -/
namespace Go.Ab.K
open Go Go.Ab
end Go.Ab.K

/- The abstract code of some functions (written by a program of mine from the translation, by way of prepF). -/
namespace Go.Ab.C
open Go.Ab
end Go.Ab.C

/- That the program has this code. -/
namespace Go.Ab.K
open Go Go.Ab
end Go.Ab.K

/- Contracts: whether two heaps are the same, the reference's side. -/
namespace Go.Ab
open Go
set_option linter.unusedSimpArgs false
set_option linter.unusedVariables false
set_option maxRecDepth 20000

end Go.Ab

/- The abstract code of some functions (written by a program of mine from the translation, by way of prepF). -/
namespace Go.Ab.C
open Go.Ab
end Go.Ab.C

/- That the program has this code. -/
namespace Go.Ab.K
open Go Go.Ab
end Go.Ab.K

/- Contracts: the reference's mirrored, other, cropped, widened and shifted heaps. -/
namespace Go.Ab
open Go
set_option linter.unusedSimpArgs false
set_option linter.unusedVariables false
set_option maxRecDepth 20000

section
variable {x y z : Int} {t : Nat} {w : Bool} {cs : List Cell} {M : Mem} (h : Live M t (.row (triL cs) w 3)) (hn : cs.length ≤ 1000000000)
include h hn
end
end Go.Ab

/- Contracts: the reference's drops, sums, standing and hanging cubes. -/
namespace Go.Ab
open Go
set_option linter.unusedSimpArgs false
set_option linter.unusedVariables false
set_option maxRecDepth 20000

/-- The cells behind the drop. -/
def drpX (x y z : Int) (cs : List Cell) : List Cell := pick x y z (stackP y (viewL x y z 2 cs))
def inP (cs : List Cell) : Cell → Bool := fun c => decide (c ∈ cs)
noncomputable def stdL (x y z : Int) (cs : List Cell) : List Cell := pick x y z (stand x y z (inP cs))
noncomputable def hngL (x y z : Int) (cs : List Cell) : List Cell := pick x y z (hang x y z (inP cs))
def lsN (cs : List Cell) : Nat := (cs.filter (looseP (inP cs))).length
section
variable (x y z : Int) (cs : List Cell)
noncomputable def drpOf : Option Hp := by
  classical
  exact if HeapOK x y z cs then some ⟨x, y, z, drpX x y z cs⟩ else none
noncomputable def fsOf : Option Int := by
  classical
  exact if HeapOK x y z cs then some ((sumC cs : Int) - sumC (drpX x y z cs)) else none
noncomputable def stdOf : Option (List Cell) := by
  classical
  exact if HeapOK x y z cs then some (stdL x y z cs) else none
noncomputable def hngOf : Option (List Cell) := by
  classical
  exact if HeapOK x y z cs then some (hngL x y z cs) else none
noncomputable def lbOf : Option Int := by
  classical
  exact if HeapOK x y z cs then some (lsN cs : Nat) else none
noncomputable def setOf : Option Bool := by
  classical
  exact if HeapOK x y z cs then some (decide (drpX x y z cs = cs)) else none
end
/-- A list of cells, or none and false; it lies in a block of its own. -/
def CellsX (M : Mem) (r : Option (List Cell)) (v : LV) (N : Mem) : Prop := ∃ u : Nat, v = .tup [.ref u 0 (r.getD []).length, .B r.isSome] ∧ Live N u (.row (triL (r.getD [])) true 3) ∧ Pre M N
theorem view_bound {x y z : Int} {cs : List Cell} (hH : HeapOK x y z cs) : ((viewL x y z 2 cs).length : Int) = x * y := by
  rw [viewL_len]
  have := vol_bound hH.1
  show ((x * y).toNat : Int) = x * y
  omega
section
variable {x y z : Int} {t : Nat} {w : Bool} {cs : List Cell} {M : Mem} (h : Live M t (.row (triL cs) w 3))
include h
end
section
variable {x y z : Int} {t : Nat} {w : Bool} {cs : List Cell} {M : Mem} (h : Live M t (.row (triL cs) w 3))
include h
end
end Go.Ab

/- The abstract code of some functions (written by a program of mine from the translation, by way of prepF). -/
namespace Go.Ab.C
open Go.Ab
end Go.Ab.C

/- That the program has this code. -/
namespace Go.Ab.K
open Go Go.Ab
end Go.Ab.K

/- Contracts: parts of sets, lists of sets; the program's CavitiesOf. -/
namespace Go.Ab
open Go
set_option linter.unusedSimpArgs false
set_option linter.unusedVariables false

/-- Sets, as the elements of a slice. -/
def setL (x y z : Int) (L : List (List Cell)) : List LV := L.map fun l => .W (bs x y z fun d => decide (d ∈ l))
section
variable {x y z : Int} (hS : Sides x y z)
include hS
end

noncomputable def cavOf (x y z : Int) (cs : List Cell) : Option (List (List Cell)) := by
  classical
  exact if HeapOK x y z cs then some (parts x y z 65 (closed x y z fun c => decide (c ∈ cs))) else none
end Go.Ab

/- Contracts: the program's drops, sums, standing and hanging cubes, views and parts. -/
namespace Go.Ab
open Go
set_option linter.unusedSimpArgs false
set_option linter.unusedVariables false
set_option maxRecDepth 20000

theorem g_stack_1 {x y z : Int} {c : Cell} {u q t2 t3 : Nat} {hs : List Int} {M : Mem} (hS : Sides x y z) (hc : c.inBox x y z) (hX : Ints M u q hs) (hl : (hs.length : Int) = x * y) (h3 : Live M t3 (.row [.ref u q hs.length] true 0)) (h2 : Live M t2 (.row [.I x, .I y, .I z] true 0)) :
    CallsTo PG F.impl_box_stack_1 ([.agg [.I c.a, .I c.b, .I c.c]] ++ [(t3, 0), (t2, 0)].map fun p => .ptr p.1 p.2) M (.B (stackP y hs c)) M := by
  have l2 := h2.lt
  have l3 := h3.lt
  obtain ⟨g1, g2⟩ := lineOf_in (d := 2) hS hc (by omega)
  have e1 : lineOf y z c 2 = c.a * y + c.b := rfl
  have e2 : linesOf x y z 2 = x * y := rfl
  rw [e1] at g1 g2
  rw [e2] at g2
  have hg := Ints.get hX (k := (c.a * y + c.b).toNat) (by omega)
  refine calls_run K.impl_box_stack_1 rfl ?_
  simp (disch := omega) only [C.impl_box_stack_1, List.map_cons, List.map_nil, h3.app.cell, h2.app.cells, ↓SXd, SXu, slBounds, ↓sop, ↓aop, ↓reduceIte, LV.cells, AOp.dst, LV.I, LV.B, LV.U, LV.S, LV.nil, Nat.reduceEqDiff, Nat.reduceAdd, Nat.reduceMul, Nat.reduceSub, Nat.reduceLeDiff, Nat.reduceBEq, Nat.reduceDiv, Nat.reduceMod, Int.reduceToNat, Int.reduceLT, Int.reduceLE, Int.reduceAdd, Int.reduceSub, Int.reduceMul, Int.reduceEq, Int.reduceNeg, reduceCtorEq, resV, resAll, ARes.ev, LV.flat, ite_true, ite_false, exists_eq_left', exists_eq_left, keyOf, implies_true, fillC, capOf]
  refine callK_of (g_line (d := 2) hS hc (by omega)) ?_
  simp (disch := omega) only [e1, (getCell_app hX.lt), hg, Nat.mul_one, ↓SXd, SXu, slBounds, ↓sop, ↓aop, ↓reduceIte, LV.cells, AOp.dst, LV.I, LV.B, LV.U, LV.S, LV.nil, Nat.reduceEqDiff, Nat.reduceAdd, Nat.reduceMul, Nat.reduceSub, Nat.reduceLeDiff, Nat.reduceBEq, Nat.reduceDiv, Nat.reduceMod, Int.reduceToNat, Int.reduceLT, Int.reduceLE, Int.reduceAdd, Int.reduceSub, Int.reduceMul, Int.reduceEq, Int.reduceNeg, reduceCtorEq, resV, resAll, ARes.ev, LV.flat, ite_true, ite_false, exists_eq_left', exists_eq_left, keyOf, implies_true, fillC, capOf]
  exact cmp_drop rfl
theorem g_stack {x y z : Int} {u q : Nat} {hs : List Int} {M : Mem} (hS : Sides x y z) (hX : Ints M u q hs) (hl : (hs.length : Int) = x * y) :
    CallsTo PG F.impl_box_stack [.agg [.I x, .I y, .I z], .ref u q hs.length] M (.W (bs x y z (stackP y hs))) M := by
  refine calls_run K.impl_box_stack rfl ?_
  simp (disch := omega) only [C.impl_box_stack, ↓SXd, SXu, slBounds, ↓sop, ↓aop, ↓reduceIte, LV.cells, AOp.dst, LV.I, LV.B, LV.U, LV.S, LV.nil, Nat.reduceEqDiff, Nat.reduceAdd, Nat.reduceMul, Nat.reduceSub, Nat.reduceLeDiff, Nat.reduceBEq, Nat.reduceDiv, Nat.reduceMod, Int.reduceToNat, Int.reduceLT, Int.reduceLE, Int.reduceAdd, Int.reduceSub, Int.reduceMul, Int.reduceEq, Int.reduceNeg, reduceCtorEq, resV, resAll, ARes.ev, LV.flat, ite_true, ite_false, exists_eq_left', exists_eq_left, keyOf, implies_true, fillC, capOf]
  refine callK_of (g_those hS (p := stackP y hs) fun M' hp i hi => ?_) ?_
  · have hv := vol_cast hS
    exact g_stack_1 hS (cellAt_in hS (by omega) (by omega)).1 ((Has.app hX).pre hp) hl ((Live.newj (j := 1) rfl).pre hp) ((Live.newj (j := 0) rfl).pre hp)
  simp (disch := omega) only [↓SXd, SXu, slBounds, ↓sop, ↓aop, ↓reduceIte, LV.cells, AOp.dst, LV.I, LV.B, LV.U, LV.S, LV.nil, Nat.reduceEqDiff, Nat.reduceAdd, Nat.reduceMul, Nat.reduceSub, Nat.reduceLeDiff, Nat.reduceBEq, Nat.reduceDiv, Nat.reduceMod, Int.reduceToNat, Int.reduceLT, Int.reduceLE, Int.reduceAdd, Int.reduceSub, Int.reduceMul, Int.reduceEq, Int.reduceNeg, reduceCtorEq, resV, resAll, ARes.ev, LV.flat, ite_true, ite_false, exists_eq_left', exists_eq_left, keyOf, implies_true, fillC, capOf]
  exact cmp_drop rfl
section
variable {x y z : Int} {t : Nat} {w : Bool} {cs : List Cell} {M : Mem} (h : Live M t (.row (triL cs) w 3))
include h
end
end Go.Ab

/- The abstract code of some functions (written by a program of mine from the translation, by way of prepF). -/
namespace Go.Ab.C
open Go.Ab
end Go.Ab.C

/- That the program has this code. -/
namespace Go.Ab.K
open Go Go.Ab
end Go.Ab.K

/- Contracts: what the law of heaps' forms draws. -/
namespace Go.Ab
open Go
set_option linter.unusedSimpArgs false
set_option linter.unusedVariables false
set_option maxRecDepth 20000

section
variable {t o : Nat} {bs : List Nat} {M : Mem} (hB : Bytes M t o bs) (h255 : ∀ b ∈ bs, b ≤ 255) (hl : bs.length ≤ 1000000000)
include hB h255 hl
end
end Go.Ab

/- Contracts: heaps of stacks, both sides; draws of layers and stacks. -/
namespace Go.Ab
open Go
set_option linter.unusedSimpArgs false
set_option linter.unusedVariables false
set_option maxRecDepth 20000

def StkOK (x y z : Int) (hs : List Int) : Prop := Sides x y z ∧ (hs.length : Int) = x * y ∧ ∀ k, k < hs.length → 0 ≤ hs.getD k 0 ∧ hs.getD k 0 ≤ z
noncomputable instance (x y z : Int) (hs : List Int) : Decidable (StkOK x y z hs) := Classical.propDecidable _
noncomputable def stkOf (x y z : Int) (hs : List Int) : Option Hp := if StkOK x y z hs then some ⟨x, y, z, pick x y z (stackP y hs)⟩ else none
section
variable {x y z : Int} {u : Nat} {hs : List Int} {M : Mem} (h : Ints M u 0 hs) (hn : hs.length ≤ 1000)
include h hn
end
section
variable {p t o a : Nat} {bs : List Nat} {M : Mem}
end
section
variable {t o : Nat} {bs : List Nat} {M : Mem} (hB : Bytes M t o bs) (h255 : ∀ b ∈ bs, b ≤ 255) (hl : bs.length ≤ 1000000000)
include hB h255 hl
end
end Go.Ab

/- The abstract code of some functions (written by a program of mine from the translation, by way of prepF). -/
namespace Go.Ab.C
open Go.Ab
end Go.Ab.C

/- That the program has this code. -/
namespace Go.Ab.K
open Go Go.Ab
end Go.Ab.K

/- The abstract code of some functions (written by a program of mine from the translation, by way of prepF). -/
namespace Go.Ab.C
open Go.Ab
end Go.Ab.C

/- That the program has this code. -/
namespace Go.Ab.K
open Go Go.Ab
end Go.Ab.K

/- The abstract code of some functions (written by a program of mine from the translation, by way of prepF). -/
namespace Go.Ab.C
open Go.Ab
end Go.Ab.C

/- That the program has this code. -/
namespace Go.Ab.K
open Go Go.Ab
end Go.Ab.K

/- The abstract code of some functions (written by a program of mine from the translation, by way of prepF). -/
namespace Go.Ab.C
open Go.Ab
end Go.Ab.C

/- That the program has this code. -/
namespace Go.Ab.K
open Go Go.Ab
end Go.Ab.K

/- Plain words: bare faces; they stay when a heap is turned. -/
namespace Go.Ab
open Go
set_option linter.unusedVariables false
set_option linter.unusedSimpArgs false
set_option maxRecDepth 20000

/-- The cell beyond a face. -/
def nbC (c : Cell) (f : Nat) : Cell := ⟨c.a + if f = 0 then -1 else if f = 1 then 1 else 0, c.b + if f = 2 then -1 else if f = 3 then 1 else 0, c.c + if f = 4 then -1 else if f = 5 then 1 else 0⟩
def bareN (S : List Cell) (c : Cell) : Nat := (List.range 6).countP fun f => decide (nbC c f ∉ S)
/-- The bare faces of one kind. -/
def faceN (cs : List Cell) (f : Nat) : Nat := cs.countP fun c => decide (nbC c f ∉ cs)
def surfN (cs : List Cell) : Nat := ((List.range 6).map (faceN cs)).sum
/-- The face of a cell that a turn brings to a face. -/
def sigT (T : Turn) (f : Nat) : Nat := (T.fr.at (f / 2 : Nat)).toNat * 2 + (xorI ((f % 2 : Nat) : Int) (T.fl.at (f / 2 : Nat))).toNat
end Go.Ab

/- The abstract code of some functions (written by a program of mine from the translation, by way of prepF). -/
namespace Go.Ab.C
open Go.Ab
end Go.Ab.C

/- That the program has this code. -/
namespace Go.Ab.K
open Go Go.Ab
end Go.Ab.K

/- Contracts: cells that must be, the reference's side; MustCells and SpareCells, both sides. -/
namespace Go.Ab
open Go
set_option linter.unusedSimpArgs false
set_option linter.unusedVariables false
set_option maxRecDepth 20000

/-- Of the allowed cells those that must be (sp false), or the others. -/
def shdPart (x y z : Int) (tp fr sd : List Int) (sp : Bool) : List Cell := (pick x y z (allowedB y z tp fr sd)).filter fun c => aloneK y z (pick x y z (allowedB y z tp fr sd)) 3 c != sp
section
variable {x y z : Int} {t o t' o' t2 o2 : Nat} {tp fr sd : List Int} {M : Mem} (h1 : Ints M t o tp) (h2 : Ints M t' o' fr) (h3 : Ints M t2 o2 sd)
include h1 h2 h3
end
end Go.Ab

/- Contracts: MustCells and SpareCells, both sides. -/
namespace Go.Ab
open Go
set_option linter.unusedSimpArgs false
set_option linter.unusedVariables false
set_option maxRecDepth 20000

/-- A valid shadow whose lists fit together. -/
def Fits (x y z : Int) (tp fr sd : List Int) : Prop := ShdOK x y z tp fr sd ∧ HasShd x y z tp fr sd (pick x y z (allowedB y z tp fr sd))
instance (x y z : Int) (tp fr sd : List Int) : Decidable (Fits x y z tp fr sd) := by unfold Fits; exact inferInstance
def partOf (x y z : Int) (tp fr sd : List Int) (sp : Bool) : Option (List Cell) := if Fits x y z tp fr sd then some (shdPart x y z tp fr sd sp) else none
section
variable {x y z : Int} {t o t' o' t2 o2 : Nat} {tp fr sd : List Int} {M : Mem} (h1 : Ints M t o tp) (h2 : Ints M t' o' fr) (h3 : Ints M t2 o2 sd) (l1 : tp.length ≤ 1000000000) (l2 : fr.length ≤ 1000000000) (l3 : sd.length ≤ 1000000000)
include h1 h2 h3 l1 l2 l3
end
end Go.Ab

/- Plain: what the law of shadows says. -/
namespace Go.Ab
open Go
set_option linter.unusedSimpArgs false
set_option linter.unusedVariables false
set_option maxRecDepth 20000

theorem int_ext {l l' : List Int} (hl : l.length = l'.length) (h : ∀ j, j < l.length → l.getD j 0 = l'.getD j 0) : l = l' := by
  apply List.ext_getElem hl
  intro i h2 h3
  have := h i h2
  simpa [h2, h3] using this
section
variable {x y z : Int} {tp fr sd : List Int} (hok : ShdOK x y z tp fr sd)
include hok
end
/-- The number of lit lines. -/
def litSum : List Int → Int
  | [] => 0
  | a :: l => a + litSum l
end Go.Ab

/- Plain: faces of heaps, of filled heaps, and shadows. -/
namespace Go.Ab
open Go
set_option linter.unusedSimpArgs false
set_option linter.unusedVariables false
set_option maxRecDepth 20000

def oppF (f : Nat) : Nat := if f % 2 = 0 then f + 1 else f - 1
theorem six {f : Nat} (hf : f < 6) : f = 0 ∨ f = 1 ∨ f = 2 ∨ f = 3 ∨ f = 4 ∨ f = 5 := by omega
def nearN (cs : List Cell) (c : Cell) : Nat := (List.range 6).countP fun f => decide (nbC c f ∈ cs)
def nearSum (cs : List Cell) : Nat := (cs.map (nearN cs)).sum
section
variable {x y z : Int} {cs : List Cell} (hH : HeapOK x y z cs)
/-- All cells of the heap or enclosed. -/
noncomputable def filL (x y z : Int) (cs : List Cell) : List Cell := pick x y z fun c => decide (c ∈ cs) || closed x y z (fun c => decide (c ∈ cs)) c
include hH
omit hH in
end
end Go.Ab

/- Contracts: the reference's bare and outside faces. -/
namespace Go.Ab
open Go
set_option linter.unusedSimpArgs false
set_option linter.unusedVariables false
set_option maxRecDepth 20000

/-- Counters of six kinds, behind some cells and some faces of the next one. -/
def cntQ (p : Cell → Nat → Bool) (cs : List Cell) (i d f : Nat) : Nat := (cs.take i).countP (fun c => p c f) + if f < d ∧ p (cs.getD i default) f = true then 1 else 0
def rowQ (p : Cell → Nat → Bool) (cs : List Cell) (i d : Nat) : List LV := (List.range 6).map fun (f : Nat) => LV.I ((cntQ p cs i d f : Nat) : Int)
section
variable {p : Cell → Nat → Bool} {cs : List Cell} {i d f : Nat}
end
/-- A face beyond which there is neither a cube nor a hidden cell. -/
def bareP (cs es : List Cell) (c : Cell) (f : Nat) : Bool := decide (nbC c f ∉ cs) && decide (nbC c f ∉ es)
def bareC (cs es : List Cell) (f : Nat) : Nat := cs.countP fun c => bareP cs es c f
section
variable {x y z : Int} {t : Nat} {w : Bool} {cs : List Cell} {M : Mem} (h : Live M t (.row (triL cs) w 3)) (hn : cs.length ≤ 1000000000)
include h hn
def faceV (cs : List Cell) : List LV := [.I (faceN cs 0 : Nat), .I (faceN cs 1 : Nat), .I (faceN cs 2 : Nat), .I (faceN cs 3 : Nat), .I (faceN cs 4 : Nat), .I (faceN cs 5 : Nat)]
end
end Go.Ab

/- The abstract code of some functions (written by a program of mine from the translation, by way of prepF). -/
namespace Go.Ab.C
open Go.Ab
end Go.Ab.C

/- That the program has this code. -/
namespace Go.Ab.K
open Go Go.Ab
end Go.Ab.K

/- Contracts: the program's bare faces and surface. -/
namespace Go.Ab
open Go
set_option linter.unusedSimpArgs false
set_option linter.unusedVariables false
set_option maxRecDepth 20000

def cntR (cs : List Cell) (i d f : Nat) : Nat := (cs.take i).countP (fun c => decide (nbC c f ∉ cs)) + if f < d ∧ nbC (cs.getD i default) f ∉ cs then 1 else 0
def rowF (cs : List Cell) (i d : Nat) : List LV := (List.range 6).map fun (f : Nat) => LV.I ((cntR cs i d f : Nat) : Int)
/-- What SurfaceOf answers. -/
noncomputable def surfOf (x y z : Int) (cs : List Cell) : Option Nat := by
  classical
  exact if HeapOK x y z cs then some (surfN cs) else none
end Go.Ab

/- The abstract code of some functions (written by a program of mine from the translation, by way of prepF). -/
namespace Go.Ab.C
open Go.Ab
end Go.Ab.C

/- That the program has this code. -/
namespace Go.Ab.K
open Go Go.Ab
end Go.Ab.K

/- Contracts: the reference's FillCavities. -/
namespace Go.Ab
open Go
set_option linter.unusedSimpArgs false
set_option linter.unusedVariables false

end Go.Ab

/- Contracts: touching faces, both sides; the program's bare and outside faces. -/
namespace Go.Ab
open Go
set_option linter.unusedSimpArgs false
set_option linter.unusedVariables false
set_option maxRecDepth 20000

/-- What the first cells have. -/
def sumK (f : Cell → Nat) (cs : List Cell) (k : Nat) : Nat := ((cs.take k).map f).sum
section
variable {x y z : Int} {t : Nat} {w : Bool} {cs : List Cell} {M : Mem} (h : Live M t (.row (triL cs) w 3))
include h
end
end Go.Ab

/- Plain: the square of the number of cubes is at most the product of the three shadows. -/
namespace Go.Ab
open Go
set_option linter.unusedSimpArgs false
set_option linter.unusedVariables false
set_option maxRecDepth 20000

section
variable {x y z : Int}
/-- How many cells lie on a line. -/
def lineN (y z : Int) (d : Nat) (cs : List Cell) (i : Nat) : Nat := cs.countP (onLine y z d i)
/-- The lit lines of a direction. -/
def litX (x y z : Int) (d : Nat) (cs : List Cell) : List Nat := (List.range (linesOf x y z d).toNat).filter fun i => decide (0 < lineN y z d cs i)
end
end Go.Ab

/- Contracts: bare squares by lines, both sides. -/
namespace Go.Ab
open Go
set_option linter.unusedSimpArgs false
set_option linter.unusedVariables false
set_option maxRecDepth 20000

/-- A number is added at a place of a list. -/
def addAt (v : List Int) (j : Nat) (a : Int) : List Int := v.set j (v.getD j 0 + a)
/-- Each cell's weight is added to its line. -/
def sqStep (y z : Int) (d : Nat) (g : Cell → Nat) (v : List Int) (c : Cell) : List Int := addAt v (lineOf y z c d).toNat (g c)
def sqF (x y z : Int) (d : Nat) (g : Cell → Nat) (l : List Cell) : List Int := l.foldl (sqStep y z d g) (List.replicate (linesOf x y z d).toNat 0)
section
variable {x y z : Int} {d : Nat} {g : Cell → Nat}
end
/-- The ends of stretches count twice. -/
def gEnd (cs : List Cell) (d : Nat) (c : Cell) : Nat := if nbC c (2 * d + 1) ∉ cs then 2 else 0
/-- The first faces of two count. -/
def gTwo (cs : List Cell) (d e : Nat) (c : Cell) : Nat := (List.range e).countP fun f => decide (nbC c (2 * d + f) ∉ cs)
section
variable {x y z : Int} {d : Nat} {cs : List Cell} (hH : HeapOK x y z cs) (hd : d < 3)
include hH hd
end
/-- What BareSquares answers. -/
noncomputable def sqrOf (x y z : Int) (cs : List Cell) (d : Int) : List Int := by
  classical
  exact if HeapOK x y z cs ∧ Dir d then sqF x y z d.toNat (gEnd cs d.toNat) cs else []
noncomputable def sqrB (x y z : Int) (cs : List Cell) (d : Int) : Bool := by
  classical
  exact decide (HeapOK x y z cs ∧ Dir d)
/-- A list of numbers that may be read, and a truth. -/
def IntsG (M : Mem) (l : List Int) (b : Bool) (v : LV) (N : Mem) : Prop := ∃ w, v = .tup [w, .B b] ∧ IntsV N w l ∧ Pre M N
section
variable {x y z : Int} {t : Nat} {w : Bool} {cs : List Cell} {M : Mem} (h : Live M t (.row (triL cs) w 3))
include h
end
end Go.Ab

/- The abstract code of some functions (written by a program of mine from the translation, by way of prepF). -/
namespace Go.Ab.C
open Go.Ab
end Go.Ab.C

/- That the program has this code. -/
namespace Go.Ab.K
open Go Go.Ab
end Go.Ab.K

/- Contracts: shadows that fit together, greatest heaps, bounds, clean shadows, taken cubes. -/
namespace Go.Ab
open Go
set_option linter.unusedSimpArgs false
set_option linter.unusedVariables false
set_option maxRecDepth 20000

structure Shd where
  x : Int
  y : Int
  z : Int
  tp : List Int
  fr : List Int
  sd : List Int
def Shd.none : Shd := ⟨0, 0, 0, [], [], []⟩
/-- A shadow, or the one of all zeros and false; its lists may be read. -/
def ShdX (M : Mem) (r : Option Shd) (v : LV) (N : Mem) : Prop := ∃ a b c : Nat, v = .tup [.agg [.I (r.getD Shd.none).x, .I (r.getD Shd.none).y, .I (r.getD Shd.none).z, .ref a 0 (r.getD Shd.none).tp.length, .ref b 0 (r.getD Shd.none).fr.length, .ref c 0 (r.getD Shd.none).sd.length], .B r.isSome] ∧
  Ints N a 0 (r.getD Shd.none).tp ∧ Ints N b 0 (r.getD Shd.none).fr ∧ Ints N c 0 (r.getD Shd.none).sd ∧ Pre M N
section
variable (x y z : Int) (tp fr sd : List Int)
noncomputable def grtOf : Option Hp := by
  classical
  exact if Fits x y z tp fr sd then some ⟨x, y, z, pick x y z (allowedB y z tp fr sd)⟩ else none
noncomputable def clnOf : Option Shd := by
  classical
  exact if ShdOK x y z tp fr sd then some ⟨x, y, z, shdOf x y z 2 (pick x y z (allowedB y z tp fr sd)), shdOf x y z 1 (pick x y z (allowedB y z tp fr sd)), shdOf x y z 0 (pick x y z (allowedB y z tp fr sd))⟩ else none
noncomputable def lbdOf : Option Int := by
  classical
  exact if ShdOK x y z tp fr sd then some (max (litSum tp) (max (litSum fr) (litSum sd))) else none
end
section
variable {x y z : Int} {t o t' o' t2 o2 : Nat} {tp fr sd : List Int} {M : Mem} (h1 : Ints M t o tp) (h2 : Ints M t' o' fr) (h3 : Ints M t2 o2 sd) (l1 : tp.length ≤ 1000000000) (l2 : fr.length ≤ 1000000000) (l3 : sd.length ≤ 1000000000)
include h1 h2 h3 l1 l2 l3
end
end Go.Ab

/- The abstract code of some functions (written by a program of mine from the translation, by way of prepF). -/
namespace Go.Ab.C
open Go.Ab
end Go.Ab.C

/- That the program has this code. -/
namespace Go.Ab.K
open Go Go.Ab
end Go.Ab.K

/- The abstract code of some functions (written by a program of mine from the translation, by way of prepF). -/
namespace Go.Ab.C
open Go.Ab
end Go.Ab.C

/- That the program has this code. -/
namespace Go.Ab.K
open Go Go.Ab
end Go.Ab.K

/- The abstract code of some functions (written by a program of mine from the translation, by way of prepF). -/
namespace Go.Ab.C
open Go.Ab
end Go.Ab.C

/- That the program has this code. -/
namespace Go.Ab.K
open Go Go.Ab
end Go.Ab.K

/- The abstract code of some functions (written by a program of mine from the translation, by way of prepF). -/
namespace Go.Ab.C
open Go.Ab
end Go.Ab.C

/- That the program has this code. -/
namespace Go.Ab.K
open Go Go.Ab
end Go.Ab.K

/- The abstract code of some functions (written by a program of mine from the translation, by way of prepF). -/
namespace Go.Ab.C
open Go.Ab
end Go.Ab.C

/- That the program has this code. -/
namespace Go.Ab.K
open Go Go.Ab
end Go.Ab.K

/- The abstract code of some functions (written by a program of mine from the translation, by way of prepF). -/
namespace Go.Ab.C
open Go.Ab
end Go.Ab.C

/- That the program has this code. -/
namespace Go.Ab.K
open Go Go.Ab
end Go.Ab.K

/- The abstract code of some functions (written by a program of mine from the translation, by way of prepF). -/
namespace Go.Ab.C
open Go.Ab
end Go.Ab.C

/- That the program has this code. -/
namespace Go.Ab.K
open Go Go.Ab
end Go.Ab.K

/- The abstract code of some functions (written by a program of mine from the translation, by way of prepF). -/
namespace Go.Ab.C
open Go.Ab
end Go.Ab.C

/- That the program has this code. -/
namespace Go.Ab.K
open Go Go.Ab
end Go.Ab.K

/- The abstract code of some functions (written by a program of mine from the translation, by way of prepF). -/
namespace Go.Ab.C
open Go.Ab
end Go.Ab.C

/- That the program has this code. -/
namespace Go.Ab.K
open Go Go.Ab
end Go.Ab.K

/- The abstract code of some functions (written by a program of mine from the translation, by way of prepF). -/
namespace Go.Ab.C
open Go.Ab
end Go.Ab.C

/- That the program has this code. -/
namespace Go.Ab.K
open Go Go.Ab
end Go.Ab.K

/- The abstract code of some functions (written by a program of mine from the translation, by way of prepF). -/
namespace Go.Ab.C
open Go.Ab
def impl_Heap_heights : AFn :=
 ⟨1, 37, [.tmp 2],
 .seq (.ops [(none, .box 1 (.t 0)),
 (none, .mv 2 (.c .nil))])
 (.seq (.ops [(none, .fieldAddr 7 (.t 1) 0),
 (none, .load1 8 (.t 7)),
 (none, .fieldAddr 9 (.t 1) 1),
 (none, .load1 10 (.t 9)),
 (none, .bin 11 .mul (.t 8) (.t 10)),
 (none, .mksl 12 1 8 [(.I 0)] (.t 11) (.t 11)),
 (none, .mv 3 (.t 12))])
 (.seq (.seq (.ops [(none, .fieldAddr 13 (.t 1) 3),
 (none, .load1 14 (.t 13)),
 (none, .len 15 (.t 14)),
 (none, .mv 16 (.c (.I 0)))])
 (.block 0 (.loop (.seq (.ops [(none, .bin 17 .lss (.t 16) (.t 15))])
 (.seq (.cond (.t 17) (.skip)
 (.exit 0))
 (.seq (.block 1 (.seq (.ops [(none, .idxS 18 3 (.t 14) (.t 16)),
 (none, .loadN 19 3 (.t 18)),
 (none, .alloc 5 [(.I 0), (.I 0), (.I 0)]),
 (none, .store 3 (.t 5) (.t 19))])
 (.seq (.draw [⟨(none, .loadN 20 4 (.t 1)), [], []⟩,
 ⟨(none, .loadN 22 3 (.t 5)), [], []⟩,
 ⟨(none, .call (some 21) F.impl_Heap_box [(.t 20)]), [], [1]⟩,
 ⟨(none, .call (some 23) F.impl_box_line [(.t 21), (.t 22), (.c (.I 2))]), [], []⟩,
 ⟨(none, .mv 6 (.t 23)), [], []⟩])
 (.draw [⟨(none, .mv 24 (.t 3)), [], []⟩,
 ⟨(none, .mv 25 (.t 6)), [], []⟩,
 ⟨(none, .mv 26 (.t 3)), [], []⟩,
 ⟨(none, .mv 27 (.t 6)), [], []⟩,
 ⟨(none, .idxS 28 1 (.t 26) (.t 27)), [], []⟩,
 ⟨(none, .load1 29 (.t 28)), [], []⟩,
 ⟨(none, .idxA 30 3 1 (.t 5) (.c (.I 2))), [], []⟩,
 ⟨(none, .load1 31 (.t 30)), [], []⟩,
 ⟨(none, .bin 32 .add (.t 31) (.c (.I 1))), [], []⟩,
 ⟨(none, .mm 33 true [(.t 29), (.t 32)]), [], []⟩,
 ⟨(none, .idxS 34 1 (.t 24) (.t 25)), [], []⟩,
 ⟨(none, .store 1 (.t 34) (.t 33)), [], []⟩]))))
 (.ops [(none, .bin 35 .add (.t 16) (.c (.I 1))),
 (none, .mv 16 (.t 35))])))))))
 (.seq (.ops [(none, .mv 36 (.t 3)),
 (none, .mv 2 (.t 36))])
 (.ret))))⟩
end Go.Ab.C

/- That the program has this code. -/
namespace Go.Ab.K
open Go Go.Ab
theorem impl_Heap_heights : prepF Go.Proofs.Try.prog F.impl_Heap_heights = some C.impl_Heap_heights := by kernel_rfl
end Go.Ab.K

/- Contracts: g_heights. -/
namespace Go.Ab
open Go
set_option linter.unusedSimpArgs false
set_option linter.unusedVariables false
set_option maxRecDepth 20000

theorem g_heights {x y z : Int} {t o : Nat} {cs : List Cell} {M : Mem} (h : Tri M t o cs) (hn : cs.length ≤ 1000000000) (hH : HeapOK x y z cs) :
    CallsTo PG F.impl_Heap_heights [.agg [.I x, .I y, .I z, .ref t o cs.length]] M (.ref M.length 0 (x * y).toNat) (M ++ [some (.row (intL (topsOf x y cs)) true 1)]) := by
  have hb := mul_bound hH.1.1 hH.1.2.1
  refine calls_run K.impl_Heap_heights rfl ?_
  simp (disch := omega) only [C.impl_Heap_heights, made_int, ↓SXd, SXu, slBounds, ↓sop, ↓aop, ↓reduceIte, LV.cells, AOp.dst, LV.I, LV.B, LV.U, LV.S, LV.nil, Nat.reduceEqDiff, Nat.reduceAdd, Nat.reduceMul, Nat.reduceSub, Nat.reduceLeDiff, Nat.reduceBEq, Nat.reduceDiv, Nat.reduceMod, Int.reduceToNat, Int.reduceLT, Int.reduceLE, Int.reduceAdd, Int.reduceSub, Int.reduceMul, Int.reduceEq, Int.reduceNeg, reduceCtorEq, resV, resAll, ARes.ev, LV.flat, ite_true, ite_false, exists_eq_left', exists_eq_left, keyOf, implies_true, fillC, capOf]
  refine ev_loop (fun m fr M' => ∃ (k : Nat) (out : List Int), k + m = cs.length ∧ Pre M M' ∧ Live M' M.length (.row [.I x, .I y, .I z, .ref t o cs.length] true 0) ∧ Live M' (M.length + 1) (.row (intL out) true 1) ∧
    fr 1 = .ptr M.length 0 ∧ fr 3 = .ref (M.length + 1) 0 (x * y).toNat ∧ fr 14 = .ref t o cs.length ∧ fr 15 = .I (cs.length : Nat) ∧ fr 16 = .I k ∧
    out = (cs.take k).foldl (topStep y) (List.replicate (x * y).toNat 0) ∧ out.length = (x * y).toNat) cs.length ⟨0, _, by omega, Pre.app _ _, Live.new, Live.newj rfl, rfl, rfl, rfl, rfl, rfl, rfl, by simp⟩ ?_
  rintro m fr M' ⟨k, out, hk, hpre, hbox, hout, h1, h3, h14, h15, h16, ho, hol⟩
  have h' : Tri M' t o cs := h.pre hpre
  have ht := h'.lt
  simp (disch := omega) only [h1, h3, h14, h15, h16, ↓SXd, SXu, slBounds, ↓sop, ↓aop, ↓reduceIte, LV.cells, AOp.dst, LV.I, LV.B, LV.U, LV.S, LV.nil, Nat.reduceEqDiff, Nat.reduceAdd, Nat.reduceMul, Nat.reduceSub, Nat.reduceLeDiff, Nat.reduceBEq, Nat.reduceDiv, Nat.reduceMod, Int.reduceToNat, Int.reduceLT, Int.reduceLE, Int.reduceAdd, Int.reduceSub, Int.reduceMul, Int.reduceEq, Int.reduceNeg, reduceCtorEq, resV, resAll, ARes.ev, LV.flat, ite_true, ite_false, exists_eq_left', exists_eq_left, keyOf, implies_true, fillC, capOf]
  refine condC_dec (fun hlt => ?_) (fun hlt => ?_)
  · obtain ⟨ca, cb, cc⟩ := hH.cell' (k := k) (by omega)
    have hS := hH.1
    obtain ⟨b1, b2, b3, b4⟩ := col_bound hS.1 hS.2.1 ca cb
    obtain ⟨_, hy, hz⟩ := hS
    have hbox' : ∀ {L : Mem} {o n : Nat}, getCells (M' ++ L) M.length o n = _ := fun {L o n} => (hbox.app (L := L)).cells
    have houtc : ∀ {L : Mem} {o : Nat}, getCell (M' ++ L) (M.length + 1) o = _ := fun {L o} => (hout.app (L := L)).cell
    simp (disch := omega) only [h1, h3, h14, h15, h16, Tri.get h', Cell.row, hbox', ↓SXd, SXu, slBounds, ↓sop, ↓aop, ↓reduceIte, LV.cells, AOp.dst, LV.I, LV.B, LV.U, LV.S, LV.nil, Nat.reduceEqDiff, Nat.reduceAdd, Nat.reduceMul, Nat.reduceSub, Nat.reduceLeDiff, Nat.reduceBEq, Nat.reduceDiv, Nat.reduceMod, Int.reduceToNat, Int.reduceLT, Int.reduceLE, Int.reduceAdd, Int.reduceSub, Int.reduceMul, Int.reduceEq, Int.reduceNeg, reduceCtorEq, resV, resAll, ARes.ev, LV.flat, ite_true, ite_false, exists_eq_left', exists_eq_left, keyOf, implies_true, fillC, capOf]
    refine callK_of g_box ?_
    simp (disch := omega) only [h1, h3, h14, h15, h16, Tri.get h', Cell.row, hbox', ↓SXd, SXu, slBounds, ↓sop, ↓aop, ↓reduceIte, LV.cells, AOp.dst, LV.I, LV.B, LV.U, LV.S, LV.nil, Nat.reduceEqDiff, Nat.reduceAdd, Nat.reduceMul, Nat.reduceSub, Nat.reduceLeDiff, Nat.reduceBEq, Nat.reduceDiv, Nat.reduceMod, Int.reduceToNat, Int.reduceLT, Int.reduceLE, Int.reduceAdd, Int.reduceSub, Int.reduceMul, Int.reduceEq, Int.reduceNeg, reduceCtorEq, resV, resAll, ARes.ev, LV.flat, ite_true, ite_false, exists_eq_left', exists_eq_left, keyOf, implies_true, fillC, capOf]
    refine callK_of (g_line2 (by omega) (by omega)) ?_
    simp (disch := omega) only [h1, h3, h14, h15, h16, Tri.get h', Cell.row, hbox', houtc, intL_get, maxV, if_true, ↓SXd, SXu, slBounds, ↓sop, ↓aop, ↓reduceIte, LV.cells, AOp.dst, LV.I, LV.B, LV.U, LV.S, LV.nil, Nat.reduceEqDiff, Nat.reduceAdd, Nat.reduceMul, Nat.reduceSub, Nat.reduceLeDiff, Nat.reduceBEq, Nat.reduceDiv, Nat.reduceMod, Int.reduceToNat, Int.reduceLT, Int.reduceLE, Int.reduceAdd, Int.reduceSub, Int.reduceMul, Int.reduceEq, Int.reduceNeg, reduceCtorEq, resV, resAll, ARes.ev, LV.flat, ite_true, ite_false, exists_eq_left', exists_eq_left, keyOf, implies_true, fillC, capOf]
    refine memK_int hout.app (by omega) fun N l1 l2 l3 => ?_
    simp (disch := omega) only [h1, h3, h14, h15, h16, ↓SXd, SXu, slBounds, ↓sop, ↓aop, ↓reduceIte, LV.cells, AOp.dst, LV.I, LV.B, LV.U, LV.S, LV.nil, Nat.reduceEqDiff, Nat.reduceAdd, Nat.reduceMul, Nat.reduceSub, Nat.reduceLeDiff, Nat.reduceBEq, Nat.reduceDiv, Nat.reduceMod, Int.reduceToNat, Int.reduceLT, Int.reduceLE, Int.reduceAdd, Int.reduceSub, Int.reduceMul, Int.reduceEq, Int.reduceNeg, reduceCtorEq, resV, resAll, ARes.ev, LV.flat, ite_true, ite_false, exists_eq_left', exists_eq_left, keyOf, implies_true, fillC, capOf]
    refine ⟨m - 1, by omega, k + 1, _, by omega, pre_step (Pre.app' hpre) (by omega) (j := 0) l1 l3, live_step hbox.app (by omega) l3, l2, h1, h3, h14, h15, eqI (natI _), ?_, by simpa using hol⟩
    rw [take_succ_foldl _ _ _ _ default (by omega), ← ho]
    rfl
  · simp (disch := omega) only [h1, h3, h14, h15, h16, ↓SXd, SXu, slBounds, ↓sop, ↓aop, ↓reduceIte, LV.cells, AOp.dst, LV.I, LV.B, LV.U, LV.S, LV.nil, Nat.reduceEqDiff, Nat.reduceAdd, Nat.reduceMul, Nat.reduceSub, Nat.reduceLeDiff, Nat.reduceBEq, Nat.reduceDiv, Nat.reduceMod, Int.reduceToNat, Int.reduceLT, Int.reduceLE, Int.reduceAdd, Int.reduceSub, Int.reduceMul, Int.reduceEq, Int.reduceNeg, reduceCtorEq, resV, resAll, ARes.ev, LV.flat, ite_true, ite_false, exists_eq_left', exists_eq_left, keyOf, implies_true, fillC, capOf]
    have : k = cs.length := by omega
    subst this
    rw [List.take_length] at ho
    rw [show topsOf x y cs = out from ho.symm]
    exact cmp_keepL hpre (by omega) hout (intL_lo out) (by simp [rn, rn0, rn1])

end Go.Ab

/- Contracts: g_top g_isTop g_isTop_nil. -/
namespace Go.Ab
open Go
set_option linter.unusedSimpArgs false
set_option linter.unusedVariables false
set_option maxRecDepth 20000

end Go.Ab

/- Plain words: how far columns are, step by step. -/
namespace Go.Ab

theorem getD_mem {α : Type} {l : List α} {k : Nat} {d : α} (h : k < l.length) : l.getD k d ∈ l := by
  simp [h]

/-- One neighbour of column p is looked at. -/
def visit (p : Int) (st : List Int × List Int) (q : Int) : List Int × List Int :=
  if st.1.getD q.toNat 0 < 0 then (st.1.set q.toNat (st.1.getD p.toNat 0 + 1), st.2 ++ [q]) else st
def bfs (N : Int → List Int) : Nat → Nat → List Int × List Int → List Int
  | 0, _, st => st.1
  | f + 1, n, st => if n < st.2.length then bfs N f (n + 1) ((N (st.2.getD n 0)).foldl (visit (st.2.getD n 0)) st) else st.1
/-- How many steps lead from column p to each column, or -1. -/
def farFrom (c : Nat) (N : Int → List Int) (p : Int) : List Int := bfs N c 0 ((List.replicate c (-1)).set p.toNat 0, [p])

structure BInv (c : Nat) (st : List Int × List Int) : Prop where
  len : st.1.length = c
  cnt : st.1.countP (fun v => decide (v < 0)) + st.2.length = c
  mem : ∀ q ∈ st.2, 0 ≤ q ∧ q < (c : Int)
  val : ∀ k, k < c → -1 ≤ st.1.getD k 0 ∧ st.1.getD k 0 ≤ (st.2.length : Int)

theorem BInv.le {c : Nat} {st : List Int × List Int} (h : BInv c st) : st.2.length ≤ c := by have := h.cnt; omega

theorem BInv.visit {c : Nat} {st : List Int × List Int} {p q : Int} (h : BInv c st) (hp : 0 ≤ p ∧ p < c) (hq : 0 ≤ q ∧ q < c) : BInv c (Go.Ab.visit p st q) := by
  unfold Go.Ab.visit
  split
  · rename_i hlt
    have hql : q.toNat < st.1.length := by rw [h.len]; omega
    have hvp := h.val p.toNat (by omega)
    refine ⟨by simpa using h.len, ?_, fun r hr => ?_, fun k hk => ?_⟩
    · have h1 := h.cnt
      simp only [List.length_append, List.length_singleton]
      rw [List.countP_set hql]
      have e : st.1[q.toNat] = st.1.getD q.toNat 0 := by simp [hql]
      have h2 : 0 < st.1.countP (fun v => decide (v < 0)) := List.countP_pos_iff.2 ⟨st.1[q.toNat], List.getElem_mem _, by rw [e]; simpa using hlt⟩
      rw [e]
      simp only [hlt, decide_true, if_true, show decide (st.1.getD p.toNat 0 + 1 < 0) = false from decide_eq_false (by omega), Bool.false_eq_true, if_false]
      omega
    · rcases List.mem_append.1 hr with hr | hr
      · exact h.mem r hr
      · rw [List.mem_singleton.1 hr]; exact hq
    · simp only [List.length_append, List.length_singleton]
      rw [getD_set]
      have := h.val k hk
      split <;> omega
  · exact h

theorem BInv.fold {c : Nat} {p : Int} (hp : 0 ≤ p ∧ p < c) : ∀ (l : List Int) (st : List Int × List Int), BInv c st → (∀ q ∈ l, 0 ≤ q ∧ q < (c : Int)) → BInv c (l.foldl (Go.Ab.visit p) st)
  | [], st, h, _ => h
  | q :: l, st, h, hl => BInv.fold hp l _ (h.visit hp (hl q (by simp))) fun r hr => hl r (by simp [hr])

theorem BInv.start {c : Nat} {p : Int} (hp : 0 ≤ p ∧ p < c) : BInv c ((List.replicate c (-1)).set p.toNat 0, [p]) := by
  refine ⟨by simp, ?_, fun q hq => by rw [List.mem_singleton.1 hq]; exact hp, fun k hk => ?_⟩
  · have hl : p.toNat < (List.replicate c (-1 : Int)).length := by simp; omega
    simp only
    rw [List.countP_set hl, List.countP_replicate]
    simp
    omega
  · simp only [getD_set]
    split
    · simp
    · simp [hk]

end Go.Ab

/- Plain words: regions. -/
namespace Go.Ab

def spreadOf (x y : Int) (cs : List Cell) (p s : Int) : List Int := farFrom (x * y).toNat (fun q => stepsOf x y (topsOf x y cs) q s) p
def regionOf (x y : Int) (cs : List Cell) (p s : Int) : List Int := (nums (x * y).toNat).filter fun q => decide (0 ≤ (spreadOf x y cs p s).getD q.toNat 0)
def countRegions (x y : Int) (cs : List Cell) (s : Int) : Int := ((nums (x * y).toNat).filter fun p => decide ((regionOf x y cs p s).getD 0 0 = p)).length
end Go.Ab

/- Plain words: the neighbours of a column, the program's way; they are those of the reference. -/
namespace Go.Ab

def nearL (y c p : Int) : List Int :=
  (if y ≤ p then [p - y] else []) ++ ((if 0 < p.tmod y then [p - 1] else []) ++ ((if p.tmod y < y - 1 then [p + 1] else []) ++ (if p + y < c then [p + y] else [])))

end Go.Ab

/- Contracts: the program's steps between columns. -/
namespace Go.Ab
open Go
set_option linter.unusedSimpArgs false
set_option linter.unusedVariables false

end Go.Ab

/- Contracts: searching and deleting in slices, by a function. -/
namespace Go.Ab
open Go
set_option linter.unusedSimpArgs false
set_option linter.unusedVariables false

/-- The place of the first number with a mark, or -1. -/
def idxF (pr : Int → Bool) (xs : List Int) : Int := match xs.findIdx? pr with | some i => (i : Int) | none => -1
/-- What DeleteFunc leaves in the block: what stays, then zeros. -/
def delRow (pr : Int → Bool) (xs : List Int) : List Int := xs.filter (fun v => !pr v) ++ List.replicate (xs.length - (xs.filter fun v => !pr v).length) 0

end Go.Ab

/- Contracts: the program's steps; repeated numbers. -/
namespace Go.Ab
open Go
set_option linter.unusedSimpArgs false
set_option linter.unusedVariables false
set_option maxRecDepth 20000

/-- The row that the program's steps leave: the steps, then zeros. -/
def stepRow (x y : Int) (ts : List Int) (p s : Int) : List Int := stepsOf x y ts p s ++ List.replicate ((nexts x y p).length - (stepsOf x y ts p s).length) 0

end Go.Ab

/- Contracts: the program's distances. -/
namespace Go.Ab
open Go
set_option linter.unusedSimpArgs false
set_option linter.unusedVariables false

end Go.Ab

/- The abstract code of some functions (written by a program of mine from the translation, by way of prepF). -/
namespace Go.Ab.C
open Go.Ab
end Go.Ab.C

/- That the program has this code. -/
namespace Go.Ab.K
open Go Go.Ab
end Go.Ab.K

/- The abstract code of some functions (written by a program of mine from the translation, by way of prepF). -/
namespace Go.Ab.C
open Go.Ab
end Go.Ab.C

/- That the program has this code. -/
namespace Go.Ab.K
open Go Go.Ab
end Go.Ab.K

/- The abstract code of some functions (written by a program of mine from the translation, by way of prepF). -/
namespace Go.Ab.C
open Go.Ab
end Go.Ab.C

/- That the program has this code. -/
namespace Go.Ab.K
open Go Go.Ab
end Go.Ab.K

/- Contracts: the reference's steps. -/
namespace Go.Ab
open Go
set_option linter.unusedSimpArgs false
set_option linter.unusedVariables false

def Low (ts : List Int) : Prop := ∀ k, k < ts.length → -100 ≤ ts.getD k 0 ∧ ts.getD k 0 ≤ 100

end Go.Ab

/- Contracts: the reference's spread. -/
namespace Go.Ab
open Go
set_option linter.unusedSimpArgs false
set_option linter.unusedVariables false

end Go.Ab

/- Contracts: the reference's regions. -/
namespace Go.Ab
open Go
set_option linter.unusedSimpArgs false
set_option linter.unusedVariables false

/-- What TopRegion answers. -/
noncomputable def topRegionOf (x y z : Int) (cs : List Cell) (p s : Int) : Option (List Int) := if HeapOK x y z cs ∧ (0 ≤ p ∧ p ≤ x * y - 1) ∧ 0 ≤ s then some (regionOf x y cs p s) else none

/-- What CountRegions answers. -/
noncomputable def rcOf (x y z : Int) (cs : List Cell) (s : Int) : Option Int := if HeapOK x y z cs ∧ 0 ≤ s then some (countRegions x y cs s) else none

end Go.Ab

/- Contracts: the program's regions. -/
namespace Go.Ab
open Go
set_option linter.unusedSimpArgs false
set_option linter.unusedVariables false

end Go.Ab

/- Plain words: what a spread tells: the least number of steps. -/
namespace Go.Ab

/-- What is known of column v. -/
def dist (st : List Int × List Int) (v : Int) : Int := st.1.getD v.toNat 0

structure FInv (c : Nat) (N : Int → List Int) (p : Int) (n : Nat) (st : List Int × List Int) : Prop where
  base : BInv c st
  here : dist st p = 0
  nonneg : ∀ i, i < st.2.length → 0 ≤ dist st (st.2.getD i 0)
  listed : ∀ v : Int, 0 ≤ v → v < c → 0 ≤ dist st v → ∃ i, i < st.2.length ∧ st.2.getD i 0 = v
  sorted : ∀ i j, i ≤ j → j < st.2.length → dist st (st.2.getD i 0) ≤ dist st (st.2.getD j 0)
  parent : ∀ v : Int, 0 ≤ v → v < c → 0 < dist st v → ∃ a : Int, (0 ≤ a ∧ a < c) ∧ v ∈ N a ∧ 0 ≤ dist st a ∧ dist st v = dist st a + 1
  root : ∀ v : Int, 0 ≤ v → v < c → dist st v = 0 → v = p
  done : ∀ i, i < n → i < st.2.length → ∀ b ∈ N (st.2.getD i 0), 0 ≤ dist st b ∧ dist st b ≤ dist st (st.2.getD i 0) + 1

/-- One more neighbour of the column at place n. -/
theorem FInv.visit1 {c : Nat} {N : Int → List Int} {p a q : Int} {n : Nat} {st : List Int × List Int} (h : FInv c N p n st) (hn : n < st.2.length) (ha : st.2.getD n 0 = a) (hb : ∀ i, i < st.2.length → dist st (st.2.getD i 0) ≤ dist st a + 1)
    (hq : 0 ≤ q ∧ q < c) (hqa : q ∈ N a) : FInv c N p n (visit a st q) ∧ n < (visit a st q).2.length ∧ (visit a st q).2.getD n 0 = a ∧ (∀ i, i < (visit a st q).2.length → dist (visit a st q) ((visit a st q).2.getD i 0) ≤ dist (visit a st q) a + 1) ∧
    (0 ≤ dist (visit a st q) q ∧ dist (visit a st q) q ≤ dist (visit a st q) a + 1) ∧ (∀ v : Int, 0 ≤ dist st v → dist (visit a st q) v = dist st v) := by
  have hac := h.base.mem a (by rw [← ha]; exact getD_mem hn)
  have ha0 := h.nonneg n hn
  rw [ha] at ha0
  have hbase := h.base.visit hac hq
  by_cases hlt : st.1.getD q.toNat 0 < 0
  · have hv : visit a st q = (st.1.set q.toNat (st.1.getD a.toNat 0 + 1), st.2 ++ [q]) := by unfold Go.Ab.visit; rw [if_pos hlt]
    have hql : q.toNat < st.1.length := by rw [h.base.len]; omega
    rw [hv] at hbase ⊢
    have hd : ∀ v : Int, dist (st.1.set q.toNat (st.1.getD a.toNat 0 + 1), st.2 ++ [q]) v = if v.toNat = q.toNat then dist st a + 1 else dist st v := fun v => by
      unfold dist; rw [getD_set]
      by_cases e : v.toNat = q.toNat
      · rw [if_pos ⟨e, hql⟩, if_pos e]
      · rw [if_neg (fun h => e h.1), if_neg e]
    have hold : ∀ v : Int, 0 ≤ dist st v → dist (st.1.set q.toNat (st.1.getD a.toNat 0 + 1), st.2 ++ [q]) v = dist st v := fun v hv => by
      rw [hd, if_neg]; intro e; unfold dist at hv; rw [e] at hv; omega
    have hqd : dist (st.1.set q.toNat (st.1.getD a.toNat 0 + 1), st.2 ++ [q]) q = dist st a + 1 := by rw [hd, if_pos rfl]
    have hl1 : ∀ i, i < st.2.length → (st.2 ++ [q]).getD i 0 = st.2.getD i 0 := fun i hi => by simp only [List.getD_eq_getElem?_getD]; rw [List.getElem?_append_left hi]
    have hl2 : (st.2 ++ [q]).getD st.2.length 0 = q := by simp
    have hlen : (st.2 ++ [q]).length = st.2.length + 1 := by simp
    have hcase : ∀ i, i < (st.2 ++ [q]).length → i < st.2.length ∨ i = st.2.length := fun i hi => by omega
    refine ⟨⟨hbase, by rw [hold _ (by rw [h.here]; omega)]; exact h.here, fun i hi => ?_, fun v h0 hc hv => ?_, fun i j hij hj => ?_, fun v h0 hc hv => ?_, fun v h0 hc hv => ?_, fun i hi hi' b hb' => ?_⟩, by simp only [hlen]; omega, by rw [hl1 n hn, ha], fun i hi => ?_, ?_, hold⟩
    · rcases hcase i hi with h1 | rfl
      · rw [hl1 i h1, hold _ (h.nonneg i h1)]; exact h.nonneg i h1
      · simp only [hl2]; rw [hqd]; omega
    · rw [hd] at hv
      by_cases e : v.toNat = q.toNat
      · exact ⟨st.2.length, by simp only [hlen]; omega, by rw [hl2]; omega⟩
      · rw [if_neg e] at hv
        obtain ⟨i, h1, h2⟩ := h.listed v h0 hc hv
        exact ⟨i, by simp only [hlen]; omega, by rw [hl1 i h1]; exact h2⟩
    · rcases hcase j hj with h1 | rfl
      · rw [hl1 i (by omega), hl1 j h1, hold _ (h.nonneg i (by omega)), hold _ (h.nonneg j h1)]; exact h.sorted i j hij h1
      · simp only [hl2]; rw [hqd]
        rcases Nat.lt_or_ge i st.2.length with h2 | h2
        · rw [hl1 i h2, hold _ (h.nonneg i h2)]; exact hb i h2
        · rw [show i = st.2.length by omega, hl2, hqd]; omega
    · by_cases e : v.toNat = q.toNat
      · have hvq : v = q := by omega
        subst hvq
        exact ⟨a, hac, hqa, by rw [hold _ ha0]; exact ha0, by rw [hqd, hold _ ha0]⟩
      · rw [hd, if_neg e] at hv
        obtain ⟨b, h1, h2, h3, h4⟩ := h.parent v h0 hc hv
        exact ⟨b, h1, h2, by rw [hold _ h3]; exact h3, by rw [hold _ (by omega), hold _ h3]; exact h4⟩
    · by_cases e : v.toNat = q.toNat
      · rw [hd, if_pos e] at hv; omega
      · rw [hd, if_neg e] at hv; exact h.root v h0 hc hv
    · rw [hl1 i (by omega)] at hb' ⊢
      have h1 := h.done i hi (by omega) b hb'
      rw [hold _ h1.1, hold _ (h.nonneg i (by omega))]; exact h1
    · rw [hold _ ha0]
      rcases hcase i hi with h1 | rfl
      · rw [hl1 i h1, hold _ (h.nonneg i h1)]; exact hb i h1
      · simp only [hl2]; rw [hqd]; exact Int.le_refl _
    · rw [hqd, hold _ ha0]; omega
  · have hv : visit a st q = st := by unfold Go.Ab.visit; rw [if_neg hlt]
    rw [hv]
    obtain ⟨i, h1, h2⟩ := h.listed q hq.1 hq.2 (by unfold dist; omega)
    have := hb i h1
    rw [h2] at this
    exact ⟨h, hn, ha, hb, ⟨by unfold dist; omega, this⟩, fun _ _ => rfl⟩

theorem FInv.fold {c : Nat} {N : Int → List Int} {p a : Int} {n : Nat} (hN : ∀ p q, q ∈ N p → 0 ≤ q ∧ q < (c : Int)) : ∀ (l done : List Int) (st : List Int × List Int), FInv c N p n st → n < st.2.length → st.2.getD n 0 = a → (∀ i, i < st.2.length → dist st (st.2.getD i 0) ≤ dist st a + 1) →
    (∀ q ∈ l, q ∈ N a) → (∀ q ∈ done, 0 ≤ dist st q ∧ dist st q ≤ dist st a + 1) →
    FInv c N p n (l.foldl (Go.Ab.visit a) st) ∧ n < (l.foldl (Go.Ab.visit a) st).2.length ∧ (l.foldl (Go.Ab.visit a) st).2.getD n 0 = a ∧ (∀ i, i < (l.foldl (Go.Ab.visit a) st).2.length → dist (l.foldl (Go.Ab.visit a) st) ((l.foldl (Go.Ab.visit a) st).2.getD i 0) ≤ dist (l.foldl (Go.Ab.visit a) st) a + 1) ∧
    (∀ q, q ∈ done ∨ q ∈ l → 0 ≤ dist (l.foldl (Go.Ab.visit a) st) q ∧ dist (l.foldl (Go.Ab.visit a) st) q ≤ dist (l.foldl (Go.Ab.visit a) st) a + 1) := by
  intro l
  induction l with
  | nil => intro done st h hn ha hb _ hd; exact ⟨h, hn, ha, hb, fun q hq => hd q (by simpa using hq)⟩
  | cons q l ih =>
    intro done st h hn ha hb hl hd
    have hqa := hl q (by simp)
    obtain ⟨h1, h2, h3, h4, h5, h6⟩ := h.visit1 hn ha hb (hN a q hqa) hqa
    have ha0 := h.nonneg n hn
    rw [ha] at ha0
    obtain ⟨k1, k2, k3, k4, k5⟩ := ih (q :: done) _ h1 h2 h3 h4 (fun r hr => hl r (by simp [hr])) (fun r hr => by
      rcases List.mem_cons.1 hr with rfl | hr
      · exact h5
      · rw [h6 _ (hd r hr).1, h6 _ ha0]; exact hd r hr)
    exact ⟨k1, k2, k3, k4, fun r hr => k5 r (by simp only [List.mem_cons] at hr ⊢; rcases hr with h | h | h <;> simp [h])⟩

theorem FInv.next {c : Nat} {N : Int → List Int} {p : Int} {n : Nat} {st : List Int × List Int} (hN : ∀ p q, q ∈ N p → 0 ≤ q ∧ q < (c : Int)) (h : FInv c N p n st) (hn : n < st.2.length) (hb : ∀ i, i < st.2.length → dist st (st.2.getD i 0) ≤ dist st (st.2.getD n 0) + 1) :
    FInv c N p (n + 1) ((N (st.2.getD n 0)).foldl (visit (st.2.getD n 0)) st) ∧ ∀ i, n + 1 < ((N (st.2.getD n 0)).foldl (visit (st.2.getD n 0)) st).2.length → i < ((N (st.2.getD n 0)).foldl (visit (st.2.getD n 0)) st).2.length →
      dist ((N (st.2.getD n 0)).foldl (visit (st.2.getD n 0)) st) (((N (st.2.getD n 0)).foldl (visit (st.2.getD n 0)) st).2.getD i 0) ≤ dist ((N (st.2.getD n 0)).foldl (visit (st.2.getD n 0)) st) (((N (st.2.getD n 0)).foldl (visit (st.2.getD n 0)) st).2.getD (n + 1) 0) + 1 := by
  obtain ⟨k1, k2, k3, k4, k5⟩ := FInv.fold hN (N (st.2.getD n 0)) [] st h hn rfl hb (fun q hq => hq) (fun q hq => by cases hq)
  generalize (N (st.2.getD n 0)).foldl (visit (st.2.getD n 0)) st = st' at k1 k2 k3 k4 k5 ⊢
  refine ⟨⟨k1.base, k1.here, k1.nonneg, k1.listed, k1.sorted, k1.parent, k1.root, fun i hi hi' b hb' => ?_⟩, fun i h1 h2 => ?_⟩
  · rcases Nat.lt_or_ge i n with h3 | h3
    · exact k1.done i h3 hi' b hb'
    · have : i = n := by omega
      subst this
      rw [k3] at hb' ⊢
      exact k5 b (.inr hb')
  · have h3 := k4 i h2
    have h4 := k1.sorted n (n + 1) (by omega) h1
    rw [k3] at h4
    omega

theorem FInv.start {c : Nat} {N : Int → List Int} {p : Int} (hp : 0 ≤ p ∧ p < c) : FInv c N p 0 ((List.replicate c (-1)).set p.toNat 0, [p]) := by
  have hd : ∀ v : Int, 0 ≤ v → v < c → dist ((List.replicate c (-1)).set p.toNat 0, [p]) v = if v = p then 0 else -1 := fun v h0 hc => by
    unfold dist
    simp only [getD_set, List.length_replicate]
    by_cases e : v = p
    · subst e; rw [if_pos ⟨rfl, by omega⟩, if_pos rfl]
    · rw [if_neg (fun h => e (by omega)), if_neg e]
      simp only [List.getD_eq_getElem?_getD, List.getElem?_replicate]
      rw [if_pos (by omega)]; rfl
  refine ⟨BInv.start hp, by rw [hd p hp.1 hp.2, if_pos rfl], fun i hi => ?_, fun v h0 hc hv => ?_, fun i j hij hj => ?_, fun v h0 hc hv => ?_, fun v h0 hc hv => ?_, fun i hi => by omega⟩
  · have : i = 0 := by simp at hi; omega
    subst this
    show 0 ≤ dist _ p
    rw [hd p hp.1 hp.2, if_pos rfl]; exact Int.le_refl 0
  · rw [hd v h0 hc] at hv
    split at hv
    · rename_i e; exact ⟨0, by simp, by simp [e]⟩
    · omega
  · have h1 : j = 0 := by simp at hj; omega
    have h2 : i = 0 := by omega
    subst h1; subst h2; exact Int.le_refl _
  · rw [hd v h0 hc] at hv; split at hv <;> omega
  · rw [hd v h0 hc] at hv; split at hv
    · assumption
    · omega

/-- Steps one behind the other. -/
inductive Way (N : Int → List Int) (p : Int) : Nat → Int → Prop
  | nil : Way N p 0 p
  | snoc {n : Nat} {a b : Int} : Way N p n a → b ∈ N a → Way N p (n + 1) b

theorem Way.cons {N : Int → List Int} {n : Nat} {p a b : Int} (h : b ∈ N p) (w : Way N b n a) : Way N p (n + 1) a := by
  induction w with
  | nil => exact .snoc .nil h
  | snoc _ h' ih => exact .snoc ih h'
section
variable {c : Nat} {N : Int → List Int} {p : Int} (hN : ∀ p q, q ∈ N p → 0 ≤ q ∧ q < (c : Int)) (hp : 0 ≤ p ∧ p < c)
include hN hp

end

end Go.Ab

/- Plain words: least numbers; the grid is one region; walks. -/
namespace Go.Ab

/-- The least number of which f holds. -/
noncomputable def leastN (f : Nat → Prop) : Nat := by
  classical
  exact if h : ∃ k, f k ∧ ∀ j, j < k → ¬ f j then Classical.choose h else 0
end Go.Ab

/- Contracts: distances and least reaches, both sides. -/
namespace Go.Ab
open Go
set_option linter.unusedSimpArgs false
set_option linter.unusedVariables false

/-- The distance of two columns, or -1. -/
noncomputable def tdOf (x y z : Int) (cs : List Cell) (p q s : Int) : Int := by
  classical
  exact if (HeapOK x y z cs ∧ (0 ≤ p ∧ p ≤ x * y - 1)) ∧ (0 ≤ q ∧ q ≤ x * y - 1) ∧ 0 ≤ s then (spreadOf x y cs p s).getD q.toNat 0 else -1

end Go.Ab

/- Contracts: least reaches, both sides. -/
namespace Go.Ab
open Go
set_option linter.unusedSimpArgs false
set_option linter.unusedVariables false

/-- Column q is reached from p at the reach s. -/
def Near' (x y : Int) (cs : List Cell) (p q : Int) (s : Nat) : Prop := 0 ≤ (spreadOf x y cs p s).getD q.toNat 0
/-- What LeastReach answers. -/
noncomputable def reachOf (x y z : Int) (cs : List Cell) (p q : Int) : Option Nat := by
  classical
  exact if (HeapOK x y z cs ∧ (0 ≤ p ∧ p ≤ x * y - 1)) ∧ (0 ≤ q ∧ q ≤ x * y - 1) then some (leastN (Near' x y cs p q)) else none

end Go.Ab

/- Plain words: least climbs. -/
namespace Go.Ab

def relax1 (ts : List Int) (a c : Int) (st : List Int × Bool) (b : Int) : List Int × Bool :=
  if st.1.getD b.toNat 0 < 0 ∨ c + max (ts.getD b.toNat 0 - ts.getD a.toNat 0) 0 < st.1.getD b.toNat 0 then (st.1.set b.toNat (c + max (ts.getD b.toNat 0 - ts.getD a.toNat 0) 0), true) else st
def relaxCol (ts : List Int) (St : Int → List Int) (st : List Int × Bool) (a : Int) : List Int × Bool :=
  if st.1.getD a.toNat 0 < 0 then st else (St a).foldl (relax1 ts a (st.1.getD a.toNat 0)) st
def climbRound (ts : List Int) (St : Int → List Int) (c : Nat) (best : List Int) : List Int × Bool := (nums c).foldl (relaxCol ts St) (best, false)
def climbLoop (ts : List Int) (St : Int → List Int) (c : Nat) : Nat → List Int → List Int
  | 0, best => best
  | f + 1, best => if (climbRound ts St c best).2 then climbLoop ts St c f (climbRound ts St c best).1 else (climbRound ts St c best).1

def phiOf (v : Int) : Nat := if v < 0 then 100 else v.toNat
def phi (best : List Int) : Nat := (best.map phiOf).sum

def cnt0 (l : List Int) : Nat := l.countP fun v => decide (0 ≤ v)
structure CI (c : Nat) (N : Int → List Int) (p : Int) (best : List Int) : Prop where
  len : best.length = c
  lo : ∀ k, k < c → -1 ≤ best.getD k 0
  hi : ∀ k, k < c → best.getD k 0 ≤ 4 * (cnt0 best : Int) - 4
  root : 0 ≤ best.getD p.toNat 0
  way : ∀ v : Int, 0 ≤ v → v < c → 0 ≤ best.getD v.toNat 0 → ∃ n, Way N p n v

theorem CI.top {c : Nat} {N : Int → List Int} {p : Int} {best : List Int} (h : CI c N p best) (hc : c ≤ 16) : ∀ k, k < c → best.getD k 0 ≤ 60 := fun k hk => by
  have h1 := h.hi k hk
  have h2 : cnt0 best ≤ best.length := List.countP_le_length
  have h3 := h.len
  omega

section
variable {c : Nat} {N : Int → List Int} {p : Int} {ts : List Int} (hN : ∀ p q, q ∈ N p → 0 ≤ q ∧ q < (c : Int)) (hne : ∀ p, p ∉ N p) (hts : ∀ k, 0 ≤ ts.getD k 0 ∧ ts.getD k 0 ≤ 4) (hc : c ≤ 16)
include hN hne hts hc

end

def climbStart (c : Nat) (p : Int) : List Int := (List.replicate c (-1)).set p.toNat 0
end Go.Ab

/- Contracts: least climbs, both sides. -/
namespace Go.Ab
open Go
set_option linter.unusedSimpArgs false
set_option linter.unusedVariables false

/-- The least climbs from a column to all others. -/
def climbs (x y : Int) (cs : List Cell) (p s : Int) : List Int := climbLoop (topsOf x y cs) (fun r => stepsOf x y (topsOf x y cs) r s) (x * y).toNat 2000 (climbStart (x * y).toNat p)
/-- What LeastClimb answers. -/
noncomputable def climbOf (x y z : Int) (cs : List Cell) (p q s : Int) : Option Int := by
  classical
  exact if ((HeapOK x y z cs ∧ (0 ≤ p ∧ p ≤ x * y - 1)) ∧ (0 ≤ q ∧ q ≤ x * y - 1) ∧ 0 ≤ s) ∧ 0 ≤ (spreadOf x y cs p s).getD q.toNat 0 then some ((climbs x y cs p s).getD q.toNat 0) else none

section
variable {x y z s p : Int} {cs : List Cell} (hH : HeapOK x y z cs)
include hH

end

end Go.Ab

/- Plain words: the first walk. -/
namespace Go.Ab

def nextOf (D : List Int) (d : Int) (l : List Int) : Int := l.getD (idxF (fun r => decide (D.getD r.toNat 0 = d)) l).toNat 0
/-- The walk from a column on, that many steps long. -/
def walkW (D : List Int) (St : Int → List Int) : Nat → Int → List Int
  | 0, now => [now]
  | f + 1, now => now :: walkW D St f (nextOf D f (St now))
section
variable {x y s q : Int} {cs : List Cell} (hq : 0 ≤ q ∧ q ≤ x * y - 1)
include hq
end

/-- What FirstTopWalk answers. -/
noncomputable def walkOf (x y z : Int) (cs : List Cell) (p q s : Int) : Option (List Int) := by
  classical
  exact if ((HeapOK x y z cs ∧ (0 ≤ p ∧ p ≤ x * y - 1)) ∧ (0 ≤ q ∧ q ≤ x * y - 1) ∧ 0 ≤ s) ∧ 0 ≤ (spreadOf x y cs q s).getD p.toNat 0 then
    some (walkW (spreadOf x y cs q s) (fun r => stepsOf x y (topsOf x y cs) r s) ((spreadOf x y cs q s).getD p.toNat 0).toNat p) else none
end Go.Ab

/- Plain words: the reach and the climb of a walk; what the law of the walks says of them. -/
namespace Go.Ab
open Go
set_option linter.unusedSimpArgs false
set_option linter.unusedVariables false

def sumN (f : Nat → Int) : Nat → Int
  | 0 => 0
  | k + 1 => sumN f k + f k
/-- The reach of the first k steps. -/
def gapN (u : Nat → Int) : Nat → Int
  | 0 => 0
  | k + 1 => max (gapN u k) (gap (u (k + 1)) (u k))
def upN (u : Nat → Int) (k : Nat) : Int := sumN (fun i => max (u (i + 1) - u i) 0) k
/-- The heights along a walk. -/
def along (ts w : List Int) (i : Nat) : Int := ts.getD (w.getD i 0).toNat 0
def WalkOK (x y z : Int) (cs : List Cell) (w : List Int) : Prop := HeapOK x y z cs ∧ 0 < w.length ∧ (∀ i, i < w.length → 0 ≤ w.getD i 0 ∧ w.getD i 0 ≤ x * y - 1) ∧ ∀ i, i + 1 < w.length → w.getD (i + 1) 0 ∈ nexts x y (w.getD i 0)
/-- What WalkClimb answers. -/
noncomputable def wcOf (x y z : Int) (cs : List Cell) (w : List Int) : Option (Int × Int) := by
  classical
  exact if WalkOK x y z cs w then some (gapN (along (topsOf x y cs) w) (w.length - 1), upN (along (topsOf x y cs) w) (w.length - 1)) else none
theorem Way.mono {N N' : Int → List Int} (h : ∀ p q, q ∈ N p → q ∈ N' p) {p : Int} {n : Nat} {q : Int} (w : Way N p n q) : Way N' p n q := by
  induction w with
  | nil => exact .nil
  | snoc _ h' ih => exact .snoc ih (h _ _ h')
end Go.Ab

/- The abstract code of some functions (written by a program of mine from the translation, by way of prepF). -/
namespace Go.Ab.C
open Go.Ab
end Go.Ab.C

/- That the program has this code. -/
namespace Go.Ab.K
open Go Go.Ab
end Go.Ab.K

/- Contracts: least climbs, the program's side. -/
namespace Go.Ab
open Go
set_option linter.unusedSimpArgs false
set_option linter.unusedVariables false

end Go.Ab

/- Contracts: steps between columns and the climbs of walks, both sides; heights. -/
namespace Go.Ab
open Go
set_option linter.unusedSimpArgs false
set_option linter.unusedVariables false
set_option maxRecDepth 20000

/-- What StepColumns answers. -/
noncomputable def stepRes (x y z : Int) (cs : List Cell) (p s : Int) : Option (List Int) := by
  classical
  exact if HeapOK x y z cs ∧ (0 ≤ p ∧ p ≤ x * y - 1) ∧ 0 ≤ s then some (stepsOf x y (topsOf x y cs) p s) else none
/-- What TopHeights answers. -/
noncomputable def topRes (x y z : Int) (cs : List Cell) : Option (List Int) := by
  classical
  exact if HeapOK x y z cs then some (topsOf x y cs) else none
section
variable {x y z : Int} {t o : Nat} {cs : List Cell} {M : Mem} (h : Tri M t o cs) (hn : cs.length ≤ 1000000000)
include h hn
end
end Go.Ab

/- Contracts: views, shadows and heights of columns, both sides, for all heaps. -/
namespace Go.Ab
open Go
set_option linter.unusedSimpArgs false
set_option linter.unusedVariables false
set_option maxRecDepth 20000

noncomputable def vwOf (x y z : Int) (cs : List Cell) (d : Int) : List Int := by
  classical
  exact if HeapOK x y z cs ∧ Dir d then viewL x y z d.toNat cs else []
noncomputable def shsOf (x y z : Int) (cs : List Cell) : Option Shd := by
  classical
  exact if HeapOK x y z cs then some ⟨x, y, z, shdOf x y z 2 cs, shdOf x y z 1 cs, shdOf x y z 0 cs⟩ else none
noncomputable def tpsOf (x y z : Int) (cs : List Cell) : List Int := by
  classical
  exact if HeapOK x y z cs then topsOf x y cs else []
section
variable {x y z : Int} {t : Nat} {cs : List Cell} {M : Mem} (h : Tri M t 0 cs) (hn : cs.length ≤ 1000000000)
include h hn
end
end Go.Ab
