/- Parts of the proof of FnExactFaultPlanesSaid: Gf C_Vb K_Vb Vb Ya C_Zb K_Zb C_Yh K_Yh C_Yf K_Yf C_Yd K_Yd C_Yc K_Yc C_Yb K_Yb C_Tc K_Tc C_Tb K_Tb Ge Ta Tb Tc C_Td K_Td Td Yb Yc Bi. -/
import Derived.Test.YtjndofbhdogblaaA6
import Derived.Test.YtjndofbhdogblaaA4
import Derived.Test.YtjndofbhdogblaaA3
import Derived.Test.YtjndofbhdogblaaProg
import Derived.KernelRfl
import Derived.Test.YtjndofbhdogblaaA5
set_option linter.all false
/- Contracts: the laws' helpers on lists of lists of cells. -/
namespace Go.Ab
open Go
set_option linter.unusedSimpArgs false
set_option linter.unusedVariables false

/-- A list of lists of cells that may be read. -/
def CssV (N : Mem) (v : LV) (L : List (List Cell)) : Prop := (v = .nil ∧ L = []) ∨ ∃ (t : Nat) (refs : List LV), v = .ref t 0 L.length ∧ Live N t (.row refs true 1) ∧ refs.length = L.length ∧ ∀ i, i < L.length → ∃ r, refs[i]? = some r ∧ CellsV N r (L.getD i [])
/-- A list of lists of cells that is one's own, and behind M. -/
def SlCC (M N : Mem) (v : LV) (L : List (List Cell)) : Prop := (v = .nil ∧ L = []) ∨ ∃ (t : Nat) (refs : List LV), v = .ref t 0 L.length ∧ M.length ≤ t ∧ Live N t (.row refs true 1) ∧ refs.length = L.length ∧
  (∀ i, i < L.length → ∃ r, refs[i]? = some r ∧ SlC N r (L.getD i []) ∧ Newer M r) ∧ ∀ (i j : Nat) (r s : LV), i ≠ j → refs[i]? = some r → refs[j]? = some s → Apart r s
theorem CssV.lenV {N : Mem} {v : LV} {L : List (List Cell)} (h : CssV N v L) : lenV v = some (L.length : Int) := by
  rcases h with ⟨rfl, rfl⟩ | ⟨t, refs, rfl, _⟩ <;> rfl
theorem SlCC.v {M N : Mem} {v : LV} {L : List (List Cell)} (h : SlCC M N v L) : CssV N v L := by
  rcases h with h | ⟨t, refs, h1, h2, h3, h4, h5, _⟩
  · exact .inl h
  · exact .inr ⟨t, refs, h1, h3, h4, fun i hi => by obtain ⟨r, k1, k2, _⟩ := h5 i hi; exact ⟨r, k1, k2.v⟩⟩
theorem CssV.pre {M N : Mem} {v : LV} {L : List (List Cell)} (h : CssV M v L) (hp : Pre M N) : CssV N v L := by
  rcases h with h | ⟨t, refs, h1, h3, h4, h5⟩
  · exact .inl h
  · exact .inr ⟨t, refs, h1, h3.pre hp, h4, fun i hi => by obtain ⟨r, k1, k2⟩ := h5 i hi; exact ⟨r, k1, k2.pre hp⟩⟩
/-- What is not behind M may have changed. -/
theorem SlCC.keep {M N N' : Mem} {v : LV} {L : List (List Cell)} (h : SlCC M N v L) (hp : ∀ u, M.length ≤ u → u < N.length → N'[u]? = N[u]?) : SlCC M N' v L := by
  have hl : ∀ {u : Nat} {b : Blk}, Live N u b → M.length ≤ u → Live N' u b := fun {u b} hL hu => by unfold Live; rw [hp u hu hL.lt]; exact hL
  rcases h with h | ⟨t, refs, h1, h2, h3, h4, h5, h6⟩
  · exact .inl h
  · refine .inr ⟨t, refs, h1, h2, hl h3 h2, h4, fun i hi => ?_, h6⟩
    obtain ⟨r, k1, k2, k3⟩ := h5 i hi
    refine ⟨r, k1, ?_, k3⟩
    rcases k2 with k2 | ⟨t', ex, q1, q2⟩
    · exact .inl k2
    · refine .inr ⟨t', ex, q1, hl q2 (Nat.not_lt.1 fun h => ?_)⟩
      rw [q1] at k3
      exact (k3 t' h) rfl
theorem SlCC.pre {M N N' : Mem} {v : LV} {L : List (List Cell)} (h : SlCC M N v L) (hp : Pre N N') : SlCC M N' v L := h.keep fun u _ hu => hp.2 u hu
theorem SlCC.mono {M M' N : Mem} {v : LV} {L : List (List Cell)} (h : SlCC M' N v L) (hp : Pre M M') : SlCC M N v L := by
  rcases h with h | ⟨t, refs, h1, h2, h3, h4, h5, h6⟩
  · exact .inl h
  · exact .inr ⟨t, refs, h1, Nat.le_trans hp.1 h2, h3, h4, fun i hi => by obtain ⟨r, k1, k2, k3⟩ := h5 i hi; exact ⟨r, k1, k2, k3.mono hp⟩, h6⟩
theorem SlCC.nil {M N : Mem} : SlCC M N .nil [] := .inl ⟨rfl, rfl⟩
theorem Css.ge {N : Mem} {hi : Nat} : ∀ {lo : Nat} {rs : List LV} {ls : List (List Cell)}, Css N lo hi rs ls → ∀ s ∈ rs, ∃ u n, s = .ref u 0 n ∧ lo ≤ u
  | _, [], _, _, s, hs => by cases hs
  | _, _ :: _, [], h, _, _ => h.elim
  | lo, r :: rs, l :: ls, ⟨u, h1, h2, h3, h4, h5⟩, s, hs => by
    rcases List.mem_cons.1 hs with rfl | hs
    · exact ⟨u, _, h3, h1⟩
    · obtain ⟨w, n, k1, k2⟩ := h5.ge s hs
      exact ⟨w, n, k1, by omega⟩
theorem Css.pair {N : Mem} {hi : Nat} : ∀ {lo : Nat} {rs : List LV} {ls : List (List Cell)}, Css N lo hi rs ls → rs.Pairwise Apart
  | _, [], _, _ => List.Pairwise.nil
  | _, _ :: _, [], h => h.elim
  | lo, r :: rs, l :: ls, ⟨u, h1, h2, h3, h4, h5⟩ => List.pairwise_cons.2 ⟨fun s hs t o n e => by
      obtain ⟨w, m, k1, k2⟩ := h5.ge s hs
      rw [k1] at e; cases e
      rw [h3]; show t ≠ u; omega, h5.pair⟩
theorem SlCC.of {M N : Mem} {u lo hi : Nat} {refs : List LV} {L : List (List Cell)} (hu : M.length ≤ u) (hlo : M.length ≤ lo) (h : Live N u (.row refs true 1)) (hc : Css N lo hi refs L) : SlCC M N (.ref u 0 refs.length) L := by
  have hpw := hc.pair
  rw [List.pairwise_iff_getElem] at hpw
  refine .inr ⟨u, refs, by rw [hc.len], hu, h, hc.len, fun i hi => ?_, fun i j r s hij hr hs => ?_⟩
  · obtain ⟨w, k1, k2, k3, k4⟩ := hc.get hi
    exact ⟨_, k3, SlC.of k4, Newer.of (by omega)⟩
  · obtain ⟨h1, rfl⟩ := List.getElem?_eq_some_iff.1 hr
    obtain ⟨h2, rfl⟩ := List.getElem?_eq_some_iff.1 hs
    rcases Nat.lt_or_ge i j with h3 | h3
    · exact hpw i j h1 h2 h3
    · exact (hpw j i h2 h1 (by omega)).symm

def tot : List (List Cell) → Nat
  | [] => 0
  | l :: ls => l.length + tot ls
theorem tot_take_succ : ∀ {L : List (List Cell)} {i : Nat}, i < L.length → tot (L.take (i + 1)) = tot (L.take i) + (L.getD i []).length
  | [], _, h => by simp at h
  | l :: ls, 0, _ => by simp [tot]
  | l :: ls, i + 1, h => by
    have := tot_take_succ (L := ls) (i := i) (by simpa using h)
    simp only [List.take_succ_cons, tot, List.getD_cons_succ] at this ⊢
    omega
theorem tot_take_le : ∀ {L : List (List Cell)} {i : Nat}, tot (L.take i) ≤ tot L
  | [], _ => by simp
  | l :: ls, 0 => by simp [tot]
  | l :: ls, i + 1 => by
    have := tot_take_le (L := ls) (i := i)
    simp only [List.take_succ_cons, tot]; omega
theorem tot_get {L : List (List Cell)} {i : Nat} (h : i < L.length) : (L.getD i []).length ≤ tot L := by
  have h1 := tot_take_succ h
  have h2 := tot_take_le (L := L) (i := i + 1)
  omega
theorem tot_le {n : Nat} : ∀ {L : List (List Cell)}, (∀ l ∈ L, l.length ≤ n) → tot L ≤ L.length * n
  | [], _ => by simp [tot]
  | l :: ls, h => by
    have h1 := tot_le (L := ls) fun l hl => h l (by simp [hl])
    have h2 := h l (by simp)
    simp only [tot, List.length_cons, Nat.add_mul, Nat.one_mul]; omega

/-- Of which the first i lists are marked. -/
def marksT (k : Int) (L : List (List Cell)) (i : Nat) : List (List Cell) := (List.range L.length).map fun j => if j < i then marks3 (k + 3 * (tot (L.take j) : Nat)) (L.getD j []).length else L.getD j []
theorem h_eqCss {L : List (List Cell)} {v v' : LV} {M : Mem} (h : CssV M v L) (h' : CssV M v' L) (hn : L.length ≤ 10000000) (ht : tot L ≤ 10000000) : CallsTo PG F.laws_eqIntA3SS [v, v'] M (.B true) M := by
  refine calls_run K.laws_eqIntA3SS rfl ?_
  have hl1 := h.lenV
  have hl2 := h'.lenV
  simp (disch := omega) only [C.laws_eqIntA3SS, hl1, hl2, ↓SXd, SXu, slBounds, ↓sop, ↓aop, ↓reduceIte, LV.cells, AOp.dst, LV.I, LV.B, LV.U, LV.S, LV.nil, Nat.reduceEqDiff, Nat.reduceAdd, Nat.reduceMul, Nat.reduceSub, Nat.reduceLeDiff, Nat.reduceBEq, Nat.reduceDiv, Nat.reduceMod, Int.reduceToNat, Int.reduceLT, Int.reduceLE, Int.reduceAdd, Int.reduceSub, Int.reduceMul, Int.reduceEq, Int.reduceNeg, reduceCtorEq, resV, resAll, ARes.ev, LV.flat, ite_true, ite_false, exists_eq_left', exists_eq_left, keyOf, implies_true, fillC, capOf]
  refine ev_loop (fun m fr M' => ∃ i : Nat, i + m = L.length ∧ M' = M ∧ fr 0 = v ∧ fr 1 = v' ∧ fr 5 = .I i) L.length ⟨0, by omega, rfl, rfl, rfl, rfl⟩ ?_
  rintro m fr M' ⟨i, hi, rfl, f0, f1, f5⟩
  simp (disch := omega) only [f0, f1, f5, hl1, hl2, ↓SXd, SXu, slBounds, ↓sop, ↓aop, ↓reduceIte, LV.cells, AOp.dst, LV.I, LV.B, LV.U, LV.S, LV.nil, Nat.reduceEqDiff, Nat.reduceAdd, Nat.reduceMul, Nat.reduceSub, Nat.reduceLeDiff, Nat.reduceBEq, Nat.reduceDiv, Nat.reduceMod, Int.reduceToNat, Int.reduceLT, Int.reduceLE, Int.reduceAdd, Int.reduceSub, Int.reduceMul, Int.reduceEq, Int.reduceNeg, reduceCtorEq, resV, resAll, ARes.ev, LV.flat, ite_true, ite_false, exists_eq_left', exists_eq_left, keyOf, implies_true, fillC, capOf]
  refine condC_dec (fun hlt => ?_) (fun hlt => ?_)
  · have hil : i < L.length := by omega
    have htg := tot_get hil
    rcases h with ⟨_, rfl⟩ | ⟨t, refs, rfl, h1, h2, h3⟩
    · simp at hil
    rcases h' with ⟨_, rfl⟩ | ⟨t', refs', rfl, h1', h2', h3'⟩
    · simp at hil
    obtain ⟨r, q1, q2⟩ := h3 i hil
    obtain ⟨r', q1', q2'⟩ := h3' i hil
    simp (disch := omega) only [f0, f1, f5, hl1, hl2, h1.cell, h1'.cell, q1, q1', Nat.mul_one, ↓SXd, SXu, slBounds, ↓sop, ↓aop, ↓reduceIte, LV.cells, AOp.dst, LV.I, LV.B, LV.U, LV.S, LV.nil, Nat.reduceEqDiff, Nat.reduceAdd, Nat.reduceMul, Nat.reduceSub, Nat.reduceLeDiff, Nat.reduceBEq, Nat.reduceDiv, Nat.reduceMod, Int.reduceToNat, Int.reduceLT, Int.reduceLE, Int.reduceAdd, Int.reduceSub, Int.reduceMul, Int.reduceEq, Int.reduceNeg, reduceCtorEq, resV, resAll, ARes.ev, LV.flat, ite_true, ite_false, exists_eq_left', exists_eq_left, keyOf, implies_true, fillC, capOf]
    refine callK_of (h_eqCells q2 q2' (by omega) (by omega)) ?_
    simp (disch := omega) only [f0, f1, f5, hl1, hl2, ↓SXd, SXu, slBounds, ↓sop, ↓aop, ↓reduceIte, LV.cells, AOp.dst, LV.I, LV.B, LV.U, LV.S, LV.nil, Nat.reduceEqDiff, Nat.reduceAdd, Nat.reduceMul, Nat.reduceSub, Nat.reduceLeDiff, Nat.reduceBEq, Nat.reduceDiv, Nat.reduceMod, Int.reduceToNat, Int.reduceLT, Int.reduceLE, Int.reduceAdd, Int.reduceSub, Int.reduceMul, Int.reduceEq, Int.reduceNeg, reduceCtorEq, resV, resAll, ARes.ev, LV.flat, ite_true, ite_false, exists_eq_left', exists_eq_left, keyOf, implies_true, fillC, capOf]
    exact ⟨m - 1, by omega, i + 1, by omega, rfl, f0, f1, eqI (natI _)⟩
  · simp (disch := omega) only [f0, f1, f5, hl1, hl2, ↓SXd, SXu, slBounds, ↓sop, ↓aop, ↓reduceIte, LV.cells, AOp.dst, LV.I, LV.B, LV.U, LV.S, LV.nil, Nat.reduceEqDiff, Nat.reduceAdd, Nat.reduceMul, Nat.reduceSub, Nat.reduceLeDiff, Nat.reduceBEq, Nat.reduceDiv, Nat.reduceMod, Int.reduceToNat, Int.reduceLT, Int.reduceLE, Int.reduceAdd, Int.reduceSub, Int.reduceMul, Int.reduceEq, Int.reduceNeg, reduceCtorEq, resV, resAll, ARes.ev, LV.flat, ite_true, ite_false, exists_eq_left', exists_eq_left, keyOf, implies_true, fillC, capOf]
    exact cmp_drop0 rfl

/-- A list of lists of cells, or none, and whether there is one. -/
def CssRes (M : Mem) (r : Option (List (List Cell))) (v : LV) (N : Mem) : Prop := ∃ w, v = .tup [w, .B r.isSome] ∧ SlCC M N w (r.getD []) ∧ Pre M N
end Go.Ab

/- The abstract code of some functions (written by a program of mine from the translation, by way of prepF). -/
namespace Go.Ab.C
open Go.Ab
end Go.Ab.C

/- That the program has this code. -/
namespace Go.Ab.K
open Go Go.Ab
end Go.Ab.K

/- Contracts: marks in a shadow's lists. -/
namespace Go.Ab
open Go
set_option linter.unusedSimpArgs false
set_option linter.unusedVariables false

theorem SlC.at {M N : Mem} {w : LV} {l : List Cell} (h : SlC M w l) (hk : ∀ t o n, w = .ref t o n → N[t]? = M[t]?) : SlC N w l := by
  rcases h with h | ⟨t, ex, h1, h2⟩
  · exact .inl h
  · refine .inr ⟨t, ex, h1, ?_⟩
    unfold Live; rw [hk _ _ _ h1]; exact h2
theorem Live.at {M N : Mem} {t : Nat} {b : Blk} (h : Live M t b) (hk : N[t]? = M[t]?) : Live N t b := by unfold Live; rw [hk]; exact h

/-- What is left as it was by marks in three blocks. -/
def Pre3 (a b c : Nat) (M N : Mem) : Prop := M.length ≤ N.length ∧ ∀ u, u < M.length → u ≠ a → u ≠ b → u ≠ c → N[u]? = M[u]?
theorem Pre3.pre {a b c : Nat} {M0 M N : Mem} (hp : Pre3 a b c M N) (h : Pre M0 M) (h1 : M0.length ≤ a) (h2 : M0.length ≤ b) (h3 : M0.length ≤ c) : Pre M0 N := ⟨Nat.le_trans h.1 hp.1, fun u hu => by rw [hp.2 u (Nat.lt_of_lt_of_le hu h.1) (by omega) (by omega) (by omega)]; exact h.2 u hu⟩

end Go.Ab

/- Contracts: the laws' helpers on lists of pieces. -/
namespace Go.Ab
open Go
set_option linter.unusedSimpArgs false
set_option linter.unusedVariables false
set_option maxRecDepth 20000

/-- Lists of cells of one's own, all behind M. -/
def PcsO (M N : Mem) (t : Nat) (L : List (List Cell)) : Prop := M.length ≤ t ∧ ∃ (refs : List LV) (hi : Nat), Live N t (.row refs true 1) ∧ refs.length = L.length ∧ Css N (t + 1) hi refs L ∧ hi ≤ N.length
theorem PcsO.pcs {M N : Mem} {t : Nat} {L : List (List Cell)} (h : PcsO M N t L) : Pcs N t L := by
  obtain ⟨_, refs, hi, h1, h2, h3, _⟩ := h
  exact ⟨refs, h1.has, h2, fun i hi => by obtain ⟨u, _, _, a, b⟩ := h3.get hi; exact ⟨u, 0, a, b.has⟩⟩
theorem PcsO.slcc {M N : Mem} {t : Nat} {L : List (List Cell)} (h : PcsO M N t L) : SlCC M N (.ref t 0 L.length) L := by
  obtain ⟨h0, refs, hi, h1, h2, h3, _⟩ := h
  rw [← h2]; exact SlCC.of h0 (by omega) h1 h3
theorem PcsO.pre {M N N' : Mem} {t : Nat} {L : List (List Cell)} (h : PcsO M N t L) (hp : Pre N N') : PcsO M N' t L := by
  obtain ⟨h0, refs, hi, h1, h2, h3, h4⟩ := h
  exact ⟨h0, refs, hi, h1.pre hp, h2, h3.pre hp, Nat.le_trans h4 hp.1⟩
theorem PcsO.lt {M N : Mem} {t : Nat} {L : List (List Cell)} (h : PcsO M N t L) : t < N.length := by obtain ⟨_, refs, hi, h1, _⟩ := h; exact h1.lt

theorem tot_le_mem {L : List (List Cell)} : ∀ {l : List Cell}, l ∈ L → l.length ≤ tot L := by
  induction L with
  | nil => intro l h; cases h
  | cons a L ih =>
    intro l h
    rcases List.mem_cons.1 h with rfl | h
    · simp only [tot]; omega
    · have := ih h; simp only [tot]; omega
theorem h_szIntA3SS {t : Nat} {L : List (List Cell)} {left : Int} {M : Mem} (h : Pcs M t L) (h0 : 0 ≤ left) (h1 : left ≤ 10000000) (hn : L.length ≤ 9223372036854775807 ∧ ∀ l ∈ L, l.length ≤ 9223372036854775807) :
    CallsTo PG F.laws_szIntA3SS [.ref t 0 L.length, .I left] M (.I (if left < L.length + tot L then -1 else left - L.length - tot L)) M := by
  refine calls_run K.laws_szIntA3SS rfl ?_
  obtain ⟨hn1, hn2⟩ := hn
  simp (disch := omega) only [C.laws_szIntA3SS, ↓SXd, SXu, slBounds, ↓sop, ↓aop, ↓reduceIte, LV.cells, AOp.dst, LV.I, LV.B, LV.U, LV.S, LV.nil, Nat.reduceEqDiff, Nat.reduceAdd, Nat.reduceMul, Nat.reduceSub, Nat.reduceLeDiff, Nat.reduceBEq, Nat.reduceDiv, Nat.reduceMod, Int.reduceToNat, Int.reduceLT, Int.reduceLE, Int.reduceAdd, Int.reduceSub, Int.reduceMul, Int.reduceEq, Int.reduceNeg, reduceCtorEq, resV, resAll, ARes.ev, LV.flat, ite_true, ite_false, exists_eq_left', exists_eq_left, keyOf, implies_true, fillC, capOf]
  by_cases hl : left < L.length
  · have hl' : left - (L.length : Nat) < 0 := by omega
    simp (disch := omega) only [hl', ↓SXd, SXu, slBounds, ↓sop, ↓aop, ↓reduceIte, LV.cells, AOp.dst, LV.I, LV.B, LV.U, LV.S, LV.nil, Nat.reduceEqDiff, Nat.reduceAdd, Nat.reduceMul, Nat.reduceSub, Nat.reduceLeDiff, Nat.reduceBEq, Nat.reduceDiv, Nat.reduceMod, Int.reduceToNat, Int.reduceLT, Int.reduceLE, Int.reduceAdd, Int.reduceSub, Int.reduceMul, Int.reduceEq, Int.reduceNeg, reduceCtorEq, resV, resAll, ARes.ev, LV.flat, ite_true, ite_false, exists_eq_left', exists_eq_left, keyOf, implies_true, fillC, capOf]
    rw [if_pos (by omega)]
    exact cmp_drop0 rfl
  · have hl' : ¬ (left - (L.length : Nat) < 0) := by omega
    simp (disch := omega) only [hl', ↓SXd, SXu, slBounds, ↓sop, ↓aop, ↓reduceIte, LV.cells, AOp.dst, LV.I, LV.B, LV.U, LV.S, LV.nil, Nat.reduceEqDiff, Nat.reduceAdd, Nat.reduceMul, Nat.reduceSub, Nat.reduceLeDiff, Nat.reduceBEq, Nat.reduceDiv, Nat.reduceMod, Int.reduceToNat, Int.reduceLT, Int.reduceLE, Int.reduceAdd, Int.reduceSub, Int.reduceMul, Int.reduceEq, Int.reduceNeg, reduceCtorEq, resV, resAll, ARes.ev, LV.flat, ite_true, ite_false, exists_eq_left', exists_eq_left, keyOf, implies_true, fillC, capOf]
    refine ev_loop (fun m fr M' => ∃ i : Nat, i + m = L.length ∧ M' = M ∧ (tot (L.take i) : Int) ≤ left - (L.length : Nat) ∧ fr 0 = .ref t 0 L.length ∧ fr 1 = .I (left - (L.length : Nat) - (tot (L.take i) : Nat)) ∧ fr 5 = .I i) L.length
      ⟨0, by omega, rfl, by simp [tot]; omega, rfl, by show LV.I _ = LV.I _; simp [tot], rfl⟩ ?_
    rintro m fr M' ⟨i, hi, rfl, ht, f0, f1, f5⟩
    simp (disch := omega) only [f0, f1, f5, ↓SXd, SXu, slBounds, ↓sop, ↓aop, ↓reduceIte, LV.cells, AOp.dst, LV.I, LV.B, LV.U, LV.S, LV.nil, Nat.reduceEqDiff, Nat.reduceAdd, Nat.reduceMul, Nat.reduceSub, Nat.reduceLeDiff, Nat.reduceBEq, Nat.reduceDiv, Nat.reduceMod, Int.reduceToNat, Int.reduceLT, Int.reduceLE, Int.reduceAdd, Int.reduceSub, Int.reduceMul, Int.reduceEq, Int.reduceNeg, reduceCtorEq, resV, resAll, ARes.ev, LV.flat, ite_true, ite_false, exists_eq_left', exists_eq_left, keyOf, implies_true, fillC, capOf]
    refine condC_dec (fun hlt => ?_) (fun hlt => ?_)
    · have hil : i < L.length := by omega
      obtain ⟨u, o, hg, hT⟩ := h.get hil
      have hm := hn2 _ (getD_mem' (d := []) hil)
      have hts := tot_take_succ hil
      have htot : tot (L.take (i + 1)) ≤ tot L := by
        have := tot_take_le (L := L) (i := i + 1); exact this
      generalize L.getD i [] = l at hg hT hm hts
      simp (disch := omega) only [f0, f1, f5, hg, Nat.mul_one, Nat.zero_add, ↓SXd, SXu, slBounds, ↓sop, ↓aop, ↓reduceIte, LV.cells, AOp.dst, LV.I, LV.B, LV.U, LV.S, LV.nil, Nat.reduceEqDiff, Nat.reduceAdd, Nat.reduceMul, Nat.reduceSub, Nat.reduceLeDiff, Nat.reduceBEq, Nat.reduceDiv, Nat.reduceMod, Int.reduceToNat, Int.reduceLT, Int.reduceLE, Int.reduceAdd, Int.reduceSub, Int.reduceMul, Int.reduceEq, Int.reduceNeg, reduceCtorEq, resV, resAll, ARes.ev, LV.flat, ite_true, ite_false, exists_eq_left', exists_eq_left, keyOf, implies_true, fillC, capOf]
      refine callK_of (h_szIntA3S (by omega) (by omega) hm) ?_
      simp (disch := omega) only [f0, f1, f5, ↓SXd, SXu, slBounds, ↓sop, ↓aop, ↓reduceIte, LV.cells, AOp.dst, LV.I, LV.B, LV.U, LV.S, LV.nil, Nat.reduceEqDiff, Nat.reduceAdd, Nat.reduceMul, Nat.reduceSub, Nat.reduceLeDiff, Nat.reduceBEq, Nat.reduceDiv, Nat.reduceMod, Int.reduceToNat, Int.reduceLT, Int.reduceLE, Int.reduceAdd, Int.reduceSub, Int.reduceMul, Int.reduceEq, Int.reduceNeg, reduceCtorEq, resV, resAll, ARes.ev, LV.flat, ite_true, ite_false, exists_eq_left', exists_eq_left, keyOf, implies_true, fillC, capOf]
      by_cases hl2 : left - (L.length : Nat) - (tot (L.take i) : Nat) < l.length
      · rw [if_pos hl2]
        simp (disch := omega) only [f0, f1, f5, Int.reduceLT, ↓SXd, SXu, slBounds, ↓sop, ↓aop, ↓reduceIte, LV.cells, AOp.dst, LV.I, LV.B, LV.U, LV.S, LV.nil, Nat.reduceEqDiff, Nat.reduceAdd, Nat.reduceMul, Nat.reduceSub, Nat.reduceLeDiff, Nat.reduceBEq, Nat.reduceDiv, Nat.reduceMod, Int.reduceToNat, Int.reduceLT, Int.reduceLE, Int.reduceAdd, Int.reduceSub, Int.reduceMul, Int.reduceEq, Int.reduceNeg, reduceCtorEq, resV, resAll, ARes.ev, LV.flat, ite_true, ite_false, exists_eq_left', exists_eq_left, keyOf, implies_true, fillC, capOf]
        rw [if_pos (by omega)]
        exact cmp_drop0 rfl
      · rw [if_neg hl2]
        have hl3 : ¬ (left - (L.length : Nat) - (tot (L.take i) : Nat) - (l.length : Nat) < 0) := by omega
        simp (disch := omega) only [f0, f1, f5, hl3, ↓SXd, SXu, slBounds, ↓sop, ↓aop, ↓reduceIte, LV.cells, AOp.dst, LV.I, LV.B, LV.U, LV.S, LV.nil, Nat.reduceEqDiff, Nat.reduceAdd, Nat.reduceMul, Nat.reduceSub, Nat.reduceLeDiff, Nat.reduceBEq, Nat.reduceDiv, Nat.reduceMod, Int.reduceToNat, Int.reduceLT, Int.reduceLE, Int.reduceAdd, Int.reduceSub, Int.reduceMul, Int.reduceEq, Int.reduceNeg, reduceCtorEq, resV, resAll, ARes.ev, LV.flat, ite_true, ite_false, exists_eq_left', exists_eq_left, keyOf, implies_true, fillC, capOf]
        exact ⟨m - 1, by omega, i + 1, by omega, rfl, by omega, f0, eqI (by omega), eqI (natI _)⟩
    · simp (disch := omega) only [f0, f1, f5, ↓SXd, SXu, slBounds, ↓sop, ↓aop, ↓reduceIte, LV.cells, AOp.dst, LV.I, LV.B, LV.U, LV.S, LV.nil, Nat.reduceEqDiff, Nat.reduceAdd, Nat.reduceMul, Nat.reduceSub, Nat.reduceLeDiff, Nat.reduceBEq, Nat.reduceDiv, Nat.reduceMod, Int.reduceToNat, Int.reduceLT, Int.reduceLE, Int.reduceAdd, Int.reduceSub, Int.reduceMul, Int.reduceEq, Int.reduceNeg, reduceCtorEq, resV, resAll, ARes.ev, LV.flat, ite_true, ite_false, exists_eq_left', exists_eq_left, keyOf, implies_true, fillC, capOf]
      have : i = L.length := by omega
      subst this
      rw [List.take_length] at ht f1 ⊢
      rw [if_neg (by omega)]
      exact cmp_drop0 rfl
theorem made_nil (n : Nat) : (List.replicate n [LV.val (Value.slice none 0 0)]).flatten = List.replicate n (LV.val (Value.slice none 0 0)) := by
  simp
theorem h_toIntA3SS {t : Nat} {L : List (List Cell)} {M : Mem} (h : Pcs M t L) (hn : L.length + tot L ≤ 10000000) :
    CallsR PG F.laws_toIntA3SS [.ref t 0 L.length] M fun v N => ∃ u, v = .ref u 0 L.length ∧ PcsO M N u L ∧ Pre M N := by
  have ht := h.lt
  refine callsR_run K.laws_toIntA3SS rfl ?_
  simp (disch := omega) only [C.laws_toIntA3SS, made_nil, ↓SXd, SXu, slBounds, ↓sop, ↓aop, ↓reduceIte, LV.cells, AOp.dst, LV.I, LV.B, LV.U, LV.S, LV.nil, Nat.reduceEqDiff, Nat.reduceAdd, Nat.reduceMul, Nat.reduceSub, Nat.reduceLeDiff, Nat.reduceBEq, Nat.reduceDiv, Nat.reduceMod, Int.reduceToNat, Int.reduceLT, Int.reduceLE, Int.reduceAdd, Int.reduceSub, Int.reduceMul, Int.reduceEq, Int.reduceNeg, reduceCtorEq, resV, resAll, ARes.ev, LV.flat, ite_true, ite_false, exists_eq_left', exists_eq_left, keyOf, implies_true, fillC, capOf]
  refine ev_loop (fun m fr M' => ∃ (i : Nat) (rs : List LV), i + m = L.length ∧ Pre M M' ∧ Live M' M.length (.row (rs ++ List.replicate (L.length - i) (LV.val (Value.slice none 0 0))) true 1) ∧ rs.length = i ∧ Css M' (M.length + 1) M'.length rs (L.take i) ∧ fr 0 = .ref t 0 L.length ∧ fr 3 = .ref M.length 0 L.length ∧ fr 4 = .I i) L.length
    ⟨0, [], by omega, Pre.app _ _, by simpa using Live.new, rfl, trivial, rfl, rfl, rfl⟩ ?_
  rintro m fr M' ⟨i, rs, hi, hpre, hout, hrs, hcss, f0, f3, f4⟩
  simp (disch := omega) only [f0, f3, f4, ↓SXd, SXu, slBounds, ↓sop, ↓aop, ↓reduceIte, LV.cells, AOp.dst, LV.I, LV.B, LV.U, LV.S, LV.nil, Nat.reduceEqDiff, Nat.reduceAdd, Nat.reduceMul, Nat.reduceSub, Nat.reduceLeDiff, Nat.reduceBEq, Nat.reduceDiv, Nat.reduceMod, Int.reduceToNat, Int.reduceLT, Int.reduceLE, Int.reduceAdd, Int.reduceSub, Int.reduceMul, Int.reduceEq, Int.reduceNeg, reduceCtorEq, resV, resAll, ARes.ev, LV.flat, ite_true, ite_false, exists_eq_left', exists_eq_left, keyOf, implies_true, fillC, capOf]
  refine condC_dec (fun hlt => ?_) (fun hlt => ?_)
  · have hil : i < L.length := by omega
    obtain ⟨u, o, hg, hT⟩ := (h.pre hpre).get hil
    have hml := tot_le_mem (getD_mem' (d := []) hil)
    have hts : L.take (i + 1) = L.take i ++ [L.getD i []] := by
      rw [List.take_succ, List.getElem?_eq_getElem hil]; simp [hil]
    generalize L.getD i [] = l at hg hT hml hts
    simp (disch := omega) only [f0, f3, f4, hg, Nat.mul_one, Nat.zero_add, ↓SXd, SXu, slBounds, ↓sop, ↓aop, ↓reduceIte, LV.cells, AOp.dst, LV.I, LV.B, LV.U, LV.S, LV.nil, Nat.reduceEqDiff, Nat.reduceAdd, Nat.reduceMul, Nat.reduceSub, Nat.reduceLeDiff, Nat.reduceBEq, Nat.reduceDiv, Nat.reduceMod, Int.reduceToNat, Int.reduceLT, Int.reduceLE, Int.reduceAdd, Int.reduceSub, Int.reduceMul, Int.reduceEq, Int.reduceNeg, reduceCtorEq, resV, resAll, ARes.ev, LV.flat, ite_true, ite_false, exists_eq_left', exists_eq_left, keyOf, implies_true, fillC, capOf]
    refine callN_of (h_toIntA3S hT (by omega)) ?_
    intro v N hv hp2 hl
    have hout2 := hout.pre hp2
    simp (disch := omega) only [f0, f3, f4, ↓SXd, SXu, slBounds, ↓sop, ↓aop, ↓reduceIte, LV.cells, AOp.dst, LV.I, LV.B, LV.U, LV.S, LV.nil, Nat.reduceEqDiff, Nat.reduceAdd, Nat.reduceMul, Nat.reduceSub, Nat.reduceLeDiff, Nat.reduceBEq, Nat.reduceDiv, Nat.reduceMod, Int.reduceToNat, Int.reduceLT, Int.reduceLE, Int.reduceAdd, Int.reduceSub, Int.reduceMul, Int.reduceEq, Int.reduceNeg, reduceCtorEq, resV, resAll, ARes.ev, LV.flat, ite_true, ite_false, exists_eq_left', exists_eq_left, keyOf, implies_true, fillC, capOf]
    refine memK_one hout2 (by rw [List.length_append, hrs, List.length_replicate]; omega) fun N3 k1 k2 k3 => ?_
    simp (disch := omega) only [f0, f3, f4, ↓SXd, SXu, slBounds, ↓sop, ↓aop, ↓reduceIte, LV.cells, AOp.dst, LV.I, LV.B, LV.U, LV.S, LV.nil, Nat.reduceEqDiff, Nat.reduceAdd, Nat.reduceMul, Nat.reduceSub, Nat.reduceLeDiff, Nat.reduceBEq, Nat.reduceDiv, Nat.reduceMod, Int.reduceToNat, Int.reduceLT, Int.reduceLE, Int.reduceAdd, Int.reduceSub, Int.reduceMul, Int.reduceEq, Int.reduceNeg, reduceCtorEq, resV, resAll, ARes.ev, LV.flat, ite_true, ite_false, exists_eq_left', exists_eq_left, keyOf, implies_true, fillC, capOf]
    have hol := hout.lt
    have hset : (rs ++ List.replicate (L.length - i) (LV.val (Value.slice none 0 0))).set i (.ref v 0 l.length) = (rs ++ [.ref v 0 l.length]) ++ List.replicate (L.length - (i + 1)) (LV.val (Value.slice none 0 0)) := by
      rw [List.set_append_right _ _ (by omega), hrs, Nat.sub_self, show L.length - i = (L.length - (i + 1)) + 1 by omega, List.replicate_succ, List.set_cons_zero, List.append_assoc]; rfl
    rw [hset] at k2
    refine ⟨m - 1, by omega, i + 1, rs ++ [.ref v 0 l.length], by omega, pre_step (hpre.trans hp2) (by omega) (j := 0) k1 k3, k2, by simp [hrs], ?_, f0, f3, eqI (natI _)⟩
    rw [hts]
    have hvl := hl.lt
    exact ((hcss.pre hp2).keep (.inl (.inr (by omega))) k3).snoc hv (by omega) (live_step hl (by omega) k3) (by have := hpre.1; omega)
  · simp (disch := omega) only [f0, f3, f4, ↓SXd, SXu, slBounds, ↓sop, ↓aop, ↓reduceIte, LV.cells, AOp.dst, LV.I, LV.B, LV.U, LV.S, LV.nil, Nat.reduceEqDiff, Nat.reduceAdd, Nat.reduceMul, Nat.reduceSub, Nat.reduceLeDiff, Nat.reduceBEq, Nat.reduceDiv, Nat.reduceMod, Int.reduceToNat, Int.reduceLT, Int.reduceLE, Int.reduceAdd, Int.reduceSub, Int.reduceMul, Int.reduceEq, Int.reduceNeg, reduceCtorEq, resV, resAll, ARes.ev, LV.flat, ite_true, ite_false, exists_eq_left', exists_eq_left, keyOf, implies_true, fillC, capOf]
    have : i = L.length := by omega
    subst this
    rw [List.take_length] at hcss
    rw [Nat.sub_self, List.replicate_zero, List.append_nil] at hout
    exact ⟨_, rfl, ⟨Nat.le_refl _, rs, _, hout, hrs, hcss, Nat.le_refl _⟩, hpre⟩
/-- Marks in lists of cells: what lies elsewhere stays. -/
theorem h_markPcs {L : List (List Cell)} {k : Int} {t lo hi : Nat} {refs : List LV} {M : Mem} (ht : Live M t (.row refs true 1)) (hrl : refs.length = L.length) (hc : Css M lo hi refs L) (htl : t < lo) (hn : L.length + tot L ≤ 10000000) (hk : 0 ≤ k ∧ k ≤ 100000000) :
    CallsR PG F.laws_markIntA3SS [.ref t 0 L.length, .I k] M fun r N => r = .I (k + 3 * (tot L : Nat)) ∧ N.length = M.length ∧ ∀ u, u < lo ∨ hi ≤ u → N[u]? = M[u]? := by
  have hpw := hc.pair
  rw [List.pairwise_iff_getElem] at hpw
  have hget := fun (j : Nat) (hj : j < L.length) => hc.get hj
  refine callsR_run K.laws_markIntA3SS rfl ?_
  simp (disch := omega) only [C.laws_markIntA3SS, ↓SXd, SXu, slBounds, ↓sop, ↓aop, ↓reduceIte, LV.cells, AOp.dst, LV.I, LV.B, LV.U, LV.S, LV.nil, Nat.reduceEqDiff, Nat.reduceAdd, Nat.reduceMul, Nat.reduceSub, Nat.reduceLeDiff, Nat.reduceBEq, Nat.reduceDiv, Nat.reduceMod, Int.reduceToNat, Int.reduceLT, Int.reduceLE, Int.reduceAdd, Int.reduceSub, Int.reduceMul, Int.reduceEq, Int.reduceNeg, reduceCtorEq, resV, resAll, ARes.ev, LV.flat, ite_true, ite_false, exists_eq_left', exists_eq_left, keyOf, implies_true, fillC, capOf]
  refine ev_loop (fun m fr M' => ∃ i : Nat, i + m = L.length ∧ M'.length = M.length ∧ Live M' t (.row refs true 1) ∧ (∀ j, i ≤ j → j < L.length → ∃ u, lo ≤ u ∧ u < hi ∧ refs[j]? = some (.ref u 0 (L.getD j []).length) ∧ Live M' u (.row (triL (L.getD j [])) true 3)) ∧ (∀ u, u < lo ∨ hi ≤ u → M'[u]? = M[u]?) ∧ fr 0 = .ref t 0 L.length ∧ fr 1 = .I (k + 3 * (tot (L.take i) : Nat)) ∧ fr 5 = .I i) L.length
    ⟨0, by omega, rfl, ht, fun j _ hj => hget j hj, fun _ _ => rfl, rfl, eqI (by simp [tot]), rfl⟩ ?_
  rintro m fr M' ⟨i, hi', hlen, hrow, hsub, hoff, f0, f1, f5⟩
  simp (disch := omega) only [f0, f1, f5, ↓SXd, SXu, slBounds, ↓sop, ↓aop, ↓reduceIte, LV.cells, AOp.dst, LV.I, LV.B, LV.U, LV.S, LV.nil, Nat.reduceEqDiff, Nat.reduceAdd, Nat.reduceMul, Nat.reduceSub, Nat.reduceLeDiff, Nat.reduceBEq, Nat.reduceDiv, Nat.reduceMod, Int.reduceToNat, Int.reduceLT, Int.reduceLE, Int.reduceAdd, Int.reduceSub, Int.reduceMul, Int.reduceEq, Int.reduceNeg, reduceCtorEq, resV, resAll, ARes.ev, LV.flat, ite_true, ite_false, exists_eq_left', exists_eq_left, keyOf, implies_true, fillC, capOf]
  refine condC_dec (fun hlt => ?_) (fun hlt => ?_)
  · have hil : i < L.length := by omega
    obtain ⟨u, hu1, hu2, hu3, hu4⟩ := hsub i (Nat.le_refl _) hil
    have hg := hrow.cell (o := i)
    rw [hu3] at hg
    have hml := tot_le_mem (getD_mem' (d := []) hil)
    have hts := tot_take_succ hil
    have htl2 := tot_take_le (L := L) (i := i + 1)
    simp (disch := omega) only [f0, f1, f5, hg, Nat.mul_one, Nat.zero_add, ↓SXd, SXu, slBounds, ↓sop, ↓aop, ↓reduceIte, LV.cells, AOp.dst, LV.I, LV.B, LV.U, LV.S, LV.nil, Nat.reduceEqDiff, Nat.reduceAdd, Nat.reduceMul, Nat.reduceSub, Nat.reduceLeDiff, Nat.reduceBEq, Nat.reduceDiv, Nat.reduceMod, Int.reduceToNat, Int.reduceLT, Int.reduceLE, Int.reduceAdd, Int.reduceSub, Int.reduceMul, Int.reduceEq, Int.reduceNeg, reduceCtorEq, resV, resAll, ARes.ev, LV.flat, ite_true, ite_false, exists_eq_left', exists_eq_left, keyOf, implies_true, fillC, capOf]
    refine callR_of (h_markIntA3S (SlC.of hu4) (by omega) (by omega)) ?_
    rintro _ N ⟨rfl, _, hNl, hNo⟩
    simp (disch := omega) only [f0, f1, f5, ↓SXd, SXu, slBounds, ↓sop, ↓aop, ↓reduceIte, LV.cells, AOp.dst, LV.I, LV.B, LV.U, LV.S, LV.nil, Nat.reduceEqDiff, Nat.reduceAdd, Nat.reduceMul, Nat.reduceSub, Nat.reduceLeDiff, Nat.reduceBEq, Nat.reduceDiv, Nat.reduceMod, Int.reduceToNat, Int.reduceLT, Int.reduceLE, Int.reduceAdd, Int.reduceSub, Int.reduceMul, Int.reduceEq, Int.reduceNeg, reduceCtorEq, resV, resAll, ARes.ev, LV.flat, ite_true, ite_false, exists_eq_left', exists_eq_left, keyOf, implies_true, fillC, capOf]
    refine ⟨m - 1, by omega, i + 1, by omega, by omega, Live.at hrow (hNo t (by show t ≠ u; omega)), fun j hj1 hj2 => ?_, fun v hv => ?_, f0, eqI (by omega), eqI (natI _)⟩
    · obtain ⟨v, hv1, hv2, hv3, hv4⟩ := hsub j (by omega) hj2
      refine ⟨v, hv1, hv2, hv3, Live.at hv4 (hNo v ?_)⟩
      have hii : i < refs.length := by omega
      have hjj : j < refs.length := by omega
      have := hpw i j hii hjj (by omega)
      rw [List.getElem?_eq_getElem hii, Option.some.injEq] at hu3
      rw [List.getElem?_eq_getElem hjj, Option.some.injEq] at hv3
      rw [hu3, hv3] at this
      exact this _ _ _ rfl
    · rw [hNo v (by show v ≠ u; omega)]; exact hoff v hv
  · simp (disch := omega) only [f0, f1, f5, ↓SXd, SXu, slBounds, ↓sop, ↓aop, ↓reduceIte, LV.cells, AOp.dst, LV.I, LV.B, LV.U, LV.S, LV.nil, Nat.reduceEqDiff, Nat.reduceAdd, Nat.reduceMul, Nat.reduceSub, Nat.reduceLeDiff, Nat.reduceBEq, Nat.reduceDiv, Nat.reduceMod, Int.reduceToNat, Int.reduceLT, Int.reduceLE, Int.reduceAdd, Int.reduceSub, Int.reduceMul, Int.reduceEq, Int.reduceNeg, reduceCtorEq, resV, resAll, ARes.ev, LV.flat, ite_true, ite_false, exists_eq_left', exists_eq_left, keyOf, implies_true, fillC, capOf]
    have : i = L.length := by omega
    subst this
    rw [List.take_length]
    exact ⟨rfl, hlen, hoff⟩
end Go.Ab

/- The abstract code of some functions (written by a program of mine from the translation, by way of prepF). -/
namespace Go.Ab.C
open Go.Ab
def spec_FaultPlanes : AFn :=
  ⟨3, 98, [.tmp 6, .tmp 7],
    .seq (.ops [(none, .box 3 (.t 0)),
       (none, .mv 6 (.c .nil)),
       (none, .mv 7 (.c (.B false)))])
    (.seq (.ops [(none, .buildSl 15 0 2 [] []),
        (none, .mv 8 (.t 15))])
     (.seq (.seq (.ops [(none, .loadN 16 4 (.t 3)),
          (none, .mv 17 (.t 1)),
          (none, .call (some 18) F.spec_l9Ask [(.t 16), (.t 17)]),
          (none, .un 19 .not (.t 18)),
          (none, .mv 20 (.t 19)),
          (some (20, false), .loadN 21 4 (.t 3)),
          (some (20, false), .mv 22 (.t 1)),
          (some (20, false), .mv 23 (.t 2)),
          (some (20, false), .call (some 24) F.spec_l9Packing [(.t 21), (.t 22), (.t 23)]),
          (some (20, false), .un 25 .not (.t 24)),
          (none, .pick 26 (.t 20) (.c (.B true)) (.t 25))])
       (.cond (.t 26) (.seq (.ops [(none, .mv 27 (.t 8)),
            (none, .mv 6 (.t 27)),
            (none, .mv 7 (.c (.B false)))])
         (.ret))
        (.skip)))
      (.seq (.ops [(none, .loadN 28 4 (.t 3)),
          (none, .call (some 29) F.spec_l2All [(.t 28)]),
          (none, .mv 9 (.t 29))])
       (.seq (.seq (.ops [(none, .mv 10 (.c (.I 0)))])
         (.block 0 (.loop (.seq (.seq (.ops [(none, .mv 30 (.t 10)),
                (none, .bin 31 .lss (.t 30) (.c (.I 3)))])
             (.cond (.t 31) (.skip)
              (.exit 0)))
            (.seq (.block 1 (.seq (.ops [(none, .mv 11 (.c (.I 1)))])
               (.block 2 (.loop (.seq (.seq (.ops [(none, .mv 34 (.t 11)),
                      (none, .loadN 35 4 (.t 3)),
                      (none, .mv 36 (.t 10)),
                      (none, .call (some 37) F.spec_l2Long [(.t 35), (.t 36)]),
                      (none, .bin 38 .lss (.t 34) (.t 37))])
                   (.cond (.t 38) (.skip)
                    (.exit 2)))
                  (.seq (.block 3 (.seq (.ops [(none, .mv 12 (.c (.B false)))])
                     (.seq (.seq (.ops [(none, .mv 13 (.c (.I 0)))])
                       (.block 4 (.loop (.seq (.seq (.ops [(none, .mv 41 (.t 13)),
                              (none, .mv 42 (.t 9)),
                              (none, .len 43 (.t 42)),
                              (none, .bin 44 .lss (.t 41) (.t 43))])
                           (.cond (.t 44) (.skip)
                            (.exit 4)))
                          (.seq (.block 5 (.seq (.ops [(none, .mv 14 (.c (.I 0)))])
                             (.block 6 (.loop (.seq (.seq (.ops [(none, .mv 47 (.t 14)),
                                    (none, .mv 48 (.t 9)),
                                    (none, .len 49 (.t 48)),
                                    (none, .bin 50 .lss (.t 47) (.t 49)),
                                    (none, .mv 51 (.t 50)),
                                    (some (51, true), .mv 52 (.t 2)),
                                    (some (51, true), .mv 53 (.t 13)),
                                    (some (51, true), .idxS 54 1 (.t 52) (.t 53)),
                                    (some (51, true), .load1 55 (.t 54)),
                                    (some (51, true), .bin 56 .geq (.t 55) (.c (.I 0))),
                                    (none, .pick 57 (.t 51) (.t 56) (.c (.B false)))])
                                 (.cond (.t 57) (.skip)
                                  (.exit 6)))
                                (.seq (.block 7 (.seq (.draw [⟨(none, .mv 60 (.t 2)), [], []⟩,
                                      ⟨(none, .mv 61 (.t 14)), [], []⟩,
                                      ⟨(none, .idxS 62 1 (.t 60) (.t 61)), [], []⟩,
                                      ⟨(none, .load1 63 (.t 62)), [], []⟩,
                                      ⟨(none, .mv 64 (.t 2)), [], []⟩,
                                      ⟨(none, .mv 65 (.t 13)), [], []⟩,
                                      ⟨(none, .idxS 66 1 (.t 64) (.t 65)), [], []⟩,
                                      ⟨(none, .load1 67 (.t 66)), [], []⟩,
                                      ⟨(none, .bin 68 .eql (.t 63) (.t 67)), [], []⟩,
                                      ⟨(none, .mv 69 (.t 68)), [], []⟩,
                                      ⟨(some (69, true), .mv 70 (.t 9)), [], []⟩,
                                      ⟨(some (69, true), .mv 71 (.t 13)), [], []⟩,
                                      ⟨(some (69, true), .mv 72 (.t 10)), [], []⟩,
                                      ⟨(some (69, true), .idxS 73 3 (.t 70) (.t 71)), [], []⟩,
                                      ⟨(some (69, true), .idxA 74 3 1 (.t 73) (.t 72)), [], []⟩,
                                      ⟨(some (69, true), .load1 75 (.t 74)), [], []⟩,
                                      ⟨(some (69, true), .mv 76 (.t 11)), [], []⟩,
                                      ⟨(some (69, true), .bin 77 .lss (.t 75) (.t 76)), [], []⟩,
                                      ⟨(none, .pick 78 (.t 69) (.t 77) (.c (.B false))), [], []⟩,
                                      ⟨(none, .mv 79 (.t 78)), [], []⟩,
                                      ⟨(some (79, true), .mv 80 (.t 9)), [], []⟩,
                                      ⟨(some (79, true), .mv 81 (.t 14)), [], []⟩,
                                      ⟨(some (79, true), .mv 82 (.t 10)), [], []⟩,
                                      ⟨(some (79, true), .idxS 83 3 (.t 80) (.t 81)), [], []⟩,
                                      ⟨(some (79, true), .idxA 84 3 1 (.t 83) (.t 82)), [], []⟩,
                                      ⟨(some (79, true), .load1 85 (.t 84)), [], []⟩,
                                      ⟨(some (79, true), .mv 86 (.t 11)), [], []⟩,
                                      ⟨(some (79, true), .bin 87 .geq (.t 85) (.t 86)), [], []⟩,
                                      ⟨(none, .pick 88 (.t 79) (.t 87) (.c (.B false))), [], []⟩])
                                   (.cond (.t 88) (.ops [(none, .mv 12 (.c (.B true)))])
                                    (.skip))))
                                 (.ops [(none, .mv 58 (.t 14)),
                                    (none, .bin 59 .add (.t 58) (.c (.I 1))),
                                    (none, .mv 14 (.t 59))])))))))
                           (.ops [(none, .mv 45 (.t 13)),
                              (none, .bin 46 .add (.t 45) (.c (.I 1))),
                              (none, .mv 13 (.t 46))]))))))
                      (.seq (.ops [(none, .mv 89 (.t 12)),
                          (none, .un 90 .not (.t 89))])
                       (.cond (.t 90) (.ops [(none, .mv 91 (.t 8)),
                           (none, .mv 92 (.t 10)),
                           (none, .mv 93 (.t 11)),
                           (none, .build 94 [(.I 0), (.I 0)] [(0, 1, (.t 92)), (1, 1, (.t 93))]),
                           (none, .buildSl 95 1 2 [(.I 0), (.I 0)] [(0, 2, (.t 94))]),
                           (none, .append 96 2 16 (.t 91) (.t 95)),
                           (none, .mv 8 (.t 96))])
                        (.skip))))))
                   (.ops [(none, .mv 39 (.t 11)),
                      (none, .bin 40 .add (.t 39) (.c (.I 1))),
                      (none, .mv 11 (.t 40))])))))))
             (.ops [(none, .mv 32 (.t 10)),
                (none, .bin 33 .add (.t 32) (.c (.I 1))),
                (none, .mv 10 (.t 33))]))))))
        (.seq (.ops [(none, .mv 97 (.t 8)),
            (none, .mv 6 (.t 97)),
            (none, .mv 7 (.c (.B true)))])
         (.ret))))))⟩
end Go.Ab.C

/- That the program has this code. -/
namespace Go.Ab.K
open Go Go.Ab
theorem spec_FaultPlanes : prepF Go.Proofs.Try.prog F.spec_FaultPlanes = some C.spec_FaultPlanes := by kernel_rfl
end Go.Ab.K

/- The abstract code of some functions (written by a program of mine from the translation, by way of prepF). -/
namespace Go.Ab.C
open Go.Ab
def spec_l9Cells : AFn :=
  ⟨1, 19, [.tmp 2],
    .seq (.ops [(none, .mv 2 (.c (.I 0)))])
    (.seq (.ops [(none, .mv 3 (.c (.I 0)))])
     (.seq (.seq (.ops [(none, .mv 4 (.c (.I 0)))])
       (.block 0 (.loop (.seq (.seq (.ops [(none, .mv 5 (.t 4)),
              (none, .mv 6 (.t 0)),
              (none, .len 7 (.t 6)),
              (none, .bin 8 .lss (.t 5) (.t 7))])
           (.cond (.t 8) (.skip)
            (.exit 0)))
          (.seq (.block 1 (.ops [(none, .mv 11 (.t 3)),
               (none, .mv 12 (.t 0)),
               (none, .mv 13 (.t 4)),
               (none, .idxS 14 1 (.t 12) (.t 13)),
               (none, .load1 15 (.t 14)),
               (none, .len 16 (.t 15)),
               (none, .bin 17 .add (.t 11) (.t 16)),
               (none, .mv 3 (.t 17))]))
           (.ops [(none, .mv 9 (.t 4)),
              (none, .bin 10 .add (.t 9) (.c (.I 1))),
              (none, .mv 4 (.t 10))]))))))
      (.seq (.ops [(none, .mv 18 (.t 3)),
          (none, .mv 2 (.t 18))])
       (.ret))))⟩
def spec_l9Packing : AFn :=
  ⟨3, 136, [.tmp 6],
    .seq (.ops [(none, .box 3 (.t 0)),
       (none, .mv 6 (.c (.B false)))])
    (.seq (.ops [(none, .loadN 14 4 (.t 3)),
        (none, .call (some 15) F.spec_l2All [(.t 14)]),
        (none, .mv 7 (.t 15))])
     (.seq (.seq (.draw [⟨(none, .mv 16 (.t 2)), [], []⟩,
          ⟨(none, .len 17 (.t 16)), [], []⟩,
          ⟨(none, .mv 18 (.t 7)), [], []⟩,
          ⟨(none, .len 19 (.t 18)), [], []⟩,
          ⟨(none, .bin 20 .neq (.t 17) (.t 19)), [], []⟩,
          ⟨(none, .mv 21 (.t 20)), [], []⟩,
          ⟨(some (21, false), .mv 22 (.t 1)), [], []⟩,
          ⟨(some (21, false), .fieldAddr 24 (.t 3) 3), [], []⟩,
          ⟨(some (21, false), .load1 25 (.t 24)), [], []⟩,
          ⟨(some (21, false), .len 26 (.t 25)), [], []⟩,
          ⟨(some (21, false), .mv 28 (.t 7)), [], []⟩,
          ⟨(some (21, false), .len 29 (.t 28)), [], []⟩,
          ⟨(some (21, false), .call (some 23) F.spec_l9Cells [(.t 22)]), [], [7, 8, 9, 10, 11]⟩,
          ⟨(some (21, false), .bin 27 .add (.t 23) (.t 26)), [], []⟩,
          ⟨(some (21, false), .bin 30 .neq (.t 27) (.t 29)), [], []⟩,
          ⟨(none, .pick 31 (.t 21) (.c (.B true)) (.t 30)), [], []⟩])
       (.cond (.t 31) (.seq (.ops [(none, .mv 6 (.c (.B false)))])
         (.ret))
        (.skip)))
      (.seq (.seq (.ops [(none, .mv 8 (.c (.I 0)))])
        (.block 0 (.loop (.seq (.seq (.ops [(none, .mv 32 (.t 8)),
               (none, .mv 33 (.t 7)),
               (none, .len 34 (.t 33)),
               (none, .bin 35 .lss (.t 32) (.t 34))])
            (.cond (.t 35) (.skip)
             (.exit 0)))
           (.seq (.block 1 (.seq (.draw [⟨(none, .mv 38 (.t 2)), [], []⟩,
                 ⟨(none, .mv 39 (.t 8)), [], []⟩,
                 ⟨(none, .idxS 40 1 (.t 38) (.t 39)), [], []⟩,
                 ⟨(none, .load1 41 (.t 40)), [], []⟩,
                 ⟨(none, .mv 42 (.t 1)), [], []⟩,
                 ⟨(none, .len 43 (.t 42)), [], []⟩,
                 ⟨(none, .bin 44 .sub (.t 43) (.c (.I 1))), [], []⟩,
                 ⟨(none, .call (some 45) F.spec_l1In [(.t 41), (.c (.I (-1))), (.t 44)]), [], []⟩,
                 ⟨(none, .un 46 .not (.t 45)), [], []⟩,
                 ⟨(none, .mv 47 (.t 46)), [], []⟩,
                 ⟨(some (47, false), .mv 48 (.t 2)), [], []⟩,
                 ⟨(some (47, false), .mv 49 (.t 8)), [], []⟩,
                 ⟨(some (47, false), .idxS 50 1 (.t 48) (.t 49)), [], []⟩,
                 ⟨(some (47, false), .load1 51 (.t 50)), [], []⟩,
                 ⟨(some (47, false), .bin 52 .lss (.t 51) (.c (.I 0))), [], []⟩,
                 ⟨(some (47, false), .loadN 53 4 (.t 3)), [], []⟩,
                 ⟨(some (47, false), .mv 54 (.t 7)), [], []⟩,
                 ⟨(some (47, false), .mv 55 (.t 8)), [], []⟩,
                 ⟨(some (47, false), .idxS 56 3 (.t 54) (.t 55)), [], []⟩,
                 ⟨(some (47, false), .loadN 57 3 (.t 56)), [], []⟩,
                 ⟨(some (47, false), .call (some 58) F.spec_l2Has [(.t 53), (.t 57)]), [], [10, 11, 12, 13, 14]⟩,
                 ⟨(some (47, false), .eqb 59 true (.t 52) (.t 58)), [], []⟩,
                 ⟨(none, .pick 60 (.t 47) (.c (.B true)) (.t 59)), [], []⟩])
              (.cond (.t 60) (.seq (.ops [(none, .mv 6 (.c (.B false)))])
                (.ret))
               (.skip))))
            (.ops [(none, .mv 36 (.t 8)),
               (none, .bin 37 .add (.t 36) (.c (.I 1))),
               (none, .mv 8 (.t 37))]))))))
       (.seq (.seq (.ops [(none, .mv 9 (.c (.I 0)))])
         (.block 2 (.loop (.seq (.seq (.ops [(none, .mv 61 (.t 9)),
                (none, .mv 62 (.t 1)),
                (none, .len 63 (.t 62)),
                (none, .bin 64 .lss (.t 61) (.t 63))])
             (.cond (.t 64) (.skip)
              (.exit 2)))
            (.seq (.block 3 (.seq (.ops [(none, .buildSl 67 0 3 [] []),
                  (none, .mv 10 (.t 67))])
               (.seq (.seq (.ops [(none, .mv 11 (.c (.I 0)))])
                 (.block 4 (.loop (.seq (.seq (.ops [(none, .mv 68 (.t 11)),
                        (none, .mv 69 (.t 7)),
                        (none, .len 70 (.t 69)),
                        (none, .bin 71 .lss (.t 68) (.t 70))])
                     (.cond (.t 71) (.skip)
                      (.exit 4)))
                    (.seq (.block 5 (.seq (.ops [(none, .mv 74 (.t 2)),
                          (none, .mv 75 (.t 11)),
                          (none, .idxS 76 1 (.t 74) (.t 75)),
                          (none, .load1 77 (.t 76)),
                          (none, .mv 78 (.t 9)),
                          (none, .bin 79 .eql (.t 77) (.t 78))])
                       (.cond (.t 79) (.ops [(none, .mv 80 (.t 10)),
                           (none, .mv 81 (.t 7)),
                           (none, .mv 82 (.t 11)),
                           (none, .idxS 83 3 (.t 81) (.t 82)),
                           (none, .loadN 84 3 (.t 83)),
                           (none, .buildSl 85 1 3 [(.I 0), (.I 0), (.I 0)] [(0, 3, (.t 84))]),
                           (none, .append 86 3 24 (.t 80) (.t 85)),
                           (none, .mv 10 (.t 86))])
                        (.skip))))
                     (.ops [(none, .mv 72 (.t 11)),
                        (none, .bin 73 .add (.t 72) (.c (.I 1))),
                        (none, .mv 11 (.t 73))]))))))
                (.seq (.seq (.ops [(none, .mv 87 (.t 10)),
                     (none, .len 88 (.t 87)),
                     (none, .mv 89 (.t 1)),
                     (none, .mv 90 (.t 9)),
                     (none, .idxS 91 1 (.t 89) (.t 90)),
                     (none, .load1 92 (.t 91)),
                     (none, .len 93 (.t 92)),
                     (none, .bin 94 .neq (.t 88) (.t 93))])
                  (.cond (.t 94) (.seq (.ops [(none, .mv 6 (.c (.B false)))])
                    (.ret))
                   (.skip)))
                 (.seq (.ops [(none, .mv 12 (.c (.I 1)))])
                  (.block 6 (.loop (.seq (.seq (.ops [(none, .mv 95 (.t 12)),
                         (none, .mv 96 (.t 10)),
                         (none, .len 97 (.t 96)),
                         (none, .bin 98 .lss (.t 95) (.t 97))])
                      (.cond (.t 98) (.skip)
                       (.exit 6)))
                     (.seq (.block 7 (.seq (.ops [(none, .mv 13 (.c (.I 0)))])
                        (.block 8 (.loop (.seq (.seq (.ops [(none, .mv 101 (.t 13)),
                               (none, .bin 102 .lss (.t 101) (.c (.I 3)))])
                            (.cond (.t 102) (.skip)
                             (.exit 8)))
                           (.seq (.block 9 (.seq (.draw [⟨(none, .mv 105 (.t 10)), [], []⟩,
                                 ⟨(none, .mv 106 (.t 12)), [], []⟩,
                                 ⟨(none, .mv 107 (.t 13)), [], []⟩,
                                 ⟨(none, .idxS 108 3 (.t 105) (.t 106)), [], []⟩,
                                 ⟨(none, .idxA 109 3 1 (.t 108) (.t 107)), [], []⟩,
                                 ⟨(none, .load1 110 (.t 109)), [], []⟩,
                                 ⟨(none, .mv 111 (.t 10)), [], []⟩,
                                 ⟨(none, .mv 112 (.t 13)), [], []⟩,
                                 ⟨(none, .idxS 113 3 (.t 111) (.c (.I 0))), [], []⟩,
                                 ⟨(none, .idxA 114 3 1 (.t 113) (.t 112)), [], []⟩,
                                 ⟨(none, .load1 115 (.t 114)), [], []⟩,
                                 ⟨(none, .bin 116 .sub (.t 110) (.t 115)), [], []⟩,
                                 ⟨(none, .mv 117 (.t 1)), [], []⟩,
                                 ⟨(none, .mv 118 (.t 9)), [], []⟩,
                                 ⟨(none, .idxS 119 1 (.t 117) (.t 118)), [], []⟩,
                                 ⟨(none, .load1 120 (.t 119)), [], []⟩,
                                 ⟨(none, .mv 121 (.t 12)), [], []⟩,
                                 ⟨(none, .mv 122 (.t 13)), [], []⟩,
                                 ⟨(none, .idxS 123 3 (.t 120) (.t 121)), [], []⟩,
                                 ⟨(none, .idxA 124 3 1 (.t 123) (.t 122)), [], []⟩,
                                 ⟨(none, .load1 125 (.t 124)), [], []⟩,
                                 ⟨(none, .mv 126 (.t 1)), [], []⟩,
                                 ⟨(none, .mv 127 (.t 9)), [], []⟩,
                                 ⟨(none, .idxS 128 1 (.t 126) (.t 127)), [], []⟩,
                                 ⟨(none, .load1 129 (.t 128)), [], []⟩,
                                 ⟨(none, .mv 130 (.t 13)), [], []⟩,
                                 ⟨(none, .idxS 131 3 (.t 129) (.c (.I 0))), [], []⟩,
                                 ⟨(none, .idxA 132 3 1 (.t 131) (.t 130)), [], []⟩,
                                 ⟨(none, .load1 133 (.t 132)), [], []⟩,
                                 ⟨(none, .bin 134 .sub (.t 125) (.t 133)), [], []⟩,
                                 ⟨(none, .bin 135 .neq (.t 116) (.t 134)), [], []⟩])
                              (.cond (.t 135) (.seq (.ops [(none, .mv 6 (.c (.B false)))])
                                (.ret))
                               (.skip))))
                            (.ops [(none, .mv 103 (.t 13)),
                               (none, .bin 104 .add (.t 103) (.c (.I 1))),
                               (none, .mv 13 (.t 104))])))))))
                      (.ops [(none, .mv 99 (.t 12)),
                         (none, .bin 100 .add (.t 99) (.c (.I 1))),
                         (none, .mv 12 (.t 100))]))))))))))
             (.ops [(none, .mv 65 (.t 9)),
                (none, .bin 66 .add (.t 65) (.c (.I 1))),
                (none, .mv 9 (.t 66))]))))))
        (.seq (.ops [(none, .mv 6 (.c (.B true)))])
         (.ret))))))⟩
end Go.Ab.C

/- That the program has this code. -/
namespace Go.Ab.K
open Go Go.Ab
theorem spec_l9Cells : prepF Go.Proofs.Try.prog F.spec_l9Cells = some C.spec_l9Cells := by kernel_rfl
theorem spec_l9Packing : prepF Go.Proofs.Try.prog F.spec_l9Packing = some C.spec_l9Packing := by kernel_rfl
end Go.Ab.K

/- The abstract code of some functions (written by a program of mine from the translation, by way of prepF). -/
namespace Go.Ab.C
open Go.Ab
def impl_box_placed : AFn :=
  ⟨4, 46, [.tmp 8, .tmp 9],
    .seq (.ops [(none, .box 4 (.t 0)),
       (none, .box 7 (.t 3)),
       (none, .mv 8 (.c (.U 0))),
       (none, .mv 9 (.c (.B false)))])
    (.seq (.ops [(none, .mv 10 (.c (.U 0)))])
     (.seq (.seq (.ops [(none, .slA 14 3 1 (.t 7) none none),
          (none, .call (some 15) F.impl_allWithin [(.t 14), (.c (.I 0)), (.c (.I 4))]),
          (none, .un 16 .not (.t 15))])
       (.cond (.t 16) (.seq (.ops [(none, .mv 8 (.c (.U 0))),
            (none, .mv 9 (.c (.B false)))])
         (.ret))
        (.skip)))
      (.seq (.seq (.ops [(none, .mv 17 (.t 2)),
           (none, .len 18 (.t 17)),
           (none, .mv 19 (.c (.I 0)))])
        (.block 0 (.loop (.seq (.ops [(none, .bin 20 .lss (.t 19) (.t 18))])
           (.seq (.cond (.t 20) (.skip)
             (.exit 0))
            (.seq (.block 1 (.seq (.ops [(none, .idxS 21 3 (.t 17) (.t 19)),
                  (none, .loadN 22 3 (.t 21)),
                  (none, .alloc 12 [(.I 0), (.I 0), (.I 0)]),
                  (none, .store 3 (.t 12) (.t 22))])
               (.seq (.ops [(none, .loadN 23 3 (.t 12)),
                   (none, .loadN 24 3 (.t 7)),
                   (none, .call (some 25) F.impl_added [(.t 23), (.t 24)]),
                   (none, .alloc 13 [(.I 0), (.I 0), (.I 0)]),
                   (none, .store 3 (.t 13) (.t 25))])
                (.seq (.seq (.ops [(none, .loadN 26 3 (.t 4)),
                     (none, .loadN 27 3 (.t 13)),
                     (none, .call (some 28) F.impl_box_has [(.t 26), (.t 27)]),
                     (none, .un 29 .not (.t 28)),
                     (none, .mv 30 (.t 29)),
                     (some (30, false), .mv 31 (.t 1)),
                     (some (30, false), .loadN 32 3 (.t 4)),
                     (some (30, false), .loadN 33 3 (.t 13)),
                     (some (30, false), .call (some 34) F.impl_box_index [(.t 32), (.t 33)]),
                     (some (30, false), .call (some 35) F.impl_set_has [(.t 31), (.t 34)]),
                     (some (30, false), .un 36 .not (.t 35)),
                     (none, .pick 37 (.t 30) (.c (.B true)) (.t 36))])
                  (.cond (.t 37) (.seq (.ops [(none, .mv 8 (.c (.U 0))),
                       (none, .mv 9 (.c (.B false)))])
                    (.ret))
                   (.skip)))
                 (.ops [(none, .mv 38 (.t 10)),
                    (none, .loadN 39 3 (.t 4)),
                    (none, .loadN 40 3 (.t 13)),
                    (none, .call (some 41) F.impl_box_index [(.t 39), (.t 40)]),
                    (none, .bin 42 .shl (.c (.U 1)) (.t 41)),
                    (none, .bin 43 .or (.t 38) (.t 42)),
                    (none, .mv 10 (.t 43))])))))
             (.ops [(none, .bin 44 .add (.t 19) (.c (.I 1))),
                (none, .mv 19 (.t 44))])))))))
       (.seq (.ops [(none, .mv 45 (.t 10)),
           (none, .mv 8 (.t 45)),
           (none, .mv 9 (.c (.B true)))])
        (.ret)))))⟩
end Go.Ab.C

/- That the program has this code. -/
namespace Go.Ab.K
open Go Go.Ab
theorem impl_box_placed : prepF Go.Proofs.Try.prog F.impl_box_placed = some C.impl_box_placed := by kernel_rfl
end Go.Ab.K

/- The abstract code of some functions (written by a program of mine from the translation, by way of prepF). -/
namespace Go.Ab.C
open Go.Ab
def impl_Heap_free : AFn :=
  ⟨1, 9, [.tmp 2],
    .seq (.ops [(none, .box 1 (.t 0)),
       (none, .mv 2 (.c (.U 0)))])
    (.seq (.draw [⟨(none, .loadN 3 4 (.t 1)), [], []⟩,
        ⟨(none, .loadN 6 4 (.t 1)), [], []⟩,
        ⟨(none, .call (some 4) F.impl_Heap_box [(.t 3)]), [], [1]⟩,
        ⟨(none, .call (some 5) F.impl_box_full [(.t 4)]), [], [1]⟩,
        ⟨(none, .call (some 7) F.impl_Heap_cubes [(.t 6)]), [], []⟩,
        ⟨(none, .bin 8 .andNot (.t 5) (.t 7)), [], []⟩,
        ⟨(none, .mv 2 (.t 8)), [], []⟩])
     (.ret))⟩
end Go.Ab.C

/- That the program has this code. -/
namespace Go.Ab.K
open Go Go.Ab
theorem impl_Heap_free : prepF Go.Proofs.Try.prog F.impl_Heap_free = some C.impl_Heap_free := by kernel_rfl
end Go.Ab.K

/- The abstract code of some functions (written by a program of mine from the translation, by way of prepF). -/
namespace Go.Ab.C
open Go.Ab
def impl_isPacked : AFn :=
  ⟨2, 12, [.tmp 4],
    .seq (.ops [(none, .box 2 (.t 0)),
       (none, .mv 4 (.c (.B false)))])
    (.seq (.ops [(none, .loadN 5 4 (.t 2)),
        (none, .call (some 6) F.impl_IsHeap [(.t 5)]),
        (none, .mv 7 (.t 6)),
        (some (7, true), .mv 8 (.t 1)),
        (some (7, true), .call (some 9) F.slices_ContainsFunc_SSA3int_SA3int [(.t 8), (.c (.clo F.impl_isPacked_1 []))]),
        (some (7, true), .un 10 .not (.t 9)),
        (none, .pick 11 (.t 7) (.t 10) (.c (.B false))),
        (none, .mv 4 (.t 11))])
     (.ret))⟩
def impl_isPacked_1 : AFn :=
  ⟨1, 6, [.tmp 2],
    .seq (.ops [(none, .mv 2 (.c (.B false)))])
    (.seq (.ops [(none, .mv 3 (.t 0)),
        (none, .call (some 4) F.impl_IsPiece [(.t 3)]),
        (none, .un 5 .not (.t 4)),
        (none, .mv 2 (.t 5))])
     (.ret))⟩
def impl_arePacked : AFn :=
  ⟨2, 13, [.tmp 4],
    .seq (.ops [(none, .box 2 (.t 0)),
       (none, .mv 4 (.c (.B false)))])
    (.seq (.ops [(none, .loadN 5 4 (.t 2)),
        (none, .mv 6 (.t 1)),
        (none, .call (some 7) F.impl_isPacked [(.t 5), (.t 6)]),
        (none, .mv 8 (.t 7)),
        (some (8, true), .mv 9 (.t 1)),
        (some (8, true), .len 10 (.t 9)),
        (some (8, true), .bin 11 .leq (.t 10) (.c (.I 8))),
        (none, .pick 12 (.t 8) (.t 11) (.c (.B false))),
        (none, .mv 4 (.t 12))])
     (.ret))⟩
def slices_ContainsFunc_SSA3int_SA3int : AFn :=
  ⟨2, 9, [.tmp 4],
    .seq (.ops [(none, .mv 4 (.c (.B false)))])
    (.seq (.ops [(none, .mv 5 (.t 0)),
        (none, .mv 6 (.t 1)),
        (none, .call (some 7) F.slices_IndexFunc_SSA3int_SA3int [(.t 5), (.t 6)]),
        (none, .bin 8 .geq (.t 7) (.c (.I 0))),
        (none, .mv 4 (.t 8))])
     (.ret))⟩
def slices_IndexFunc_SSA3int_SA3int : AFn :=
  ⟨2, 19, [.tmp 4],
    .seq (.ops [(none, .mv 4 (.c (.I 0)))])
    (.seq (.seq (.ops [(none, .mv 6 (.t 0)),
         (none, .len 7 (.t 6)),
         (none, .mv 8 (.c (.I 0)))])
      (.block 0 (.loop (.seq (.ops [(none, .bin 9 .lss (.t 8) (.t 7))])
         (.seq (.cond (.t 9) (.skip)
           (.exit 0))
          (.seq (.block 1 (.seq (.ops [(none, .mv 10 (.t 8)),
                (none, .mv 5 (.t 10))])
             (.seq (.ops [(none, .mv 11 (.t 1)),
                 (none, .mv 12 (.t 0)),
                 (none, .mv 13 (.t 5)),
                 (none, .idxS 14 1 (.t 12) (.t 13)),
                 (none, .load1 15 (.t 14)),
                 (none, .callV (some 16) (.t 11) [(.t 15)])])
              (.cond (.t 16) (.seq (.ops [(none, .mv 17 (.t 5)),
                   (none, .mv 4 (.t 17))])
                (.ret))
               (.skip)))))
           (.ops [(none, .bin 18 .add (.t 8) (.c (.I 1))),
              (none, .mv 8 (.t 18))])))))))
     (.seq (.ops [(none, .mv 4 (.c (.I (-1))))])
      (.ret)))⟩
def spec_l9Ask : AFn :=
  ⟨2, 25, [.tmp 4],
    .seq (.ops [(none, .box 2 (.t 0)),
       (none, .mv 4 (.c (.B false)))])
    (.seq (.seq (.ops [(none, .mv 5 (.c (.I 0)))])
      (.block 0 (.loop (.seq (.seq (.ops [(none, .mv 6 (.t 5)),
             (none, .mv 7 (.t 1)),
             (none, .len 8 (.t 7)),
             (none, .bin 9 .lss (.t 6) (.t 8))])
          (.cond (.t 9) (.skip)
           (.exit 0)))
         (.seq (.block 1 (.seq (.ops [(none, .mv 12 (.t 1)),
               (none, .mv 13 (.t 5)),
               (none, .idxS 14 1 (.t 12) (.t 13)),
               (none, .load1 15 (.t 14)),
               (none, .call (some 16) F.spec_l9Piece [(.t 15)]),
               (none, .un 17 .not (.t 16))])
            (.cond (.t 17) (.seq (.ops [(none, .mv 4 (.c (.B false)))])
              (.ret))
             (.skip))))
          (.ops [(none, .mv 10 (.t 5)),
             (none, .bin 11 .add (.t 10) (.c (.I 1))),
             (none, .mv 5 (.t 11))]))))))
     (.seq (.ops [(none, .loadN 18 4 (.t 2)),
         (none, .call (some 19) F.spec_l2Heap [(.t 18)]),
         (none, .mv 20 (.t 19)),
         (some (20, true), .mv 21 (.t 1)),
         (some (20, true), .len 22 (.t 21)),
         (some (20, true), .bin 23 .leq (.t 22) (.c (.I 8))),
         (none, .pick 24 (.t 20) (.t 23) (.c (.B false))),
         (none, .mv 4 (.t 24))])
      (.ret)))⟩
end Go.Ab.C

/- That the program has this code. -/
namespace Go.Ab.K
open Go Go.Ab
theorem impl_isPacked : prepF Go.Proofs.Try.prog F.impl_isPacked = some C.impl_isPacked := by kernel_rfl
theorem impl_isPacked_1 : prepF Go.Proofs.Try.prog F.impl_isPacked_1 = some C.impl_isPacked_1 := by kernel_rfl
theorem impl_arePacked : prepF Go.Proofs.Try.prog F.impl_arePacked = some C.impl_arePacked := by kernel_rfl
theorem slices_ContainsFunc_SSA3int_SA3int : prepF Go.Proofs.Try.prog F.slices_ContainsFunc_SSA3int_SA3int = some C.slices_ContainsFunc_SSA3int_SA3int := by kernel_rfl
theorem slices_IndexFunc_SSA3int_SA3int : prepF Go.Proofs.Try.prog F.slices_IndexFunc_SSA3int_SA3int = some C.slices_IndexFunc_SSA3int_SA3int := by kernel_rfl
theorem spec_l9Ask : prepF Go.Proofs.Try.prog F.spec_l9Ask = some C.spec_l9Ask := by kernel_rfl
end Go.Ab.K

/- The abstract code of some functions (written by a program of mine from the translation, by way of prepF). -/
namespace Go.Ab.C
open Go.Ab
def spec_l9Piece : AFn :=
  ⟨1, 59, [.tmp 2],
    .seq (.ops [(none, .mv 2 (.c (.B false)))])
    (.seq (.seq (.ops [(none, .mv 6 (.t 0)),
         (none, .len 7 (.t 6)),
         (none, .call (some 8) F.spec_l1In [(.t 7), (.c (.I 1)), (.c (.I 5))]),
         (none, .un 9 .not (.t 8))])
      (.cond (.t 9) (.seq (.ops [(none, .mv 2 (.c (.B false)))])
        (.ret))
       (.skip)))
     (.seq (.ops [(none, .build 10 [(.I 0), (.I 0), (.I 0)] [(0, 1, (.c (.I 4))), (1, 1, (.c (.I 4))), (2, 1, (.c (.I 4)))]),
         (none, .alloc 3 [(.I 0), (.I 0), (.I 0)]),
         (none, .store 3 (.t 3) (.t 10))])
      (.seq (.seq (.ops [(none, .mv 4 (.c (.I 0)))])
        (.block 0 (.loop (.seq (.seq (.ops [(none, .mv 11 (.t 4)),
               (none, .mv 12 (.t 0)),
               (none, .len 13 (.t 12)),
               (none, .bin 14 .lss (.t 11) (.t 13))])
            (.cond (.t 14) (.skip)
             (.exit 0)))
           (.seq (.block 1 (.seq (.seq (.ops [(none, .mv 5 (.c (.I 0)))])
               (.block 2 (.loop (.seq (.seq (.ops [(none, .mv 17 (.t 5)),
                      (none, .bin 18 .lss (.t 17) (.c (.I 3)))])
                   (.cond (.t 18) (.skip)
                    (.exit 2)))
                  (.seq (.block 3 (.seq (.seq (.ops [(none, .mv 21 (.t 0)),
                         (none, .mv 22 (.t 4)),
                         (none, .mv 23 (.t 5)),
                         (none, .idxS 24 3 (.t 21) (.t 22)),
                         (none, .idxA 25 3 1 (.t 24) (.t 23)),
                         (none, .load1 26 (.t 25)),
                         (none, .call (some 27) F.spec_l1In [(.t 26), (.c (.I 0)), (.c (.I 3))]),
                         (none, .un 28 .not (.t 27))])
                      (.cond (.t 28) (.seq (.ops [(none, .mv 2 (.c (.B false)))])
                        (.ret))
                       (.skip)))
                     (.draw [⟨(none, .mv 29 (.t 5)), [], []⟩,
                        ⟨(none, .mv 30 (.t 5)), [], []⟩,
                        ⟨(none, .idxA 31 3 1 (.t 3) (.t 30)), [], []⟩,
                        ⟨(none, .load1 32 (.t 31)), [], []⟩,
                        ⟨(none, .mv 33 (.t 0)), [], []⟩,
                        ⟨(none, .mv 34 (.t 4)), [], []⟩,
                        ⟨(none, .mv 35 (.t 5)), [], []⟩,
                        ⟨(none, .idxS 36 3 (.t 33) (.t 34)), [], []⟩,
                        ⟨(none, .idxA 37 3 1 (.t 36) (.t 35)), [], []⟩,
                        ⟨(none, .load1 38 (.t 37)), [], []⟩,
                        ⟨(none, .call (some 39) F.spec_l1Least [(.t 32), (.t 38)]), [], [0]⟩,
                        ⟨(none, .idxA 40 3 1 (.t 3) (.t 29)), [], []⟩,
                        ⟨(none, .store 1 (.t 40) (.t 39)), [], []⟩])))
                   (.ops [(none, .mv 19 (.t 5)),
                      (none, .bin 20 .add (.t 19) (.c (.I 1))),
                      (none, .mv 5 (.t 20))]))))))
              (.seq (.draw [⟨(none, .mv 41 (.t 4)), [], []⟩,
                  ⟨(none, .bin 42 .gtr (.t 41) (.c (.I 0))), [], []⟩,
                  ⟨(none, .mv 43 (.t 42)), [], []⟩,
                  ⟨(some (43, true), .mv 44 (.t 0)), [], []⟩,
                  ⟨(some (43, true), .mv 45 (.t 4)), [], []⟩,
                  ⟨(some (43, true), .bin 46 .sub (.t 45) (.c (.I 1))), [], []⟩,
                  ⟨(some (43, true), .idxS 47 3 (.t 44) (.t 46)), [], []⟩,
                  ⟨(some (43, true), .loadN 48 3 (.t 47)), [], []⟩,
                  ⟨(some (43, true), .mv 49 (.t 0)), [], []⟩,
                  ⟨(some (43, true), .mv 50 (.t 4)), [], []⟩,
                  ⟨(some (43, true), .idxS 51 3 (.t 49) (.t 50)), [], []⟩,
                  ⟨(some (43, true), .loadN 52 3 (.t 51)), [], []⟩,
                  ⟨(some (43, true), .call (some 53) F.spec_l2Before [(.t 48), (.t 52)]), [], []⟩,
                  ⟨(some (43, true), .un 54 .not (.t 53)), [], []⟩,
                  ⟨(none, .pick 55 (.t 43) (.t 54) (.c (.B false))), [], []⟩])
               (.cond (.t 55) (.seq (.ops [(none, .mv 2 (.c (.B false)))])
                 (.ret))
                (.skip)))))
            (.ops [(none, .mv 15 (.t 4)),
               (none, .bin 16 .add (.t 15) (.c (.I 1))),
               (none, .mv 4 (.t 16))]))))))
       (.seq (.ops [(none, .loadN 56 3 (.t 3)),
           (none, .build 57 [(.I 0), (.I 0), (.I 0)] []),
           (none, .eqs 58 false 3 (.t 56) (.t 57)),
           (none, .mv 2 (.t 58))])
        (.ret)))))⟩
def impl_IsPiece : AFn :=
  ⟨1, 57, [.tmp 2],
    .seq (.ops [(none, .mv 2 (.c (.B false)))])
    (.seq (.seq (.ops [(none, .mv 6 (.t 0)),
         (none, .len 7 (.t 6)),
         (none, .call (some 8) F.impl_within [(.t 7), (.c (.I 1)), (.c (.I 5))]),
         (none, .un 9 .not (.t 8))])
      (.cond (.t 9) (.seq (.ops [(none, .mv 2 (.c (.B false)))])
        (.ret))
       (.skip)))
     (.seq (.ops [(none, .mv 10 (.t 0)),
         (none, .idxS 11 3 (.t 10) (.c (.I 0))),
         (none, .loadN 12 3 (.t 11)),
         (none, .alloc 3 [(.I 0), (.I 0), (.I 0)]),
         (none, .store 3 (.t 3) (.t 12))])
      (.seq (.seq (.ops [(none, .mv 13 (.t 0)),
           (none, .len 14 (.t 13)),
           (none, .mv 15 (.c (.I 0)))])
        (.block 0 (.loop (.seq (.ops [(none, .bin 16 .lss (.t 15) (.t 14))])
           (.seq (.cond (.t 16) (.skip)
             (.exit 0))
            (.seq (.block 1 (.seq (.ops [(none, .mv 17 (.t 15)),
                  (none, .idxS 18 3 (.t 13) (.t 15)),
                  (none, .loadN 19 3 (.t 18)),
                  (none, .alloc 5 [(.I 0), (.I 0), (.I 0)]),
                  (none, .mv 4 (.t 17)),
                  (none, .store 3 (.t 5) (.t 19))])
               (.seq (.seq (.draw [⟨(none, .slA 20 3 1 (.t 5) none none), [], []⟩,
                    ⟨(none, .call (some 21) F.impl_allWithin [(.t 20), (.c (.I 0)), (.c (.I 3))]), [], []⟩,
                    ⟨(none, .un 22 .not (.t 21)), [], []⟩,
                    ⟨(none, .mv 23 (.t 22)), [], []⟩,
                    ⟨(some (23, false), .mv 24 (.t 4)), [], []⟩,
                    ⟨(some (23, false), .bin 25 .gtr (.t 24) (.c (.I 0))), [], []⟩,
                    ⟨(some (23, false), .mv 26 (.t 25)), [], []⟩,
                    ⟨(some (26, true), .mv 27 (.t 0)), [], []⟩,
                    ⟨(some (26, true), .mv 28 (.t 4)), [], []⟩,
                    ⟨(some (26, true), .bin 29 .sub (.t 28) (.c (.I 1))), [], []⟩,
                    ⟨(some (26, true), .idxS 30 3 (.t 27) (.t 29)), [], []⟩,
                    ⟨(some (26, true), .loadN 31 3 (.t 30)), [], []⟩,
                    ⟨(some (26, true), .loadN 32 3 (.t 5)), [], []⟩,
                    ⟨(some (26, true), .call (some 33) F.impl_compareCells [(.t 31), (.t 32)]), [], []⟩,
                    ⟨(some (26, true), .bin 34 .geq (.t 33) (.c (.I 0))), [], []⟩,
                    ⟨(some (23, false), .pick 35 (.t 26) (.t 34) (.c (.B false))), [], []⟩,
                    ⟨(none, .pick 36 (.t 23) (.c (.B true)) (.t 35)), [], []⟩])
                 (.cond (.t 36) (.seq (.ops [(none, .mv 2 (.c (.B false)))])
                   (.ret))
                  (.skip)))
                (.ops [(none, .idxA 37 3 1 (.t 3) (.c (.I 0))),
                   (none, .load1 38 (.t 37)),
                   (none, .idxA 39 3 1 (.t 5) (.c (.I 0))),
                   (none, .load1 40 (.t 39)),
                   (none, .mm 41 false [(.t 38), (.t 40)]),
                   (none, .idxA 42 3 1 (.t 3) (.c (.I 1))),
                   (none, .load1 43 (.t 42)),
                   (none, .idxA 44 3 1 (.t 5) (.c (.I 1))),
                   (none, .load1 45 (.t 44)),
                   (none, .mm 46 false [(.t 43), (.t 45)]),
                   (none, .idxA 47 3 1 (.t 3) (.c (.I 2))),
                   (none, .load1 48 (.t 47)),
                   (none, .idxA 49 3 1 (.t 5) (.c (.I 2))),
                   (none, .load1 50 (.t 49)),
                   (none, .mm 51 false [(.t 48), (.t 50)]),
                   (none, .build 52 [(.I 0), (.I 0), (.I 0)] [(0, 1, (.t 41)), (1, 1, (.t 46)), (2, 1, (.t 51))]),
                   (none, .store 3 (.t 3) (.t 52))]))))
             (.ops [(none, .bin 53 .add (.t 15) (.c (.I 1))),
                (none, .mv 15 (.t 53))])))))))
       (.seq (.ops [(none, .loadN 54 3 (.t 3)),
           (none, .build 55 [(.I 0), (.I 0), (.I 0)] []),
           (none, .eqs 56 false 3 (.t 54) (.t 55)),
           (none, .mv 2 (.t 56))])
        (.ret)))))⟩
end Go.Ab.C

/- That the program has this code. -/
namespace Go.Ab.K
open Go Go.Ab
theorem spec_l9Piece : prepF Go.Proofs.Try.prog F.spec_l9Piece = some C.spec_l9Piece := by kernel_rfl
theorem impl_IsPiece : prepF Go.Proofs.Try.prog F.impl_IsPiece = some C.impl_IsPiece := by kernel_rfl
end Go.Ab.K

/- The abstract code of some functions (written by a program of mine from the translation, by way of prepF). -/
namespace Go.Ab.C
open Go.Ab
end Go.Ab.C

/- That the program has this code. -/
namespace Go.Ab.K
open Go Go.Ab
end Go.Ab.K

/- The abstract code of some functions (written by a program of mine from the translation, by way of prepF). -/
namespace Go.Ab.C
open Go.Ab
def spec_l2Long : AFn :=
  ⟨2, 14, [.tmp 4],
    .seq (.ops [(none, .box 2 (.t 0)),
       (none, .mv 4 (.c (.I 0)))])
    (.seq (.ops [(none, .fieldAddr 5 (.t 2) 0),
        (none, .load1 6 (.t 5)),
        (none, .fieldAddr 7 (.t 2) 1),
        (none, .load1 8 (.t 7)),
        (none, .fieldAddr 9 (.t 2) 2),
        (none, .load1 10 (.t 9)),
        (none, .build 11 [(.I 0), (.I 0), (.I 0)] [(0, 1, (.t 6)), (1, 1, (.t 8)), (2, 1, (.t 10))]),
        (none, .mv 12 (.t 1)),
        (none, .index 13 3 1 false (.t 11) (.t 12)),
        (none, .mv 4 (.t 13))])
     (.ret))⟩
end Go.Ab.C

/- That the program has this code. -/
namespace Go.Ab.K
open Go Go.Ab
theorem spec_l2Long : prepF Go.Proofs.Try.prog F.spec_l2Long = some C.spec_l2Long := by kernel_rfl
end Go.Ab.K

/- What laws are told of heaps as results. -/
namespace Go.Ab
open Go

structure Hp where
  x : Int
  y : Int
  z : Int
  cs : List Cell
def Hp.none : Hp := ⟨0, 0, 0, []⟩
abbrev Hp.row (r : Hp) (w : LV) : Blk := .row [.I r.x, .I r.y, .I r.z, w] true 0
/-- A heap, or the one of all zeros, what else there is, and whether there is one. -/
def HeapRes (M : Mem) (r : Option Hp) (ext : List LV) (v : LV) (N : Mem) : Prop :=
  ∃ w, v = .tup (.agg [.I (r.getD Hp.none).x, .I (r.getD Hp.none).y, .I (r.getD Hp.none).z, w] :: (ext ++ [.B r.isSome])) ∧ SlC N w (r.getD Hp.none).cs ∧ Newer M w ∧ Pre M N
theorem Older.off {M : Mem} {v : LV} {u : Nat} (h : Older M v) (hu : M.length ≤ u) : Off v u := by
  cases v with
  | ref t o n => have := h t o n rfl; show u ≠ t; omega
  | _ => trivial
end Go.Ab

/- Plain words: the 24 turns of a box. -/
namespace Go.Ab
open Go

def Cell.at (c : Cell) (d : Int) : Int := if d = 0 then c.a else if d = 1 then c.b else c.c
def Dir (d : Int) : Prop := d = 0 ∨ d = 1 ∨ d = 2
/-- How many pairs are out of order, modulo 2. -/
def oddOf (c : Cell) : Int := ((if c.a > c.b then 1 else 0) + (if c.a > c.c then 1 else 0) + (if c.b > c.c then 1 else 0)) % 2
structure Turn where
  fr : Cell
  fl : Cell
deriving DecidableEq
def Turn.row (t : Turn) : List LV := t.fr.row ++ t.fl.row
def sixL (l : List Turn) : List LV := l.flatMap Turn.row
/-- The turn that the n-th attempt finds. -/
def turnAt (n : Nat) : Option Turn :=
  if n / 24 ≠ n / 8 % 3 ∧ oddOf ⟨n / 24, n / 8 % 3, 3 - n / 24 - n / 8 % 3⟩ = (n % 8 / 4 + n % 8 / 2 % 2 + n % 8 % 2) % 2 then
    some ⟨⟨n / 24, n / 8 % 3, 3 - n / 24 - n / 8 % 3⟩, ⟨n % 8 / 4, n % 8 / 2 % 2, n % 8 % 2⟩⟩ else none
def turnsU (n : Nat) : List Turn := (List.range n).filterMap turnAt
def turns : List Turn := turnsU 72
theorem sixL_len (l : List Turn) : (sixL l).length = l.length * 6 := by
  induction l with
  | nil => rfl
  | cons t l ih => rw [show sixL (t :: l) = t.row ++ sixL l from rfl, List.length_append, ih, List.length_cons]; simp [Turn.row, Cell.row]; omega
theorem sixL_at {l : List Turn} : ∀ {k : Nat}, (hk : k < l.length) → ((sixL l).drop (k * 6)).take 6 = l[k].row := by
  induction l with
  | nil => intro k hk; simp at hk
  | cons t l ih =>
    intro k hk
    have e : sixL (t :: l) = t.row ++ sixL l := rfl
    have hr : t.row.length = 6 := rfl
    cases k with
    | zero => rw [e, Nat.zero_mul, List.drop_zero, List.take_append_of_le_length (by omega), List.take_of_length_le (by omega)]; rfl
    | succ k =>
      rw [e, List.drop_append, List.drop_eq_nil_of_le (by omega), List.nil_append, hr, show (k + 1) * 6 - 6 = k * 6 by omega, ih (by simpa using hk)]
      rfl

def sideOf (x y z d : Int) : Int := if d = 0 then x else if d = 1 then y else z
/-- A coordinate of a cell behind a turn: taken from direction s, mirrored or not. -/
def turnC (x y z : Int) (c : Cell) (s f : Int) : Int := if f = 1 then sideOf x y z s - 1 - c.at s else c.at s
def mapT (x y z : Int) (t : Turn) (c : Cell) : Cell := ⟨turnC x y z c t.fr.a t.fl.a, turnC x y z c t.fr.b t.fl.b, turnC x y z c t.fr.c t.fl.c⟩
/-- The three directions, in any order. -/
def OkT (t : Turn) : Prop := Dir t.fr.a ∧ Dir t.fr.b ∧ Dir t.fr.c
instance (d : Int) : Decidable (Dir d) := by unfold Dir; exact inferInstance
instance (t : Turn) : Decidable (OkT t) := by unfold OkT; exact inferInstance
def turnHp (x y z : Int) (t : Turn) (cs : List Cell) : Hp := ⟨sideOf x y z t.fr.a, sideOf x y z t.fr.b, sideOf x y z t.fr.c, pick (sideOf x y z t.fr.a) (sideOf x y z t.fr.b) (sideOf x y z t.fr.c) fun d => decide (d ∈ cs.map (mapT x y z t))⟩
section
variable {x y z : Int}
theorem sideOf_in (hS : Sides x y z) (d : Int) : 1 ≤ sideOf x y z d ∧ sideOf x y z d ≤ 4 := by
  obtain ⟨hx, hy, hz⟩ := hS
  unfold sideOf; split <;> (try split) <;> omega
end
end Go.Ab

/- Contracts: the reference's turns. -/
namespace Go.Ab
open Go
set_option linter.unusedSimpArgs false
set_option linter.unusedVariables false

theorem h_l2Long {x y z d : Int} {v : LV} {M : Mem} (hd : Dir d) : CallsTo PG F.spec_l2Long [.agg [.I x, .I y, .I z, v], .I d] M (.I (sideOf x y z d)) M := by
  refine calls_run K.spec_l2Long rfl ?_
  rcases hd with rfl | rfl | rfl
  all_goals
    simp (disch := omega) only [C.spec_l2Long, splice, ↓SXd, SXu, slBounds, ↓sop, ↓aop, ↓reduceIte, LV.cells, AOp.dst, LV.I, LV.B, LV.U, LV.S, LV.nil, Nat.reduceEqDiff, Nat.reduceAdd, Nat.reduceMul, Nat.reduceSub, Nat.reduceLeDiff, Nat.reduceBEq, Nat.reduceDiv, Nat.reduceMod, Int.reduceToNat, Int.reduceLT, Int.reduceLE, Int.reduceAdd, Int.reduceSub, Int.reduceMul, Int.reduceEq, Int.reduceNeg, reduceCtorEq, resV, resAll, ARes.ev, LV.flat, ite_true, ite_false, exists_eq_left', exists_eq_left, keyOf, implies_true, fillC, capOf]
    exact cmp_drop rfl

/-- How many pairs are out of order whose greater place is before i, or i with the other one before k. -/
def oddK (c : Cell) (i k : Nat) : Int := (if (1 < i ∨ (i = 1 ∧ 0 < k)) ∧ c.a > c.b then 1 else 0) + (if (2 < i ∨ (i = 2 ∧ 0 < k)) ∧ c.a > c.c then 1 else 0) + (if (2 < i ∨ (i = 2 ∧ 1 < k)) ∧ c.b > c.c then 1 else 0)
end Go.Ab

/- Contracts: the reference's turned heaps. -/
namespace Go.Ab
open Go
set_option linter.unusedSimpArgs false
set_option linter.unusedVariables false

theorem Tri.gets_at {M : Mem} {t o k : Nat} {cs : List Cell} {s : Int} (h : Tri M t o cs) (hk : k < cs.length) (hs : Dir s) : getCell M t (o + k * 3 + s.toNat) = some (.I ((cs.getD k default).at s)) := by
  rcases hs with rfl | rfl | rfl
  · exact Tri.get_a h hk
  · exact Tri.get_b h hk
  · exact Tri.get_c h hk

/-- A cell of which the first d coordinates are there. -/
def partC (c : Cell) (d : Nat) : Cell := ⟨if 0 < d then c.a else 0, if 1 < d then c.b else 0, if 2 < d then c.c else 0⟩
end Go.Ab

/- The abstract code of some functions (written by a program of mine from the translation, by way of prepF). -/
namespace Go.Ab.C
open Go.Ab
def spec_l1Least : AFn :=
  ⟨2, 10, [.tmp 4],
    .seq (.ops [(none, .mv 4 (.c (.I 0)))])
    (.seq (.seq (.ops [(none, .mv 5 (.t 0)),
         (none, .mv 6 (.t 1)),
         (none, .bin 7 .lss (.t 5) (.t 6))])
      (.cond (.t 7) (.seq (.ops [(none, .mv 8 (.t 0)),
           (none, .mv 4 (.t 8))])
        (.ret))
       (.skip)))
     (.seq (.ops [(none, .mv 9 (.t 1)),
         (none, .mv 4 (.t 9))])
      (.ret)))⟩
end Go.Ab.C

/- That the program has this code. -/
namespace Go.Ab.K
open Go Go.Ab
theorem spec_l1Least : prepF Go.Proofs.Try.prog F.spec_l1Least = some C.spec_l1Least := by kernel_rfl
end Go.Ab.K

/- Contracts: the reference's least boxes. -/
namespace Go.Ab
open Go
set_option linter.unusedSimpArgs false
set_option linter.unusedVariables false

def Small (c : Cell) : Prop := (-100 ≤ c.a ∧ c.a ≤ 100) ∧ (-100 ≤ c.b ∧ c.b ≤ 100) ∧ (-100 ≤ c.c ∧ c.c ≤ 100)
def shift (p c : Cell) : Cell := ⟨c.a + p.a, c.b + p.b, c.c + p.c⟩
def loC (c d : Cell) : Cell := ⟨min c.a d.a, min c.b d.b, min c.c d.c⟩
def hiC (c d : Cell) : Cell := ⟨max c.a d.a, max c.b d.b, max c.c d.c⟩
def lowOf (cs : List Cell) : Cell := cs.foldl loC (cs.getD 0 default)
def highOf (cs : List Cell) : Cell := cs.foldl hiC (cs.getD 0 default)
def cropHp (cs : List Cell) : Hp := ⟨(highOf cs).a - (lowOf cs).a + 1, (highOf cs).b - (lowOf cs).b + 1, (highOf cs).c - (lowOf cs).c + 1, cs.map (shift ⟨0 - (lowOf cs).a, 0 - (lowOf cs).b, 0 - (lowOf cs).c⟩)⟩
/-- The first d coordinates of one cell, the others of another one. -/
def mixC (c e : Cell) (d : Nat) : Cell := ⟨if 0 < d then e.a else c.a, if 1 < d then e.b else c.b, if 2 < d then e.c else c.c⟩
theorem h_l1Least {a b : Int} {M : Mem} : CallsTo PG F.spec_l1Least [.I a, .I b] M (.I (min a b)) M := by
  refine calls_run K.spec_l1Least rfl ?_
  simp (disch := omega) only [C.spec_l1Least, ↓SXd, SXu, slBounds, ↓sop, ↓aop, ↓reduceIte, LV.cells, AOp.dst, LV.I, LV.B, LV.U, LV.S, LV.nil, Nat.reduceEqDiff, Nat.reduceAdd, Nat.reduceMul, Nat.reduceSub, Nat.reduceLeDiff, Nat.reduceBEq, Nat.reduceDiv, Nat.reduceMod, Int.reduceToNat, Int.reduceLT, Int.reduceLE, Int.reduceAdd, Int.reduceSub, Int.reduceMul, Int.reduceEq, Int.reduceNeg, reduceCtorEq, resV, resAll, ARes.ev, LV.flat, ite_true, ite_false, exists_eq_left', exists_eq_left, keyOf, implies_true, fillC, capOf]
  refine condC_dec (fun h => ?_) (fun h => ?_)
  all_goals
    simp (disch := omega) only [↓SXd, SXu, slBounds, ↓sop, ↓aop, ↓reduceIte, LV.cells, AOp.dst, LV.I, LV.B, LV.U, LV.S, LV.nil, Nat.reduceEqDiff, Nat.reduceAdd, Nat.reduceMul, Nat.reduceSub, Nat.reduceLeDiff, Nat.reduceBEq, Nat.reduceDiv, Nat.reduceMod, Int.reduceToNat, Int.reduceLT, Int.reduceLE, Int.reduceAdd, Int.reduceSub, Int.reduceMul, Int.reduceEq, Int.reduceNeg, reduceCtorEq, resV, resAll, ARes.ev, LV.flat, ite_true, ite_false, exists_eq_left', exists_eq_left, keyOf, implies_true, fillC, capOf]
  · rw [show min a b = a by omega]; exact cmp_drop0 rfl
  · rw [show min a b = b by omega]; exact cmp_drop0 rfl

end Go.Ab

/- Contracts: pieces, both sides. -/
namespace Go.Ab
open Go
set_option linter.unusedSimpArgs false
set_option linter.unusedVariables false
set_option maxRecDepth 20000

def minC (s c : Cell) : Cell := ⟨min s.a c.a, min s.b c.b, min s.c c.c⟩
def lowC (s : Cell) (l : List Cell) : Cell := l.foldl minC s
theorem lowC_take {s : Cell} {l : List Cell} {i : Nat} (h : i < l.length) : lowC s (l.take (i + 1)) = minC (lowC s (l.take i)) (l.getD i default) := by
  unfold lowC
  rw [List.take_succ, List.getElem?_eq_getElem h, Option.toList_some, List.foldl_append]
  have e : l.getD i default = l[i] := by simp [h]
  rw [e]; rfl
/-- A piece. -/
def PieceOK (l : List Cell) : Prop := (1 ≤ l.length ∧ l.length ≤ 5) ∧ HeapOK 4 4 4 l ∧ lowC ⟨4, 4, 4⟩ l = ⟨0, 0, 0⟩
noncomputable instance (l : List Cell) : Decidable (PieceOK l) := Classical.propDecidable _
theorem sides4 : Sides 4 4 4 := by unfold Sides; omega
theorem low_first {c : Cell} {l : List Cell} (h : c.inBox 4 4 4) : lowC c (c :: l) = lowC ⟨4, 4, 4⟩ (c :: l) := by
  unfold lowC
  rw [List.foldl_cons, List.foldl_cons]
  congr 1
  obtain ⟨⟨_, _⟩, ⟨_, _⟩, ⟨_, _⟩⟩ := h
  unfold minC
  rw [cell_eq]
  simp only
  omega
theorem minC_in {s c : Cell} (hs : (0 ≤ s.a ∧ s.a ≤ 4) ∧ (0 ≤ s.b ∧ s.b ≤ 4) ∧ (0 ≤ s.c ∧ s.c ≤ 4)) (hc : c.inBox 4 4 4) : (0 ≤ (minC s c).a ∧ (minC s c).a ≤ 4) ∧ (0 ≤ (minC s c).b ∧ (minC s c).b ≤ 4) ∧ (0 ≤ (minC s c).c ∧ (minC s c).c ≤ 4) := by
  obtain ⟨⟨_, _⟩, ⟨_, _⟩, ⟨_, _⟩⟩ := hc
  unfold minC
  simp only
  omega

def minTo (s c : Cell) : Nat → Cell
  | 0 => s
  | 1 => ⟨min s.a c.a, s.b, s.c⟩
  | 2 => ⟨min s.a c.a, min s.b c.b, s.c⟩
  | _ => minC s c
theorem h_l9Piece {l : List Cell} {t o : Nat} {M : Mem} (h : Tri M t o l) (hn : l.length ≤ 1000000000) : CallsTo PG F.spec_l9Piece [.ref t o l.length] M (.B (decide (PieceOK l))) M := by
  have ht := h.lt
  refine calls_run K.spec_l9Piece rfl ?_
  simp (disch := omega) only [C.spec_l9Piece, ↓SXd, SXu, slBounds, ↓sop, ↓aop, ↓reduceIte, LV.cells, AOp.dst, LV.I, LV.B, LV.U, LV.S, LV.nil, Nat.reduceEqDiff, Nat.reduceAdd, Nat.reduceMul, Nat.reduceSub, Nat.reduceLeDiff, Nat.reduceBEq, Nat.reduceDiv, Nat.reduceMod, Int.reduceToNat, Int.reduceLT, Int.reduceLE, Int.reduceAdd, Int.reduceSub, Int.reduceMul, Int.reduceEq, Int.reduceNeg, reduceCtorEq, resV, resAll, ARes.ev, LV.flat, ite_true, ite_false, exists_eq_left', exists_eq_left, keyOf, implies_true, fillC, capOf]
  refine callK_of (h_l1In) ?_
  simp (disch := omega) only [↓SXd, SXu, slBounds, ↓sop, ↓aop, ↓reduceIte, LV.cells, AOp.dst, LV.I, LV.B, LV.U, LV.S, LV.nil, Nat.reduceEqDiff, Nat.reduceAdd, Nat.reduceMul, Nat.reduceSub, Nat.reduceLeDiff, Nat.reduceBEq, Nat.reduceDiv, Nat.reduceMod, Int.reduceToNat, Int.reduceLT, Int.reduceLE, Int.reduceAdd, Int.reduceSub, Int.reduceMul, Int.reduceEq, Int.reduceNeg, reduceCtorEq, resV, resAll, ARes.ev, LV.flat, ite_true, ite_false, exists_eq_left', exists_eq_left, keyOf, implies_true, fillC, capOf]
  by_cases hl : 1 ≤ (l.length : Int) ∧ (l.length : Int) ≤ 5
  · obtain ⟨hl1, hl2⟩ := id hl
    simp (disch := omega) only [hl, splice, ↓SXd, SXu, slBounds, ↓sop, ↓aop, ↓reduceIte, LV.cells, AOp.dst, LV.I, LV.B, LV.U, LV.S, LV.nil, Nat.reduceEqDiff, Nat.reduceAdd, Nat.reduceMul, Nat.reduceSub, Nat.reduceLeDiff, Nat.reduceBEq, Nat.reduceDiv, Nat.reduceMod, Int.reduceToNat, Int.reduceLT, Int.reduceLE, Int.reduceAdd, Int.reduceSub, Int.reduceMul, Int.reduceEq, Int.reduceNeg, reduceCtorEq, resV, resAll, ARes.ev, LV.flat, ite_true, ite_false, exists_eq_left', exists_eq_left, keyOf, implies_true, fillC, capOf]
    refine ev_loop (fun m fr M' => ∃ i : Nat, i + m = l.length ∧ Pre M M' ∧ Live M' M.length (.row [.I (lowC ⟨4, 4, 4⟩ (l.take i)).a, .I (lowC ⟨4, 4, 4⟩ (l.take i)).b, .I (lowC ⟨4, 4, 4⟩ (l.take i)).c] true 0) ∧
      (∀ j, j < i → (l.getD j default).inBox 4 4 4 ∧ (0 < j → (l.getD (j - 1) default).lt (l.getD j default))) ∧ ((0 ≤ (lowC ⟨4, 4, 4⟩ (l.take i)).a ∧ (lowC ⟨4, 4, 4⟩ (l.take i)).a ≤ 4) ∧ (0 ≤ (lowC ⟨4, 4, 4⟩ (l.take i)).b ∧ (lowC ⟨4, 4, 4⟩ (l.take i)).b ≤ 4) ∧ (0 ≤ (lowC ⟨4, 4, 4⟩ (l.take i)).c ∧ (lowC ⟨4, 4, 4⟩ (l.take i)).c ≤ 4)) ∧
      fr 0 = .ref t o l.length ∧ fr 3 = .ptr M.length 0 ∧ fr 4 = .I i) l.length
      ⟨0, by omega, Pre.app _ _, Live.new, by omega, by simp [lowC], rfl, rfl, rfl⟩ ?_
    rintro m fr M' ⟨i, hi, hpre, b3, hj, hlow, f0, f3, f4⟩
    simp (disch := omega) only [f0, f3, f4, ↓SXd, SXu, slBounds, ↓sop, ↓aop, ↓reduceIte, LV.cells, AOp.dst, LV.I, LV.B, LV.U, LV.S, LV.nil, Nat.reduceEqDiff, Nat.reduceAdd, Nat.reduceMul, Nat.reduceSub, Nat.reduceLeDiff, Nat.reduceBEq, Nat.reduceDiv, Nat.reduceMod, Int.reduceToNat, Int.reduceLT, Int.reduceLE, Int.reduceAdd, Int.reduceSub, Int.reduceMul, Int.reduceEq, Int.reduceNeg, reduceCtorEq, resV, resAll, ARes.ev, LV.flat, ite_true, ite_false, exists_eq_left', exists_eq_left, keyOf, implies_true, fillC, capOf]
    refine condC_dec (fun hlt => ?_) (fun hlt => ?_)
    · have hil : i < l.length := by omega
      have hlk := lowC_take (s := ⟨4, 4, 4⟩) hil
      have hgk := Tri.get (h.pre hpre) hil
      have ga := Tri.get_a (h.pre hpre) hil
      have gb := Tri.get_b (h.pre hpre) hil
      have gc := Tri.get_c (h.pre hpre) hil
      have hbad : ∀ P : Prop, (HeapOK 4 4 4 l → P) → PieceOK l → P := fun P h1 h2 => h1 h2.2.1
      have hbl := b3.lt
      generalize hc : l.getD i default = c at hlk hgk ga gb gc
      generalize lowC ⟨4, 4, 4⟩ (l.take i) = s at hlk b3 hlow
      simp (disch := omega) only [f0, f3, f4, ↓SXd, SXu, slBounds, ↓sop, ↓aop, ↓reduceIte, LV.cells, AOp.dst, LV.I, LV.B, LV.U, LV.S, LV.nil, Nat.reduceEqDiff, Nat.reduceAdd, Nat.reduceMul, Nat.reduceSub, Nat.reduceLeDiff, Nat.reduceBEq, Nat.reduceDiv, Nat.reduceMod, Int.reduceToNat, Int.reduceLT, Int.reduceLE, Int.reduceAdd, Int.reduceSub, Int.reduceMul, Int.reduceEq, Int.reduceNeg, reduceCtorEq, resV, resAll, ARes.ev, LV.flat, ite_true, ite_false, exists_eq_left', exists_eq_left, keyOf, implies_true, fillC, capOf]
      refine ev_loop (fun m2 fr2 M2 => ∃ k : Nat, k + m2 = 3 ∧ Pre M M2 ∧ Live M2 M.length (.row [.I (minTo s c k).a, .I (minTo s c k).b, .I (minTo s c k).c] true 0) ∧ (1 ≤ k → 0 ≤ c.a ∧ c.a ≤ 3) ∧ (2 ≤ k → 0 ≤ c.b ∧ c.b ≤ 3) ∧ (3 ≤ k → 0 ≤ c.c ∧ c.c ≤ 3) ∧
        fr2 0 = .ref t o l.length ∧ fr2 3 = .ptr M.length 0 ∧ fr2 4 = .I i ∧ fr2 5 = .I k) 3
        ⟨0, rfl, hpre, b3, by omega, by omega, by omega, f0, f3, f4, rfl⟩ ?_
      clear ga gb gc hgk
      rintro m2 fr2 M2 ⟨k, hk, p2, c3, ka, kb, kc, g0, g3, g4, g5⟩
      simp (disch := omega) only [g0, g3, g4, g5, ↓SXd, SXu, slBounds, ↓sop, ↓aop, ↓reduceIte, LV.cells, AOp.dst, LV.I, LV.B, LV.U, LV.S, LV.nil, Nat.reduceEqDiff, Nat.reduceAdd, Nat.reduceMul, Nat.reduceSub, Nat.reduceLeDiff, Nat.reduceBEq, Nat.reduceDiv, Nat.reduceMod, Int.reduceToNat, Int.reduceLT, Int.reduceLE, Int.reduceAdd, Int.reduceSub, Int.reduceMul, Int.reduceEq, Int.reduceNeg, reduceCtorEq, resV, resAll, ARes.ev, LV.flat, ite_true, ite_false, exists_eq_left', exists_eq_left, keyOf, implies_true, fillC, capOf]
      have hgk := Tri.get (h.pre p2) hil
      have ga := Tri.get_a (h.pre p2) hil
      have gb := Tri.get_b (h.pre p2) hil
      have gc := Tri.get_c (h.pre p2) hil
      rw [hc] at ga gb gc hgk
      refine condC_dec (fun hlt2 => ?_) (fun hlt2 => ?_)
      · rcases (show k = 0 ∨ k = 1 ∨ k = 2 by omega) with rfl | rfl | rfl
        · simp (disch := omega) only [g0, g3, g4, g5, ga, Nat.add_zero, ↓SXd, SXu, slBounds, ↓sop, ↓aop, ↓reduceIte, LV.cells, AOp.dst, LV.I, LV.B, LV.U, LV.S, LV.nil, Nat.reduceEqDiff, Nat.reduceAdd, Nat.reduceMul, Nat.reduceSub, Nat.reduceLeDiff, Nat.reduceBEq, Nat.reduceDiv, Nat.reduceMod, Int.reduceToNat, Int.reduceLT, Int.reduceLE, Int.reduceAdd, Int.reduceSub, Int.reduceMul, Int.reduceEq, Int.reduceNeg, reduceCtorEq, resV, resAll, ARes.ev, LV.flat, ite_true, ite_false, exists_eq_left', exists_eq_left, keyOf, implies_true, fillC, capOf]
          refine callK_of (h_l1In) ?_
          simp (disch := omega) only [g0, g3, g4, g5, ↓SXd, SXu, slBounds, ↓sop, ↓aop, ↓reduceIte, LV.cells, AOp.dst, LV.I, LV.B, LV.U, LV.S, LV.nil, Nat.reduceEqDiff, Nat.reduceAdd, Nat.reduceMul, Nat.reduceSub, Nat.reduceLeDiff, Nat.reduceBEq, Nat.reduceDiv, Nat.reduceMod, Int.reduceToNat, Int.reduceLT, Int.reduceLE, Int.reduceAdd, Int.reduceSub, Int.reduceMul, Int.reduceEq, Int.reduceNeg, reduceCtorEq, resV, resAll, ARes.ev, LV.flat, ite_true, ite_false, exists_eq_left', exists_eq_left, keyOf, implies_true, fillC, capOf]
          by_cases hv : 0 ≤ c.a ∧ c.a ≤ 3
          · rw [decide_eq_true hv]
            simp (disch := omega) only [g0, g3, g4, g5, ga, Nat.add_zero, c3.cell, ↓SXd, SXu, slBounds, ↓sop, ↓aop, ↓reduceIte, LV.cells, AOp.dst, LV.I, LV.B, LV.U, LV.S, LV.nil, Nat.reduceEqDiff, Nat.reduceAdd, Nat.reduceMul, Nat.reduceSub, Nat.reduceLeDiff, Nat.reduceBEq, Nat.reduceDiv, Nat.reduceMod, Int.reduceToNat, Int.reduceLT, Int.reduceLE, Int.reduceAdd, Int.reduceSub, Int.reduceMul, Int.reduceEq, Int.reduceNeg, reduceCtorEq, resV, resAll, ARes.ev, LV.flat, ite_true, ite_false, exists_eq_left', exists_eq_left, keyOf, implies_true, fillC, capOf]
            refine callK_of (h_l1Least) ?_
            simp (disch := omega) only [g0, g3, g4, g5, ↓SXd, SXu, slBounds, ↓sop, ↓aop, ↓reduceIte, LV.cells, AOp.dst, LV.I, LV.B, LV.U, LV.S, LV.nil, Nat.reduceEqDiff, Nat.reduceAdd, Nat.reduceMul, Nat.reduceSub, Nat.reduceLeDiff, Nat.reduceBEq, Nat.reduceDiv, Nat.reduceMod, Int.reduceToNat, Int.reduceLT, Int.reduceLE, Int.reduceAdd, Int.reduceSub, Int.reduceMul, Int.reduceEq, Int.reduceNeg, reduceCtorEq, resV, resAll, ARes.ev, LV.flat, ite_true, ite_false, exists_eq_left', exists_eq_left, keyOf, implies_true, fillC, capOf]
            refine memK_one c3 (by simp) fun N q1 q2 q3 => ?_
            simp (disch := omega) only [g0, g3, g4, g5, ↓SXd, SXu, slBounds, ↓sop, ↓aop, ↓reduceIte, LV.cells, AOp.dst, LV.I, LV.B, LV.U, LV.S, LV.nil, Nat.reduceEqDiff, Nat.reduceAdd, Nat.reduceMul, Nat.reduceSub, Nat.reduceLeDiff, Nat.reduceBEq, Nat.reduceDiv, Nat.reduceMod, Int.reduceToNat, Int.reduceLT, Int.reduceLE, Int.reduceAdd, Int.reduceSub, Int.reduceMul, Int.reduceEq, Int.reduceNeg, reduceCtorEq, resV, resAll, ARes.ev, LV.flat, ite_true, ite_false, exists_eq_left', exists_eq_left, keyOf, implies_true, fillC, capOf]
            exact ⟨m2 - 1, by omega, 1, by omega, pre_step p2 (by omega) (j := 0) q1 q3, q2, fun _ => hv, by omega, by omega, g0, g3, g4, rfl⟩
          · rw [decide_eq_false hv]
            simp (disch := omega) only [g0, g3, g4, g5, ↓SXd, SXu, slBounds, ↓sop, ↓aop, ↓reduceIte, LV.cells, AOp.dst, LV.I, LV.B, LV.U, LV.S, LV.nil, Nat.reduceEqDiff, Nat.reduceAdd, Nat.reduceMul, Nat.reduceSub, Nat.reduceLeDiff, Nat.reduceBEq, Nat.reduceDiv, Nat.reduceMod, Int.reduceToNat, Int.reduceLT, Int.reduceLE, Int.reduceAdd, Int.reduceSub, Int.reduceMul, Int.reduceEq, Int.reduceNeg, reduceCtorEq, resV, resAll, ARes.ev, LV.flat, ite_true, ite_false, exists_eq_left', exists_eq_left, keyOf, implies_true, fillC, capOf]
            rw [decide_eq_false (fun hp => hv (by have := (hp.2.1.2 i hil).1.1; rw [hc] at this; omega))]
            exact cmp_pre p2 rfl
        · simp (disch := omega) only [g0, g3, g4, g5, gb, ↓SXd, SXu, slBounds, ↓sop, ↓aop, ↓reduceIte, LV.cells, AOp.dst, LV.I, LV.B, LV.U, LV.S, LV.nil, Nat.reduceEqDiff, Nat.reduceAdd, Nat.reduceMul, Nat.reduceSub, Nat.reduceLeDiff, Nat.reduceBEq, Nat.reduceDiv, Nat.reduceMod, Int.reduceToNat, Int.reduceLT, Int.reduceLE, Int.reduceAdd, Int.reduceSub, Int.reduceMul, Int.reduceEq, Int.reduceNeg, reduceCtorEq, resV, resAll, ARes.ev, LV.flat, ite_true, ite_false, exists_eq_left', exists_eq_left, keyOf, implies_true, fillC, capOf]
          refine callK_of (h_l1In) ?_
          simp (disch := omega) only [g0, g3, g4, g5, ↓SXd, SXu, slBounds, ↓sop, ↓aop, ↓reduceIte, LV.cells, AOp.dst, LV.I, LV.B, LV.U, LV.S, LV.nil, Nat.reduceEqDiff, Nat.reduceAdd, Nat.reduceMul, Nat.reduceSub, Nat.reduceLeDiff, Nat.reduceBEq, Nat.reduceDiv, Nat.reduceMod, Int.reduceToNat, Int.reduceLT, Int.reduceLE, Int.reduceAdd, Int.reduceSub, Int.reduceMul, Int.reduceEq, Int.reduceNeg, reduceCtorEq, resV, resAll, ARes.ev, LV.flat, ite_true, ite_false, exists_eq_left', exists_eq_left, keyOf, implies_true, fillC, capOf]
          by_cases hv : 0 ≤ c.b ∧ c.b ≤ 3
          · rw [decide_eq_true hv]
            simp (disch := omega) only [g0, g3, g4, g5, gb, c3.cell, ↓SXd, SXu, slBounds, ↓sop, ↓aop, ↓reduceIte, LV.cells, AOp.dst, LV.I, LV.B, LV.U, LV.S, LV.nil, Nat.reduceEqDiff, Nat.reduceAdd, Nat.reduceMul, Nat.reduceSub, Nat.reduceLeDiff, Nat.reduceBEq, Nat.reduceDiv, Nat.reduceMod, Int.reduceToNat, Int.reduceLT, Int.reduceLE, Int.reduceAdd, Int.reduceSub, Int.reduceMul, Int.reduceEq, Int.reduceNeg, reduceCtorEq, resV, resAll, ARes.ev, LV.flat, ite_true, ite_false, exists_eq_left', exists_eq_left, keyOf, implies_true, fillC, capOf]
            refine callK_of (h_l1Least) ?_
            simp (disch := omega) only [g0, g3, g4, g5, ↓SXd, SXu, slBounds, ↓sop, ↓aop, ↓reduceIte, LV.cells, AOp.dst, LV.I, LV.B, LV.U, LV.S, LV.nil, Nat.reduceEqDiff, Nat.reduceAdd, Nat.reduceMul, Nat.reduceSub, Nat.reduceLeDiff, Nat.reduceBEq, Nat.reduceDiv, Nat.reduceMod, Int.reduceToNat, Int.reduceLT, Int.reduceLE, Int.reduceAdd, Int.reduceSub, Int.reduceMul, Int.reduceEq, Int.reduceNeg, reduceCtorEq, resV, resAll, ARes.ev, LV.flat, ite_true, ite_false, exists_eq_left', exists_eq_left, keyOf, implies_true, fillC, capOf]
            refine memK_one c3 (by simp) fun N q1 q2 q3 => ?_
            simp (disch := omega) only [g0, g3, g4, g5, ↓SXd, SXu, slBounds, ↓sop, ↓aop, ↓reduceIte, LV.cells, AOp.dst, LV.I, LV.B, LV.U, LV.S, LV.nil, Nat.reduceEqDiff, Nat.reduceAdd, Nat.reduceMul, Nat.reduceSub, Nat.reduceLeDiff, Nat.reduceBEq, Nat.reduceDiv, Nat.reduceMod, Int.reduceToNat, Int.reduceLT, Int.reduceLE, Int.reduceAdd, Int.reduceSub, Int.reduceMul, Int.reduceEq, Int.reduceNeg, reduceCtorEq, resV, resAll, ARes.ev, LV.flat, ite_true, ite_false, exists_eq_left', exists_eq_left, keyOf, implies_true, fillC, capOf]
            exact ⟨m2 - 1, by omega, 2, by omega, pre_step p2 (by omega) (j := 0) q1 q3, q2, fun _ => ka (by omega), fun _ => hv, by omega, g0, g3, g4, rfl⟩
          · rw [decide_eq_false hv]
            simp (disch := omega) only [g0, g3, g4, g5, ↓SXd, SXu, slBounds, ↓sop, ↓aop, ↓reduceIte, LV.cells, AOp.dst, LV.I, LV.B, LV.U, LV.S, LV.nil, Nat.reduceEqDiff, Nat.reduceAdd, Nat.reduceMul, Nat.reduceSub, Nat.reduceLeDiff, Nat.reduceBEq, Nat.reduceDiv, Nat.reduceMod, Int.reduceToNat, Int.reduceLT, Int.reduceLE, Int.reduceAdd, Int.reduceSub, Int.reduceMul, Int.reduceEq, Int.reduceNeg, reduceCtorEq, resV, resAll, ARes.ev, LV.flat, ite_true, ite_false, exists_eq_left', exists_eq_left, keyOf, implies_true, fillC, capOf]
            rw [decide_eq_false (fun hp => hv (by have := (hp.2.1.2 i hil).1.2.1; rw [hc] at this; omega))]
            exact cmp_pre p2 rfl
        · simp (disch := omega) only [g0, g3, g4, g5, gc, ↓SXd, SXu, slBounds, ↓sop, ↓aop, ↓reduceIte, LV.cells, AOp.dst, LV.I, LV.B, LV.U, LV.S, LV.nil, Nat.reduceEqDiff, Nat.reduceAdd, Nat.reduceMul, Nat.reduceSub, Nat.reduceLeDiff, Nat.reduceBEq, Nat.reduceDiv, Nat.reduceMod, Int.reduceToNat, Int.reduceLT, Int.reduceLE, Int.reduceAdd, Int.reduceSub, Int.reduceMul, Int.reduceEq, Int.reduceNeg, reduceCtorEq, resV, resAll, ARes.ev, LV.flat, ite_true, ite_false, exists_eq_left', exists_eq_left, keyOf, implies_true, fillC, capOf]
          refine callK_of (h_l1In) ?_
          simp (disch := omega) only [g0, g3, g4, g5, ↓SXd, SXu, slBounds, ↓sop, ↓aop, ↓reduceIte, LV.cells, AOp.dst, LV.I, LV.B, LV.U, LV.S, LV.nil, Nat.reduceEqDiff, Nat.reduceAdd, Nat.reduceMul, Nat.reduceSub, Nat.reduceLeDiff, Nat.reduceBEq, Nat.reduceDiv, Nat.reduceMod, Int.reduceToNat, Int.reduceLT, Int.reduceLE, Int.reduceAdd, Int.reduceSub, Int.reduceMul, Int.reduceEq, Int.reduceNeg, reduceCtorEq, resV, resAll, ARes.ev, LV.flat, ite_true, ite_false, exists_eq_left', exists_eq_left, keyOf, implies_true, fillC, capOf]
          by_cases hv : 0 ≤ c.c ∧ c.c ≤ 3
          · rw [decide_eq_true hv]
            simp (disch := omega) only [g0, g3, g4, g5, gc, c3.cell, ↓SXd, SXu, slBounds, ↓sop, ↓aop, ↓reduceIte, LV.cells, AOp.dst, LV.I, LV.B, LV.U, LV.S, LV.nil, Nat.reduceEqDiff, Nat.reduceAdd, Nat.reduceMul, Nat.reduceSub, Nat.reduceLeDiff, Nat.reduceBEq, Nat.reduceDiv, Nat.reduceMod, Int.reduceToNat, Int.reduceLT, Int.reduceLE, Int.reduceAdd, Int.reduceSub, Int.reduceMul, Int.reduceEq, Int.reduceNeg, reduceCtorEq, resV, resAll, ARes.ev, LV.flat, ite_true, ite_false, exists_eq_left', exists_eq_left, keyOf, implies_true, fillC, capOf]
            refine callK_of (h_l1Least) ?_
            simp (disch := omega) only [g0, g3, g4, g5, ↓SXd, SXu, slBounds, ↓sop, ↓aop, ↓reduceIte, LV.cells, AOp.dst, LV.I, LV.B, LV.U, LV.S, LV.nil, Nat.reduceEqDiff, Nat.reduceAdd, Nat.reduceMul, Nat.reduceSub, Nat.reduceLeDiff, Nat.reduceBEq, Nat.reduceDiv, Nat.reduceMod, Int.reduceToNat, Int.reduceLT, Int.reduceLE, Int.reduceAdd, Int.reduceSub, Int.reduceMul, Int.reduceEq, Int.reduceNeg, reduceCtorEq, resV, resAll, ARes.ev, LV.flat, ite_true, ite_false, exists_eq_left', exists_eq_left, keyOf, implies_true, fillC, capOf]
            refine memK_one c3 (by simp) fun N q1 q2 q3 => ?_
            simp (disch := omega) only [g0, g3, g4, g5, ↓SXd, SXu, slBounds, ↓sop, ↓aop, ↓reduceIte, LV.cells, AOp.dst, LV.I, LV.B, LV.U, LV.S, LV.nil, Nat.reduceEqDiff, Nat.reduceAdd, Nat.reduceMul, Nat.reduceSub, Nat.reduceLeDiff, Nat.reduceBEq, Nat.reduceDiv, Nat.reduceMod, Int.reduceToNat, Int.reduceLT, Int.reduceLE, Int.reduceAdd, Int.reduceSub, Int.reduceMul, Int.reduceEq, Int.reduceNeg, reduceCtorEq, resV, resAll, ARes.ev, LV.flat, ite_true, ite_false, exists_eq_left', exists_eq_left, keyOf, implies_true, fillC, capOf]
            exact ⟨m2 - 1, by omega, 3, by omega, pre_step p2 (by omega) (j := 0) q1 q3, q2, fun _ => ka (by omega), fun _ => kb (by omega), fun _ => hv, g0, g3, g4, rfl⟩
          · rw [decide_eq_false hv]
            simp (disch := omega) only [g0, g3, g4, g5, ↓SXd, SXu, slBounds, ↓sop, ↓aop, ↓reduceIte, LV.cells, AOp.dst, LV.I, LV.B, LV.U, LV.S, LV.nil, Nat.reduceEqDiff, Nat.reduceAdd, Nat.reduceMul, Nat.reduceSub, Nat.reduceLeDiff, Nat.reduceBEq, Nat.reduceDiv, Nat.reduceMod, Int.reduceToNat, Int.reduceLT, Int.reduceLE, Int.reduceAdd, Int.reduceSub, Int.reduceMul, Int.reduceEq, Int.reduceNeg, reduceCtorEq, resV, resAll, ARes.ev, LV.flat, ite_true, ite_false, exists_eq_left', exists_eq_left, keyOf, implies_true, fillC, capOf]
            rw [decide_eq_false (fun hp => hv (by have := (hp.2.1.2 i hil).1.2.2; rw [hc] at this; omega))]
            exact cmp_pre p2 rfl
      · have : k = 3 := by omega
        subst this
        have hin : c.inBox 4 4 4 := ⟨by have := ka (by omega); omega, by have := kb (by omega); omega, by have := kc (by omega); omega⟩
        have hmi := minC_in hlow hin
        rw [show minTo s c 3 = minC s c from rfl, ← hlk] at c3
        rw [← hlk] at hmi
        simp (disch := omega) only [g0, g3, g4, g5, ↓SXd, SXu, slBounds, ↓sop, ↓aop, ↓reduceIte, LV.cells, AOp.dst, LV.I, LV.B, LV.U, LV.S, LV.nil, Nat.reduceEqDiff, Nat.reduceAdd, Nat.reduceMul, Nat.reduceSub, Nat.reduceLeDiff, Nat.reduceBEq, Nat.reduceDiv, Nat.reduceMod, Int.reduceToNat, Int.reduceLT, Int.reduceLE, Int.reduceAdd, Int.reduceSub, Int.reduceMul, Int.reduceEq, Int.reduceNeg, reduceCtorEq, resV, resAll, ARes.ev, LV.flat, ite_true, ite_false, exists_eq_left', exists_eq_left, keyOf, implies_true, fillC, capOf]
        by_cases hi0 : i = 0
        · subst hi0
          have hi0' : ¬ ((0 : Int) > 0) := by omega
          simp (disch := omega) only [g0, g3, g4, g5, Int.natCast_zero, hi0', ↓SXd, SXu, slBounds, ↓sop, ↓aop, ↓reduceIte, LV.cells, AOp.dst, LV.I, LV.B, LV.U, LV.S, LV.nil, Nat.reduceEqDiff, Nat.reduceAdd, Nat.reduceMul, Nat.reduceSub, Nat.reduceLeDiff, Nat.reduceBEq, Nat.reduceDiv, Nat.reduceMod, Int.reduceToNat, Int.reduceLT, Int.reduceLE, Int.reduceAdd, Int.reduceSub, Int.reduceMul, Int.reduceEq, Int.reduceNeg, reduceCtorEq, resV, resAll, ARes.ev, LV.flat, ite_true, ite_false, exists_eq_left', exists_eq_left, keyOf, implies_true, fillC, capOf]
          exact ⟨m - 1, by omega, 1, by omega, p2, c3, fun j hj1 => by
            have : j = 0 := by omega
            subst this
            rw [hc]; exact ⟨hin, by omega⟩, hmi, g0, g3, rfl⟩
        · have hi1 : (i : Int) > 0 := by omega
          have e1 : ((i : Int) - 1).toNat = i - 1 := by omega
          have hgp := Tri.get (h.pre p2) (show i - 1 < l.length by omega)
          simp (disch := omega) only [g0, g3, g4, g5, hi1, e1, hgp, hgk, Cell.row, ↓SXd, SXu, slBounds, ↓sop, ↓aop, ↓reduceIte, LV.cells, AOp.dst, LV.I, LV.B, LV.U, LV.S, LV.nil, Nat.reduceEqDiff, Nat.reduceAdd, Nat.reduceMul, Nat.reduceSub, Nat.reduceLeDiff, Nat.reduceBEq, Nat.reduceDiv, Nat.reduceMod, Int.reduceToNat, Int.reduceLT, Int.reduceLE, Int.reduceAdd, Int.reduceSub, Int.reduceMul, Int.reduceEq, Int.reduceNeg, reduceCtorEq, resV, resAll, ARes.ev, LV.flat, ite_true, ite_false, exists_eq_left', exists_eq_left, keyOf, implies_true, fillC, capOf]
          refine callK_of (h_l2Before) ?_
          simp (disch := omega) only [g0, g3, g4, g5, cell_eta, ↓SXd, SXu, slBounds, ↓sop, ↓aop, ↓reduceIte, LV.cells, AOp.dst, LV.I, LV.B, LV.U, LV.S, LV.nil, Nat.reduceEqDiff, Nat.reduceAdd, Nat.reduceMul, Nat.reduceSub, Nat.reduceLeDiff, Nat.reduceBEq, Nat.reduceDiv, Nat.reduceMod, Int.reduceToNat, Int.reduceLT, Int.reduceLE, Int.reduceAdd, Int.reduceSub, Int.reduceMul, Int.reduceEq, Int.reduceNeg, reduceCtorEq, resV, resAll, ARes.ev, LV.flat, ite_true, ite_false, exists_eq_left', exists_eq_left, keyOf, implies_true, fillC, capOf]
          by_cases hb : (l.getD (i - 1) default).lt c
          · simp (disch := omega) only [g0, g3, g4, g5, hb, ↓SXd, SXu, slBounds, ↓sop, ↓aop, ↓reduceIte, LV.cells, AOp.dst, LV.I, LV.B, LV.U, LV.S, LV.nil, Nat.reduceEqDiff, Nat.reduceAdd, Nat.reduceMul, Nat.reduceSub, Nat.reduceLeDiff, Nat.reduceBEq, Nat.reduceDiv, Nat.reduceMod, Int.reduceToNat, Int.reduceLT, Int.reduceLE, Int.reduceAdd, Int.reduceSub, Int.reduceMul, Int.reduceEq, Int.reduceNeg, reduceCtorEq, resV, resAll, ARes.ev, LV.flat, ite_true, ite_false, exists_eq_left', exists_eq_left, keyOf, implies_true, fillC, capOf]
            exact ⟨m - 1, by omega, i + 1, by omega, p2, c3, fun j hj1 => by
              rcases Nat.lt_or_ge j i with h2 | h2
              · exact hj j h2
              · rw [show j = i by omega, hc]; exact ⟨hin, fun _ => hb⟩, hmi, g0, g3, eqI (natI _)⟩
          · simp (disch := omega) only [g0, g3, g4, g5, hb, ↓SXd, SXu, slBounds, ↓sop, ↓aop, ↓reduceIte, LV.cells, AOp.dst, LV.I, LV.B, LV.U, LV.S, LV.nil, Nat.reduceEqDiff, Nat.reduceAdd, Nat.reduceMul, Nat.reduceSub, Nat.reduceLeDiff, Nat.reduceBEq, Nat.reduceDiv, Nat.reduceMod, Int.reduceToNat, Int.reduceLT, Int.reduceLE, Int.reduceAdd, Int.reduceSub, Int.reduceMul, Int.reduceEq, Int.reduceNeg, reduceCtorEq, resV, resAll, ARes.ev, LV.flat, ite_true, ite_false, exists_eq_left', exists_eq_left, keyOf, implies_true, fillC, capOf]
            rw [decide_eq_false (fun hp => hb (by have := (hp.2.1.2 i hil).2 (by omega); rwa [hc] at this))]
            exact cmp_pre p2 rfl
    · have : i = l.length := by omega
      subst this
      rw [List.take_length] at b3
      simp (disch := omega) only [f0, f3, f4, b3.cells, eqV, eqC, if_true, ite_true, Bool.and_true, ↓SXd, SXu, slBounds, ↓sop, ↓aop, ↓reduceIte, LV.cells, AOp.dst, LV.I, LV.B, LV.U, LV.S, LV.nil, Nat.reduceEqDiff, Nat.reduceAdd, Nat.reduceMul, Nat.reduceSub, Nat.reduceLeDiff, Nat.reduceBEq, Nat.reduceDiv, Nat.reduceMod, Int.reduceToNat, Int.reduceLT, Int.reduceLE, Int.reduceAdd, Int.reduceSub, Int.reduceMul, Int.reduceEq, Int.reduceNeg, reduceCtorEq, resV, resAll, ARes.ev, LV.flat, ite_true, ite_false, exists_eq_left', exists_eq_left, keyOf, implies_true, fillC, capOf]
      have hH : HeapOK 4 4 4 l := ⟨sides4, fun k hk => hj k hk⟩
      rw [show decide (PieceOK l) = ((lowC ⟨4, 4, 4⟩ l).a == 0 && ((lowC ⟨4, 4, 4⟩ l).b == 0 && (lowC ⟨4, 4, 4⟩ l).c == 0)) by
        rw [Bool.eq_iff_iff, decide_eq_true_iff]
        unfold PieceOK
        rw [cell_eq]
        simp only [Bool.and_eq_true, beq_iff_eq]
        exact ⟨fun h => h.2.2, fun h => ⟨⟨by omega, by omega⟩, hH, h⟩⟩]
      exact cmp_pre hpre rfl
  · simp (disch := omega) only [hl, ↓SXd, SXu, slBounds, ↓sop, ↓aop, ↓reduceIte, LV.cells, AOp.dst, LV.I, LV.B, LV.U, LV.S, LV.nil, Nat.reduceEqDiff, Nat.reduceAdd, Nat.reduceMul, Nat.reduceSub, Nat.reduceLeDiff, Nat.reduceBEq, Nat.reduceDiv, Nat.reduceMod, Int.reduceToNat, Int.reduceLT, Int.reduceLE, Int.reduceAdd, Int.reduceSub, Int.reduceMul, Int.reduceEq, Int.reduceNeg, reduceCtorEq, resV, resAll, ARes.ev, LV.flat, ite_true, ite_false, exists_eq_left', exists_eq_left, keyOf, implies_true, fillC, capOf]
    rw [decide_eq_false (fun hp => hl ⟨by have := hp.1.1; omega, by have := hp.1.2; omega⟩)]
    exact cmp_pre (Pre.refl _) rfl
end Go.Ab

/- Contracts: pieces and lists of them, the program's side; lists, the reference's side. -/
namespace Go.Ab
open Go
set_option linter.unusedSimpArgs false
set_option linter.unusedVariables false
set_option maxRecDepth 20000

theorem g_allWithinLH {lo hi : Int} {xs : List Int} {t o : Nat} {M : Mem} (h : Ints M t o xs) (hn : xs.length ≤ 1000000000) : CallsTo PG F.impl_allWithin [.ref t o xs.length, .I lo, .I hi] M (.B (decide (∀ v ∈ xs, lo ≤ v ∧ v ≤ hi))) M := by
  refine calls_run K.impl_allWithin rfl ?_
  simp (disch := omega) only [C.impl_allWithin, ↓SXd, SXu, slBounds, ↓sop, ↓aop, ↓reduceIte, LV.cells, AOp.dst, LV.I, LV.B, LV.U, LV.S, LV.nil, Nat.reduceEqDiff, Nat.reduceAdd, Nat.reduceMul, Nat.reduceSub, Nat.reduceLeDiff, Nat.reduceBEq, Nat.reduceDiv, Nat.reduceMod, Int.reduceToNat, Int.reduceLT, Int.reduceLE, Int.reduceAdd, Int.reduceSub, Int.reduceMul, Int.reduceEq, Int.reduceNeg, reduceCtorEq, resV, resAll, ARes.ev, LV.flat, ite_true, ite_false, exists_eq_left', exists_eq_left, keyOf, implies_true, fillC, capOf]
  refine ev_loop (fun m fr M' => ∃ k : Nat, k + m = xs.length ∧ M' = M ∧ (∀ j, j < k → lo ≤ xs.getD j 0 ∧ xs.getD j 0 ≤ hi) ∧ fr 1 = .I lo ∧ fr 2 = .I hi ∧ fr 9 = .ref t o xs.length ∧ fr 10 = .I xs.length ∧ fr 11 = .I k) xs.length ⟨0, by omega, rfl, by omega, rfl, rfl, rfl, rfl, rfl⟩ ?_
  rintro m fr M' ⟨k, hk, rfl, hj, f1, f2, f9, f10, f11⟩
  simp (disch := omega) only [f1, f2, f9, f10, f11, ↓SXd, SXu, slBounds, ↓sop, ↓aop, ↓reduceIte, LV.cells, AOp.dst, LV.I, LV.B, LV.U, LV.S, LV.nil, Nat.reduceEqDiff, Nat.reduceAdd, Nat.reduceMul, Nat.reduceSub, Nat.reduceLeDiff, Nat.reduceBEq, Nat.reduceDiv, Nat.reduceMod, Int.reduceToNat, Int.reduceLT, Int.reduceLE, Int.reduceAdd, Int.reduceSub, Int.reduceMul, Int.reduceEq, Int.reduceNeg, reduceCtorEq, resV, resAll, ARes.ev, LV.flat, ite_true, ite_false, exists_eq_left', exists_eq_left, keyOf, implies_true, fillC, capOf]
  refine condC_dec (fun hlt => ?_) (fun hlt => ?_)
  · have hkl : k < xs.length := by omega
    have hg := Ints.get h hkl
    simp (disch := omega) only [f1, f2, f9, f10, f11, hg, Nat.mul_one, ↓SXd, SXu, slBounds, ↓sop, ↓aop, ↓reduceIte, LV.cells, AOp.dst, LV.I, LV.B, LV.U, LV.S, LV.nil, Nat.reduceEqDiff, Nat.reduceAdd, Nat.reduceMul, Nat.reduceSub, Nat.reduceLeDiff, Nat.reduceBEq, Nat.reduceDiv, Nat.reduceMod, Int.reduceToNat, Int.reduceLT, Int.reduceLE, Int.reduceAdd, Int.reduceSub, Int.reduceMul, Int.reduceEq, Int.reduceNeg, reduceCtorEq, resV, resAll, ARes.ev, LV.flat, ite_true, ite_false, exists_eq_left', exists_eq_left, keyOf, implies_true, fillC, capOf]
    refine callK_of (g_within) ?_
    simp (disch := omega) only [f1, f2, f9, f10, f11, ↓SXd, SXu, slBounds, ↓sop, ↓aop, ↓reduceIte, LV.cells, AOp.dst, LV.I, LV.B, LV.U, LV.S, LV.nil, Nat.reduceEqDiff, Nat.reduceAdd, Nat.reduceMul, Nat.reduceSub, Nat.reduceLeDiff, Nat.reduceBEq, Nat.reduceDiv, Nat.reduceMod, Int.reduceToNat, Int.reduceLT, Int.reduceLE, Int.reduceAdd, Int.reduceSub, Int.reduceMul, Int.reduceEq, Int.reduceNeg, reduceCtorEq, resV, resAll, ARes.ev, LV.flat, ite_true, ite_false, exists_eq_left', exists_eq_left, keyOf, implies_true, fillC, capOf]
    by_cases hv : lo ≤ xs.getD k 0 ∧ xs.getD k 0 ≤ hi
    · rw [decide_eq_true hv]
      simp (disch := omega) only [f1, f2, f9, f10, f11, ↓SXd, SXu, slBounds, ↓sop, ↓aop, ↓reduceIte, LV.cells, AOp.dst, LV.I, LV.B, LV.U, LV.S, LV.nil, Nat.reduceEqDiff, Nat.reduceAdd, Nat.reduceMul, Nat.reduceSub, Nat.reduceLeDiff, Nat.reduceBEq, Nat.reduceDiv, Nat.reduceMod, Int.reduceToNat, Int.reduceLT, Int.reduceLE, Int.reduceAdd, Int.reduceSub, Int.reduceMul, Int.reduceEq, Int.reduceNeg, reduceCtorEq, resV, resAll, ARes.ev, LV.flat, ite_true, ite_false, exists_eq_left', exists_eq_left, keyOf, implies_true, fillC, capOf]
      exact ⟨m - 1, by omega, k + 1, by omega, rfl, fun j hj1 => by
        rcases Nat.lt_or_ge j k with h2 | h2
        · exact hj j h2
        · rw [show j = k by omega]; exact hv, f1, f2, f9, f10, eqI (natI _)⟩
    · rw [decide_eq_false hv]
      simp (disch := omega) only [f1, f2, f9, f10, f11, ↓SXd, SXu, slBounds, ↓sop, ↓aop, ↓reduceIte, LV.cells, AOp.dst, LV.I, LV.B, LV.U, LV.S, LV.nil, Nat.reduceEqDiff, Nat.reduceAdd, Nat.reduceMul, Nat.reduceSub, Nat.reduceLeDiff, Nat.reduceBEq, Nat.reduceDiv, Nat.reduceMod, Int.reduceToNat, Int.reduceLT, Int.reduceLE, Int.reduceAdd, Int.reduceSub, Int.reduceMul, Int.reduceEq, Int.reduceNeg, reduceCtorEq, resV, resAll, ARes.ev, LV.flat, ite_true, ite_false, exists_eq_left', exists_eq_left, keyOf, implies_true, fillC, capOf]
      rw [decide_eq_false (fun e => hv (e _ (getD_mem' hkl)))]
      exact cmp_drop0 rfl
  · simp (disch := omega) only [f1, f2, f9, f10, f11, ↓SXd, SXu, slBounds, ↓sop, ↓aop, ↓reduceIte, LV.cells, AOp.dst, LV.I, LV.B, LV.U, LV.S, LV.nil, Nat.reduceEqDiff, Nat.reduceAdd, Nat.reduceMul, Nat.reduceSub, Nat.reduceLeDiff, Nat.reduceBEq, Nat.reduceDiv, Nat.reduceMod, Int.reduceToNat, Int.reduceLT, Int.reduceLE, Int.reduceAdd, Int.reduceSub, Int.reduceMul, Int.reduceEq, Int.reduceNeg, reduceCtorEq, resV, resAll, ARes.ev, LV.flat, ite_true, ite_false, exists_eq_left', exists_eq_left, keyOf, implies_true, fillC, capOf]
    have : k = xs.length := by omega
    subst this
    rw [decide_eq_true (fun v hv => by
      obtain ⟨i, hi, rfl⟩ := List.getElem_of_mem hv
      have := hj i hi
      simpa [hi] using this)]
    exact cmp_drop0 rfl

theorem g_IsPiece {l : List Cell} {t o : Nat} {M : Mem} (h : Tri M t o l) (hn : l.length ≤ 1000000000) : CallsTo PG F.impl_IsPiece [.ref t o l.length] M (.B (decide (PieceOK l))) M := by
  have ht := h.lt
  refine calls_run K.impl_IsPiece rfl ?_
  simp (disch := omega) only [C.impl_IsPiece, ↓SXd, SXu, slBounds, ↓sop, ↓aop, ↓reduceIte, LV.cells, AOp.dst, LV.I, LV.B, LV.U, LV.S, LV.nil, Nat.reduceEqDiff, Nat.reduceAdd, Nat.reduceMul, Nat.reduceSub, Nat.reduceLeDiff, Nat.reduceBEq, Nat.reduceDiv, Nat.reduceMod, Int.reduceToNat, Int.reduceLT, Int.reduceLE, Int.reduceAdd, Int.reduceSub, Int.reduceMul, Int.reduceEq, Int.reduceNeg, reduceCtorEq, resV, resAll, ARes.ev, LV.flat, ite_true, ite_false, exists_eq_left', exists_eq_left, keyOf, implies_true, fillC, capOf]
  refine callK_of (g_within) ?_
  simp (disch := omega) only [↓SXd, SXu, slBounds, ↓sop, ↓aop, ↓reduceIte, LV.cells, AOp.dst, LV.I, LV.B, LV.U, LV.S, LV.nil, Nat.reduceEqDiff, Nat.reduceAdd, Nat.reduceMul, Nat.reduceSub, Nat.reduceLeDiff, Nat.reduceBEq, Nat.reduceDiv, Nat.reduceMod, Int.reduceToNat, Int.reduceLT, Int.reduceLE, Int.reduceAdd, Int.reduceSub, Int.reduceMul, Int.reduceEq, Int.reduceNeg, reduceCtorEq, resV, resAll, ARes.ev, LV.flat, ite_true, ite_false, exists_eq_left', exists_eq_left, keyOf, implies_true, fillC, capOf]
  by_cases hl : 1 ≤ (l.length : Int) ∧ (l.length : Int) ≤ 5
  · obtain ⟨hl1, hl2⟩ := id hl
    rw [decide_eq_true hl]
    have hg0 := Tri.get h (k := 0) (by omega)
    rw [Nat.zero_mul, Nat.add_zero] at hg0
    simp (disch := omega) only [hg0, Cell.row, splice, Nat.zero_mul, Nat.add_zero, ↓SXd, SXu, slBounds, ↓sop, ↓aop, ↓reduceIte, LV.cells, AOp.dst, LV.I, LV.B, LV.U, LV.S, LV.nil, Nat.reduceEqDiff, Nat.reduceAdd, Nat.reduceMul, Nat.reduceSub, Nat.reduceLeDiff, Nat.reduceBEq, Nat.reduceDiv, Nat.reduceMod, Int.reduceToNat, Int.reduceLT, Int.reduceLE, Int.reduceAdd, Int.reduceSub, Int.reduceMul, Int.reduceEq, Int.reduceNeg, reduceCtorEq, resV, resAll, ARes.ev, LV.flat, ite_true, ite_false, exists_eq_left', exists_eq_left, keyOf, implies_true, fillC, capOf]
    refine ev_loop (fun m fr M' => ∃ i : Nat, i + m = l.length ∧ Pre M M' ∧ Live M' M.length (.row [.I (lowC (l.getD 0 default) (l.take i)).a, .I (lowC (l.getD 0 default) (l.take i)).b, .I (lowC (l.getD 0 default) (l.take i)).c] true 0) ∧
      (∀ j, j < i → (l.getD j default).inBox 4 4 4 ∧ (0 < j → (l.getD (j - 1) default).lt (l.getD j default))) ∧
      fr 0 = .ref t o l.length ∧ fr 3 = .ptr M.length 0 ∧ fr 13 = .ref t o l.length ∧ fr 14 = .I l.length ∧ fr 15 = .I i) l.length
      ⟨0, by omega, Pre.app _ _, Live.new, by omega, rfl, rfl, rfl, rfl, rfl⟩ ?_
    rintro m fr M' ⟨i, hi, hpre, b3, hj, f0, f3, f13, f14, f15⟩
    simp (disch := omega) only [f0, f3, f13, f14, f15, ↓SXd, SXu, slBounds, ↓sop, ↓aop, ↓reduceIte, LV.cells, AOp.dst, LV.I, LV.B, LV.U, LV.S, LV.nil, Nat.reduceEqDiff, Nat.reduceAdd, Nat.reduceMul, Nat.reduceSub, Nat.reduceLeDiff, Nat.reduceBEq, Nat.reduceDiv, Nat.reduceMod, Int.reduceToNat, Int.reduceLT, Int.reduceLE, Int.reduceAdd, Int.reduceSub, Int.reduceMul, Int.reduceEq, Int.reduceNeg, reduceCtorEq, resV, resAll, ARes.ev, LV.flat, ite_true, ite_false, exists_eq_left', exists_eq_left, keyOf, implies_true, fillC, capOf]
    refine condC_dec (fun hlt => ?_) (fun hlt => ?_)
    · have hil : i < l.length := by omega
      have hlk := lowC_take (s := l.getD 0 default) hil
      have hgk := Tri.get (h.pre hpre) hil
      have hbl := b3.lt
      have hMl := hpre.1
      generalize hc : l.getD i default = c at hlk hgk
      generalize lowC (l.getD 0 default) (l.take i) = s at hlk b3
      have haw := g_allWithinLH (lo := 0) (hi := 3) (xs := [c.a, c.b, c.c]) (t := M'.length) (o := 0) (M := M' ++ [some (.row [.I c.a, .I c.b, .I c.c] true 0)]) (Live.new (b := .row (intL [c.a, c.b, c.c]) true 0)).has (by simp)
      have hin : (∀ v ∈ [c.a, c.b, c.c], (0 : Int) ≤ v ∧ v ≤ 3) ↔ c.inBox 4 4 4 := by
        simp only [List.mem_cons, List.not_mem_nil, or_false, forall_eq_or_imp, forall_eq]
        unfold Cell.inBox
        constructor
        · rintro ⟨⟨_, _⟩, ⟨_, _⟩, ⟨_, _⟩⟩; omega
        · rintro ⟨⟨_, _⟩, ⟨_, _⟩, ⟨_, _⟩⟩; omega
      rw [decide_eq_decide.2 hin] at haw
      simp (disch := omega) only [f0, f3, f13, f14, f15, hgk, Cell.row, splice, Option.isSome_some, and_self, if_true, ↓SXd, SXu, slBounds, ↓sop, ↓aop, ↓reduceIte, LV.cells, AOp.dst, LV.I, LV.B, LV.U, LV.S, LV.nil, Nat.reduceEqDiff, Nat.reduceAdd, Nat.reduceMul, Nat.reduceSub, Nat.reduceLeDiff, Nat.reduceBEq, Nat.reduceDiv, Nat.reduceMod, Int.reduceToNat, Int.reduceLT, Int.reduceLE, Int.reduceAdd, Int.reduceSub, Int.reduceMul, Int.reduceEq, Int.reduceNeg, reduceCtorEq, resV, resAll, ARes.ev, LV.flat, ite_true, ite_false, exists_eq_left', exists_eq_left, keyOf, implies_true, fillC, capOf]
      refine callK_of haw ?_
      by_cases hb4 : c.inBox 4 4 4
      · rw [decide_eq_true hb4]
        by_cases hi0 : i = 0
        · subst hi0
          have hi0' : ¬ ((0 : Int) > 0) := by omega
          simp (disch := omega) only [f0, f3, f13, f14, f15, Int.natCast_zero, hi0', b3.app.cell, maxV, if_true, ite_true, splice, ↓SXd, SXu, slBounds, ↓sop, ↓aop, ↓reduceIte, LV.cells, AOp.dst, LV.I, LV.B, LV.U, LV.S, LV.nil, Nat.reduceEqDiff, Nat.reduceAdd, Nat.reduceMul, Nat.reduceSub, Nat.reduceLeDiff, Nat.reduceBEq, Nat.reduceDiv, Nat.reduceMod, Int.reduceToNat, Int.reduceLT, Int.reduceLE, Int.reduceAdd, Int.reduceSub, Int.reduceMul, Int.reduceEq, Int.reduceNeg, reduceCtorEq, resV, resAll, ARes.ev, LV.flat, ite_true, ite_false, exists_eq_left', exists_eq_left, keyOf, implies_true, fillC, capOf]
          refine memK_box b3.app rfl fun N q1 q2 q3 => ?_
          simp (disch := omega) only [f0, f3, f13, f14, f15, ↓SXd, SXu, slBounds, ↓sop, ↓aop, ↓reduceIte, LV.cells, AOp.dst, LV.I, LV.B, LV.U, LV.S, LV.nil, Nat.reduceEqDiff, Nat.reduceAdd, Nat.reduceMul, Nat.reduceSub, Nat.reduceLeDiff, Nat.reduceBEq, Nat.reduceDiv, Nat.reduceMod, Int.reduceToNat, Int.reduceLT, Int.reduceLE, Int.reduceAdd, Int.reduceSub, Int.reduceMul, Int.reduceEq, Int.reduceNeg, reduceCtorEq, resV, resAll, ARes.ev, LV.flat, ite_true, ite_false, exists_eq_left', exists_eq_left, keyOf, implies_true, fillC, capOf]
          exact ⟨m - 1, by omega, 1, by omega, pre_step hpre.app' (by omega) (j := 0) q1 q3, by rw [hlk]; exact q2, fun j hj1 => by
            have : j = 0 := by omega
            subst this
            rw [hc]; exact ⟨hb4, by omega⟩, f0, f3, f13, f14, rfl⟩
        · have hi1 : (i : Int) > 0 := by omega
          have e1 : ((i : Int) - 1).toNat = i - 1 := by omega
          have hgp := Tri.get ((h.pre hpre).app (L := [some (.row [.I c.a, .I c.b, .I c.c] true 0)])) (show i - 1 < l.length by omega)
          simp (disch := omega) only [f0, f3, f13, f14, f15, hi1, e1, hgp, Cell.row, ↓SXd, SXu, slBounds, ↓sop, ↓aop, ↓reduceIte, LV.cells, AOp.dst, LV.I, LV.B, LV.U, LV.S, LV.nil, Nat.reduceEqDiff, Nat.reduceAdd, Nat.reduceMul, Nat.reduceSub, Nat.reduceLeDiff, Nat.reduceBEq, Nat.reduceDiv, Nat.reduceMod, Int.reduceToNat, Int.reduceLT, Int.reduceLE, Int.reduceAdd, Int.reduceSub, Int.reduceMul, Int.reduceEq, Int.reduceNeg, reduceCtorEq, resV, resAll, ARes.ev, LV.flat, ite_true, ite_false, exists_eq_left', exists_eq_left, keyOf, implies_true, fillC, capOf]
          refine callK_of (g_compareCells) ?_
          simp (disch := omega) only [f0, f3, f13, f14, f15, cell_eta, ↓SXd, SXu, slBounds, ↓sop, ↓aop, ↓reduceIte, LV.cells, AOp.dst, LV.I, LV.B, LV.U, LV.S, LV.nil, Nat.reduceEqDiff, Nat.reduceAdd, Nat.reduceMul, Nat.reduceSub, Nat.reduceLeDiff, Nat.reduceBEq, Nat.reduceDiv, Nat.reduceMod, Int.reduceToNat, Int.reduceLT, Int.reduceLE, Int.reduceAdd, Int.reduceSub, Int.reduceMul, Int.reduceEq, Int.reduceNeg, reduceCtorEq, resV, resAll, ARes.ev, LV.flat, ite_true, ite_false, exists_eq_left', exists_eq_left, keyOf, implies_true, fillC, capOf]
          by_cases hb : (l.getD (i - 1) default).lt c
          · have hb' : ¬ 0 ≤ cmpL [(l.getD (i - 1) default).a, (l.getD (i - 1) default).b, (l.getD (i - 1) default).c] [c.a, c.b, c.c] := fun e => (cmpL_lt.1 e) hb
            simp (disch := omega) only [f0, f3, f13, f14, f15, hb', b3.app.cell, maxV, if_true, ite_true, splice, ge_iff_le, ↓SXd, SXu, slBounds, ↓sop, ↓aop, ↓reduceIte, LV.cells, AOp.dst, LV.I, LV.B, LV.U, LV.S, LV.nil, Nat.reduceEqDiff, Nat.reduceAdd, Nat.reduceMul, Nat.reduceSub, Nat.reduceLeDiff, Nat.reduceBEq, Nat.reduceDiv, Nat.reduceMod, Int.reduceToNat, Int.reduceLT, Int.reduceLE, Int.reduceAdd, Int.reduceSub, Int.reduceMul, Int.reduceEq, Int.reduceNeg, reduceCtorEq, resV, resAll, ARes.ev, LV.flat, ite_true, ite_false, exists_eq_left', exists_eq_left, keyOf, implies_true, fillC, capOf]
            refine memK_box b3.app rfl fun N q1 q2 q3 => ?_
            simp (disch := omega) only [f0, f3, f13, f14, f15, ↓SXd, SXu, slBounds, ↓sop, ↓aop, ↓reduceIte, LV.cells, AOp.dst, LV.I, LV.B, LV.U, LV.S, LV.nil, Nat.reduceEqDiff, Nat.reduceAdd, Nat.reduceMul, Nat.reduceSub, Nat.reduceLeDiff, Nat.reduceBEq, Nat.reduceDiv, Nat.reduceMod, Int.reduceToNat, Int.reduceLT, Int.reduceLE, Int.reduceAdd, Int.reduceSub, Int.reduceMul, Int.reduceEq, Int.reduceNeg, reduceCtorEq, resV, resAll, ARes.ev, LV.flat, ite_true, ite_false, exists_eq_left', exists_eq_left, keyOf, implies_true, fillC, capOf]
            exact ⟨m - 1, by omega, i + 1, by omega, pre_step hpre.app' (by omega) (j := 0) q1 q3, by rw [hlk]; exact q2, fun j hj1 => by
              rcases Nat.lt_or_ge j i with h2 | h2
              · exact hj j h2
              · rw [show j = i by omega, hc]; exact ⟨hb4, fun _ => hb⟩, f0, f3, f13, f14, eqI (natI _)⟩
          · have hb' : 0 ≤ cmpL [(l.getD (i - 1) default).a, (l.getD (i - 1) default).b, (l.getD (i - 1) default).c] [c.a, c.b, c.c] := cmpL_lt.2 hb
            simp (disch := omega) only [f0, f3, f13, f14, f15, hb', ge_iff_le, ↓SXd, SXu, slBounds, ↓sop, ↓aop, ↓reduceIte, LV.cells, AOp.dst, LV.I, LV.B, LV.U, LV.S, LV.nil, Nat.reduceEqDiff, Nat.reduceAdd, Nat.reduceMul, Nat.reduceSub, Nat.reduceLeDiff, Nat.reduceBEq, Nat.reduceDiv, Nat.reduceMod, Int.reduceToNat, Int.reduceLT, Int.reduceLE, Int.reduceAdd, Int.reduceSub, Int.reduceMul, Int.reduceEq, Int.reduceNeg, reduceCtorEq, resV, resAll, ARes.ev, LV.flat, ite_true, ite_false, exists_eq_left', exists_eq_left, keyOf, implies_true, fillC, capOf]
            rw [decide_eq_false (fun hp => hb (by have := (hp.2.1.2 i hil).2 (by omega); rwa [hc] at this))]
            exact cmp_pre hpre.app' rfl
      · rw [decide_eq_false hb4]
        simp (disch := omega) only [f0, f3, f13, f14, f15, ↓SXd, SXu, slBounds, ↓sop, ↓aop, ↓reduceIte, LV.cells, AOp.dst, LV.I, LV.B, LV.U, LV.S, LV.nil, Nat.reduceEqDiff, Nat.reduceAdd, Nat.reduceMul, Nat.reduceSub, Nat.reduceLeDiff, Nat.reduceBEq, Nat.reduceDiv, Nat.reduceMod, Int.reduceToNat, Int.reduceLT, Int.reduceLE, Int.reduceAdd, Int.reduceSub, Int.reduceMul, Int.reduceEq, Int.reduceNeg, reduceCtorEq, resV, resAll, ARes.ev, LV.flat, ite_true, ite_false, exists_eq_left', exists_eq_left, keyOf, implies_true, fillC, capOf]
        rw [decide_eq_false (fun hp => hb4 (by have := (hp.2.1.2 i hil).1; rwa [hc] at this))]
        exact cmp_pre hpre.app' rfl
    · have : i = l.length := by omega
      subst this
      rw [List.take_length] at b3
      have hH : HeapOK 4 4 4 l := ⟨sides4, fun k hk => hj k hk⟩
      have hlow : lowC (l.getD 0 default) l = lowC ⟨4, 4, 4⟩ l := by
        cases l with
        | nil => simp at hl1
        | cons c l => exact low_first (hj 0 (by simp)).1
      rw [hlow] at b3
      simp (disch := omega) only [f0, f3, f13, f14, f15, b3.cells, eqV, eqC, if_true, ite_true, Bool.and_true, ↓SXd, SXu, slBounds, ↓sop, ↓aop, ↓reduceIte, LV.cells, AOp.dst, LV.I, LV.B, LV.U, LV.S, LV.nil, Nat.reduceEqDiff, Nat.reduceAdd, Nat.reduceMul, Nat.reduceSub, Nat.reduceLeDiff, Nat.reduceBEq, Nat.reduceDiv, Nat.reduceMod, Int.reduceToNat, Int.reduceLT, Int.reduceLE, Int.reduceAdd, Int.reduceSub, Int.reduceMul, Int.reduceEq, Int.reduceNeg, reduceCtorEq, resV, resAll, ARes.ev, LV.flat, ite_true, ite_false, exists_eq_left', exists_eq_left, keyOf, implies_true, fillC, capOf]
      rw [show decide (PieceOK l) = ((lowC ⟨4, 4, 4⟩ l).a == 0 && ((lowC ⟨4, 4, 4⟩ l).b == 0 && (lowC ⟨4, 4, 4⟩ l).c == 0)) by
        rw [Bool.eq_iff_iff, decide_eq_true_iff]
        unfold PieceOK
        rw [cell_eq]
        simp only [Bool.and_eq_true, beq_iff_eq]
        exact ⟨fun h => h.2.2, fun h => ⟨⟨by omega, by omega⟩, hH, h⟩⟩]
      exact cmp_pre hpre rfl
  · rw [decide_eq_false hl]
    simp (disch := omega) only [↓SXd, SXu, slBounds, ↓sop, ↓aop, ↓reduceIte, LV.cells, AOp.dst, LV.I, LV.B, LV.U, LV.S, LV.nil, Nat.reduceEqDiff, Nat.reduceAdd, Nat.reduceMul, Nat.reduceSub, Nat.reduceLeDiff, Nat.reduceBEq, Nat.reduceDiv, Nat.reduceMod, Int.reduceToNat, Int.reduceLT, Int.reduceLE, Int.reduceAdd, Int.reduceSub, Int.reduceMul, Int.reduceEq, Int.reduceNeg, reduceCtorEq, resV, resAll, ARes.ev, LV.flat, ite_true, ite_false, exists_eq_left', exists_eq_left, keyOf, implies_true, fillC, capOf]
    rw [decide_eq_false (fun hp => hl ⟨by have := hp.1.1; omega, by have := hp.1.2; omega⟩)]
    exact cmp_pre (Pre.refl _) rfl

/-- A valid heap and a valid list of pieces. -/
def PcsOK (L : List (List Cell)) : Prop := ∀ l ∈ L, PieceOK l
def AskOK (x y z : Int) (cs : List Cell) (L : List (List Cell)) : Prop := PcsOK L ∧ HeapOK x y z cs ∧ L.length ≤ 8
noncomputable instance (L : List (List Cell)) : Decidable (PcsOK L) := Classical.propDecidable _
noncomputable instance (x y z : Int) (cs : List Cell) (L : List (List Cell)) : Decidable (AskOK x y z cs L) := Classical.propDecidable _
theorem pcs_of {L : List (List Cell)} (h : ∀ j, j < L.length → PieceOK (L.getD j [])) : PcsOK L := fun l hl => by
  obtain ⟨i, hi, rfl⟩ := List.getElem_of_mem hl
  have := h i hi
  simpa [hi] using this
section
variable {x y z : Int} {t o u : Nat} {cs : List Cell} {L : List (List Cell)} {M : Mem} (hP : Pcs M u L) (hL : L.length ≤ 1000000000) (hLs : ∀ l ∈ L, l.length ≤ 1000000000)
include hP hL hLs
theorem g_indexPcs : CallsR PG F.slices_IndexFunc_SSA3int_SA3int [.ref u 0 L.length, .clo F.impl_isPacked_1 []] M fun v N => N = M ∧ ∃ k : Int, v = .I k ∧ (0 ≤ k ↔ ¬ PcsOK L) := by
  refine callsR_run K.slices_IndexFunc_SSA3int_SA3int rfl ?_
  simp (disch := omega) only [C.slices_IndexFunc_SSA3int_SA3int, ↓SXd, SXu, slBounds, ↓sop, ↓aop, ↓reduceIte, LV.cells, AOp.dst, LV.I, LV.B, LV.U, LV.S, LV.nil, Nat.reduceEqDiff, Nat.reduceAdd, Nat.reduceMul, Nat.reduceSub, Nat.reduceLeDiff, Nat.reduceBEq, Nat.reduceDiv, Nat.reduceMod, Int.reduceToNat, Int.reduceLT, Int.reduceLE, Int.reduceAdd, Int.reduceSub, Int.reduceMul, Int.reduceEq, Int.reduceNeg, reduceCtorEq, resV, resAll, ARes.ev, LV.flat, ite_true, ite_false, exists_eq_left', exists_eq_left, keyOf, implies_true, fillC, capOf]
  refine ev_loop (fun m fr M' => ∃ i : Nat, i + m = L.length ∧ M' = M ∧ (∀ j, j < i → PieceOK (L.getD j [])) ∧ fr 0 = .ref u 0 L.length ∧ fr 1 = .clo F.impl_isPacked_1 [] ∧ fr 7 = .I L.length ∧ fr 8 = .I i) L.length
    ⟨0, by omega, rfl, by omega, rfl, rfl, rfl, rfl⟩ ?_
  rintro m fr M' ⟨i, hi, rfl, hj, f0, f1, f7, f8⟩
  simp (disch := omega) only [f0, f1, f7, f8, ↓SXd, SXu, slBounds, ↓sop, ↓aop, ↓reduceIte, LV.cells, AOp.dst, LV.I, LV.B, LV.U, LV.S, LV.nil, Nat.reduceEqDiff, Nat.reduceAdd, Nat.reduceMul, Nat.reduceSub, Nat.reduceLeDiff, Nat.reduceBEq, Nat.reduceDiv, Nat.reduceMod, Int.reduceToNat, Int.reduceLT, Int.reduceLE, Int.reduceAdd, Int.reduceSub, Int.reduceMul, Int.reduceEq, Int.reduceNeg, reduceCtorEq, resV, resAll, ARes.ev, LV.flat, ite_true, ite_false, exists_eq_left', exists_eq_left, keyOf, implies_true, fillC, capOf]
  refine condC_dec (fun hlt => ?_) (fun hlt => ?_)
  · have hil : i < L.length := by omega
    obtain ⟨v, o', hg, hT⟩ := hP.get hil
    have hm := hLs _ (getD_mem' (d := []) hil)
    have hcl : CallsTo PG F.impl_isPacked_1 [.ref v o' (L.getD i []).length] M' (.B (!decide (PieceOK (L.getD i [])))) M' := by
      refine calls_run K.impl_isPacked_1 rfl ?_
      simp (disch := omega) only [C.impl_isPacked_1, ↓SXd, SXu, slBounds, ↓sop, ↓aop, ↓reduceIte, LV.cells, AOp.dst, LV.I, LV.B, LV.U, LV.S, LV.nil, Nat.reduceEqDiff, Nat.reduceAdd, Nat.reduceMul, Nat.reduceSub, Nat.reduceLeDiff, Nat.reduceBEq, Nat.reduceDiv, Nat.reduceMod, Int.reduceToNat, Int.reduceLT, Int.reduceLE, Int.reduceAdd, Int.reduceSub, Int.reduceMul, Int.reduceEq, Int.reduceNeg, reduceCtorEq, resV, resAll, ARes.ev, LV.flat, ite_true, ite_false, exists_eq_left', exists_eq_left, keyOf, implies_true, fillC, capOf]
      refine callK_of (g_IsPiece hT hm) ?_
      simp (disch := omega) only [↓SXd, SXu, slBounds, ↓sop, ↓aop, ↓reduceIte, LV.cells, AOp.dst, LV.I, LV.B, LV.U, LV.S, LV.nil, Nat.reduceEqDiff, Nat.reduceAdd, Nat.reduceMul, Nat.reduceSub, Nat.reduceLeDiff, Nat.reduceBEq, Nat.reduceDiv, Nat.reduceMod, Int.reduceToNat, Int.reduceLT, Int.reduceLE, Int.reduceAdd, Int.reduceSub, Int.reduceMul, Int.reduceEq, Int.reduceNeg, reduceCtorEq, resV, resAll, ARes.ev, LV.flat, ite_true, ite_false, exists_eq_left', exists_eq_left, keyOf, implies_true, fillC, capOf]
      exact cmp_drop0 rfl
    simp (disch := omega) only [f0, f1, f7, f8, hg, Nat.mul_one, List.map_nil, List.append_nil, ↓SXd, SXu, slBounds, ↓sop, ↓aop, ↓reduceIte, LV.cells, AOp.dst, LV.I, LV.B, LV.U, LV.S, LV.nil, Nat.reduceEqDiff, Nat.reduceAdd, Nat.reduceMul, Nat.reduceSub, Nat.reduceLeDiff, Nat.reduceBEq, Nat.reduceDiv, Nat.reduceMod, Int.reduceToNat, Int.reduceLT, Int.reduceLE, Int.reduceAdd, Int.reduceSub, Int.reduceMul, Int.reduceEq, Int.reduceNeg, reduceCtorEq, resV, resAll, ARes.ev, LV.flat, ite_true, ite_false, exists_eq_left', exists_eq_left, keyOf, implies_true, fillC, capOf]
    refine callK_of hcl ?_
    by_cases hp : PieceOK (L.getD i [])
    · rw [decide_eq_true hp]
      simp (disch := omega) only [f0, f1, f7, f8, ↓SXd, SXu, slBounds, ↓sop, ↓aop, ↓reduceIte, LV.cells, AOp.dst, LV.I, LV.B, LV.U, LV.S, LV.nil, Nat.reduceEqDiff, Nat.reduceAdd, Nat.reduceMul, Nat.reduceSub, Nat.reduceLeDiff, Nat.reduceBEq, Nat.reduceDiv, Nat.reduceMod, Int.reduceToNat, Int.reduceLT, Int.reduceLE, Int.reduceAdd, Int.reduceSub, Int.reduceMul, Int.reduceEq, Int.reduceNeg, reduceCtorEq, resV, resAll, ARes.ev, LV.flat, ite_true, ite_false, exists_eq_left', exists_eq_left, keyOf, implies_true, fillC, capOf]
      exact ⟨m - 1, by omega, i + 1, by omega, rfl, fun j hj1 => by
        rcases Nat.lt_or_ge j i with h2 | h2
        · exact hj j h2
        · rw [show j = i by omega]; exact hp, f0, f1, f7, eqI (natI _)⟩
    · rw [decide_eq_false hp]
      simp (disch := omega) only [f0, f1, f7, f8, ↓SXd, SXu, slBounds, ↓sop, ↓aop, ↓reduceIte, LV.cells, AOp.dst, LV.I, LV.B, LV.U, LV.S, LV.nil, Nat.reduceEqDiff, Nat.reduceAdd, Nat.reduceMul, Nat.reduceSub, Nat.reduceLeDiff, Nat.reduceBEq, Nat.reduceDiv, Nat.reduceMod, Int.reduceToNat, Int.reduceLT, Int.reduceLE, Int.reduceAdd, Int.reduceSub, Int.reduceMul, Int.reduceEq, Int.reduceNeg, reduceCtorEq, resV, resAll, ARes.ev, LV.flat, ite_true, ite_false, exists_eq_left', exists_eq_left, keyOf, implies_true, fillC, capOf]
      exact ⟨rfl, i, rfl, ⟨fun _ h => hp (h _ (getD_mem' hil)), fun _ => by omega⟩⟩
  · simp (disch := omega) only [f0, f1, f7, f8, ↓SXd, SXu, slBounds, ↓sop, ↓aop, ↓reduceIte, LV.cells, AOp.dst, LV.I, LV.B, LV.U, LV.S, LV.nil, Nat.reduceEqDiff, Nat.reduceAdd, Nat.reduceMul, Nat.reduceSub, Nat.reduceLeDiff, Nat.reduceBEq, Nat.reduceDiv, Nat.reduceMod, Int.reduceToNat, Int.reduceLT, Int.reduceLE, Int.reduceAdd, Int.reduceSub, Int.reduceMul, Int.reduceEq, Int.reduceNeg, reduceCtorEq, resV, resAll, ARes.ev, LV.flat, ite_true, ite_false, exists_eq_left', exists_eq_left, keyOf, implies_true, fillC, capOf]
    have : i = L.length := by omega
    subst this
    exact ⟨rfl, -1, rfl, ⟨fun h => by omega, fun h => absurd (pcs_of hj) h⟩⟩
theorem g_arePacked (h : Tri M t o cs) (hn : cs.length ≤ 1000000000) : CallsTo PG F.impl_arePacked [.agg [.I x, .I y, .I z, .ref t o cs.length], .ref u 0 L.length] M (.B (decide (AskOK x y z cs L))) M := by
  have hcon : ∀ M', Pre M M' → CallsTo PG F.impl_isPacked [.agg [.I x, .I y, .I z, .ref t o cs.length], .ref u 0 L.length] M' (.B (decide (HeapOK x y z cs ∧ PcsOK L))) M' := fun M' hp => by
    refine calls_run K.impl_isPacked rfl ?_
    simp (disch := omega) only [C.impl_isPacked, ↓SXd, SXu, slBounds, ↓sop, ↓aop, ↓reduceIte, LV.cells, AOp.dst, LV.I, LV.B, LV.U, LV.S, LV.nil, Nat.reduceEqDiff, Nat.reduceAdd, Nat.reduceMul, Nat.reduceSub, Nat.reduceLeDiff, Nat.reduceBEq, Nat.reduceDiv, Nat.reduceMod, Int.reduceToNat, Int.reduceLT, Int.reduceLE, Int.reduceAdd, Int.reduceSub, Int.reduceMul, Int.reduceEq, Int.reduceNeg, reduceCtorEq, resV, resAll, ARes.ev, LV.flat, ite_true, ite_false, exists_eq_left', exists_eq_left, keyOf, implies_true, fillC, capOf]
    refine callK_of (g_IsHeap (h.pre hp).app hn) ?_
    simp (disch := omega) only [↓SXd, SXu, slBounds, ↓sop, ↓aop, ↓reduceIte, LV.cells, AOp.dst, LV.I, LV.B, LV.U, LV.S, LV.nil, Nat.reduceEqDiff, Nat.reduceAdd, Nat.reduceMul, Nat.reduceSub, Nat.reduceLeDiff, Nat.reduceBEq, Nat.reduceDiv, Nat.reduceMod, Int.reduceToNat, Int.reduceLT, Int.reduceLE, Int.reduceAdd, Int.reduceSub, Int.reduceMul, Int.reduceEq, Int.reduceNeg, reduceCtorEq, resV, resAll, ARes.ev, LV.flat, ite_true, ite_false, exists_eq_left', exists_eq_left, keyOf, implies_true, fillC, capOf]
    by_cases hH : HeapOK x y z cs
    · rw [decide_eq_true hH]
      simp (disch := omega) only [↓SXd, SXu, slBounds, ↓sop, ↓aop, ↓reduceIte, LV.cells, AOp.dst, LV.I, LV.B, LV.U, LV.S, LV.nil, Nat.reduceEqDiff, Nat.reduceAdd, Nat.reduceMul, Nat.reduceSub, Nat.reduceLeDiff, Nat.reduceBEq, Nat.reduceDiv, Nat.reduceMod, Int.reduceToNat, Int.reduceLT, Int.reduceLE, Int.reduceAdd, Int.reduceSub, Int.reduceMul, Int.reduceEq, Int.reduceNeg, reduceCtorEq, resV, resAll, ARes.ev, LV.flat, ite_true, ite_false, exists_eq_left', exists_eq_left, keyOf, implies_true, fillC, capOf]
      have hcf : CallsR PG F.slices_ContainsFunc_SSA3int_SA3int [.ref u 0 L.length, .clo F.impl_isPacked_1 []] (M' ++ [some (.row [.I x, .I y, .I z, .ref t o cs.length] true 0)]) fun v N => N = M' ++ [some (.row [.I x, .I y, .I z, .ref t o cs.length] true 0)] ∧ v = .B (!decide (PcsOK L)) := by
        refine callsR_run K.slices_ContainsFunc_SSA3int_SA3int rfl ?_
        simp (disch := omega) only [C.slices_ContainsFunc_SSA3int_SA3int, ↓SXd, SXu, slBounds, ↓sop, ↓aop, ↓reduceIte, LV.cells, AOp.dst, LV.I, LV.B, LV.U, LV.S, LV.nil, Nat.reduceEqDiff, Nat.reduceAdd, Nat.reduceMul, Nat.reduceSub, Nat.reduceLeDiff, Nat.reduceBEq, Nat.reduceDiv, Nat.reduceMod, Int.reduceToNat, Int.reduceLT, Int.reduceLE, Int.reduceAdd, Int.reduceSub, Int.reduceMul, Int.reduceEq, Int.reduceNeg, reduceCtorEq, resV, resAll, ARes.ev, LV.flat, ite_true, ite_false, exists_eq_left', exists_eq_left, keyOf, implies_true, fillC, capOf]
        refine callR_of (g_indexPcs (hP.pre hp).app hL hLs) ?_
        rintro _ N ⟨rfl, k, rfl, hk⟩
        simp (disch := omega) only [ge_iff_le, ↓SXd, SXu, slBounds, ↓sop, ↓aop, ↓reduceIte, LV.cells, AOp.dst, LV.I, LV.B, LV.U, LV.S, LV.nil, Nat.reduceEqDiff, Nat.reduceAdd, Nat.reduceMul, Nat.reduceSub, Nat.reduceLeDiff, Nat.reduceBEq, Nat.reduceDiv, Nat.reduceMod, Int.reduceToNat, Int.reduceLT, Int.reduceLE, Int.reduceAdd, Int.reduceSub, Int.reduceMul, Int.reduceEq, Int.reduceNeg, reduceCtorEq, resV, resAll, ARes.ev, LV.flat, ite_true, ite_false, exists_eq_left', exists_eq_left, keyOf, implies_true, fillC, capOf]
        refine ⟨rfl, eqB ?_⟩
        by_cases h0 : 0 ≤ k
        · rw [decide_eq_true h0, decide_eq_false (hk.1 h0)]; rfl
        · rw [decide_eq_false h0, decide_eq_true (Classical.byContradiction fun h => h0 (hk.2 h))]; rfl
      refine callR_of hcf ?_
      rintro _ N ⟨rfl, rfl⟩
      simp (disch := omega) only [↓SXd, SXu, slBounds, ↓sop, ↓aop, ↓reduceIte, LV.cells, AOp.dst, LV.I, LV.B, LV.U, LV.S, LV.nil, Nat.reduceEqDiff, Nat.reduceAdd, Nat.reduceMul, Nat.reduceSub, Nat.reduceLeDiff, Nat.reduceBEq, Nat.reduceDiv, Nat.reduceMod, Int.reduceToNat, Int.reduceLT, Int.reduceLE, Int.reduceAdd, Int.reduceSub, Int.reduceMul, Int.reduceEq, Int.reduceNeg, reduceCtorEq, resV, resAll, ARes.ev, LV.flat, ite_true, ite_false, exists_eq_left', exists_eq_left, keyOf, implies_true, fillC, capOf]
      rw [Bool.not_not, show decide (HeapOK x y z cs ∧ PcsOK L) = decide (PcsOK L) from decide_eq_decide.2 ⟨fun h => h.2, fun h => ⟨hH, h⟩⟩]
      exact cmp_drop rfl
    · rw [decide_eq_false hH]
      simp (disch := omega) only [↓SXd, SXu, slBounds, ↓sop, ↓aop, ↓reduceIte, LV.cells, AOp.dst, LV.I, LV.B, LV.U, LV.S, LV.nil, Nat.reduceEqDiff, Nat.reduceAdd, Nat.reduceMul, Nat.reduceSub, Nat.reduceLeDiff, Nat.reduceBEq, Nat.reduceDiv, Nat.reduceMod, Int.reduceToNat, Int.reduceLT, Int.reduceLE, Int.reduceAdd, Int.reduceSub, Int.reduceMul, Int.reduceEq, Int.reduceNeg, reduceCtorEq, resV, resAll, ARes.ev, LV.flat, ite_true, ite_false, exists_eq_left', exists_eq_left, keyOf, implies_true, fillC, capOf]
      rw [decide_eq_false (fun h => hH h.1)]
      exact cmp_drop rfl
  refine calls_run K.impl_arePacked rfl ?_
  simp (disch := omega) only [C.impl_arePacked, ↓SXd, SXu, slBounds, ↓sop, ↓aop, ↓reduceIte, LV.cells, AOp.dst, LV.I, LV.B, LV.U, LV.S, LV.nil, Nat.reduceEqDiff, Nat.reduceAdd, Nat.reduceMul, Nat.reduceSub, Nat.reduceLeDiff, Nat.reduceBEq, Nat.reduceDiv, Nat.reduceMod, Int.reduceToNat, Int.reduceLT, Int.reduceLE, Int.reduceAdd, Int.reduceSub, Int.reduceMul, Int.reduceEq, Int.reduceNeg, reduceCtorEq, resV, resAll, ARes.ev, LV.flat, ite_true, ite_false, exists_eq_left', exists_eq_left, keyOf, implies_true, fillC, capOf]
  refine callK_of (hcon _ (Pre.app _ _)) ?_
  by_cases hb : HeapOK x y z cs ∧ PcsOK L
  · rw [decide_eq_true hb]
    simp (disch := omega) only [↓SXd, SXu, slBounds, ↓sop, ↓aop, ↓reduceIte, LV.cells, AOp.dst, LV.I, LV.B, LV.U, LV.S, LV.nil, Nat.reduceEqDiff, Nat.reduceAdd, Nat.reduceMul, Nat.reduceSub, Nat.reduceLeDiff, Nat.reduceBEq, Nat.reduceDiv, Nat.reduceMod, Int.reduceToNat, Int.reduceLT, Int.reduceLE, Int.reduceAdd, Int.reduceSub, Int.reduceMul, Int.reduceEq, Int.reduceNeg, reduceCtorEq, resV, resAll, ARes.ev, LV.flat, ite_true, ite_false, exists_eq_left', exists_eq_left, keyOf, implies_true, fillC, capOf]
    rw [show decide ((L.length : Int) ≤ 8) = decide (AskOK x y z cs L) from decide_eq_decide.2 ⟨fun h => ⟨hb.2, hb.1, by omega⟩, fun h => by have := h.2.2; omega⟩]
    exact cmp_drop rfl
  · rw [decide_eq_false hb]
    simp (disch := omega) only [↓SXd, SXu, slBounds, ↓sop, ↓aop, ↓reduceIte, LV.cells, AOp.dst, LV.I, LV.B, LV.U, LV.S, LV.nil, Nat.reduceEqDiff, Nat.reduceAdd, Nat.reduceMul, Nat.reduceSub, Nat.reduceLeDiff, Nat.reduceBEq, Nat.reduceDiv, Nat.reduceMod, Int.reduceToNat, Int.reduceLT, Int.reduceLE, Int.reduceAdd, Int.reduceSub, Int.reduceMul, Int.reduceEq, Int.reduceNeg, reduceCtorEq, resV, resAll, ARes.ev, LV.flat, ite_true, ite_false, exists_eq_left', exists_eq_left, keyOf, implies_true, fillC, capOf]
    rw [decide_eq_false (fun h => hb ⟨h.2.1, h.1⟩)]
    exact cmp_drop rfl
theorem h_l9Ask (h : Tri M t o cs) (hn : cs.length ≤ 1000000000) : CallsTo PG F.spec_l9Ask [.agg [.I x, .I y, .I z, .ref t o cs.length], .ref u 0 L.length] M (.B (decide (AskOK x y z cs L))) M := by
  have ht := h.lt
  refine calls_run K.spec_l9Ask rfl ?_
  simp (disch := omega) only [C.spec_l9Ask, ↓SXd, SXu, slBounds, ↓sop, ↓aop, ↓reduceIte, LV.cells, AOp.dst, LV.I, LV.B, LV.U, LV.S, LV.nil, Nat.reduceEqDiff, Nat.reduceAdd, Nat.reduceMul, Nat.reduceSub, Nat.reduceLeDiff, Nat.reduceBEq, Nat.reduceDiv, Nat.reduceMod, Int.reduceToNat, Int.reduceLT, Int.reduceLE, Int.reduceAdd, Int.reduceSub, Int.reduceMul, Int.reduceEq, Int.reduceNeg, reduceCtorEq, resV, resAll, ARes.ev, LV.flat, ite_true, ite_false, exists_eq_left', exists_eq_left, keyOf, implies_true, fillC, capOf]
  refine ev_loop (fun m fr M' => ∃ i : Nat, i + m = L.length ∧ M' = M ++ [some (.row [.I x, .I y, .I z, .ref t o cs.length] true 0)] ∧ (∀ j, j < i → PieceOK (L.getD j [])) ∧ fr 1 = .ref u 0 L.length ∧ fr 2 = .ptr M.length 0 ∧ fr 5 = .I i) L.length
    ⟨0, by omega, rfl, by omega, rfl, rfl, rfl⟩ ?_
  rintro m fr M' ⟨i, hi, rfl, hj, f1, f2, f5⟩
  simp (disch := omega) only [f1, f2, f5, ↓SXd, SXu, slBounds, ↓sop, ↓aop, ↓reduceIte, LV.cells, AOp.dst, LV.I, LV.B, LV.U, LV.S, LV.nil, Nat.reduceEqDiff, Nat.reduceAdd, Nat.reduceMul, Nat.reduceSub, Nat.reduceLeDiff, Nat.reduceBEq, Nat.reduceDiv, Nat.reduceMod, Int.reduceToNat, Int.reduceLT, Int.reduceLE, Int.reduceAdd, Int.reduceSub, Int.reduceMul, Int.reduceEq, Int.reduceNeg, reduceCtorEq, resV, resAll, ARes.ev, LV.flat, ite_true, ite_false, exists_eq_left', exists_eq_left, keyOf, implies_true, fillC, capOf]
  refine condC_dec (fun hlt => ?_) (fun hlt => ?_)
  · have hil : i < L.length := by omega
    obtain ⟨v, o', hg, hT⟩ := (hP.app (K := [some (.row [.I x, .I y, .I z, .ref t o cs.length] true 0)])).get hil
    have hm := hLs _ (getD_mem' (d := []) hil)
    simp (disch := omega) only [f1, f2, f5, hg, Nat.mul_one, Nat.zero_add, ↓SXd, SXu, slBounds, ↓sop, ↓aop, ↓reduceIte, LV.cells, AOp.dst, LV.I, LV.B, LV.U, LV.S, LV.nil, Nat.reduceEqDiff, Nat.reduceAdd, Nat.reduceMul, Nat.reduceSub, Nat.reduceLeDiff, Nat.reduceBEq, Nat.reduceDiv, Nat.reduceMod, Int.reduceToNat, Int.reduceLT, Int.reduceLE, Int.reduceAdd, Int.reduceSub, Int.reduceMul, Int.reduceEq, Int.reduceNeg, reduceCtorEq, resV, resAll, ARes.ev, LV.flat, ite_true, ite_false, exists_eq_left', exists_eq_left, keyOf, implies_true, fillC, capOf]
    refine callK_of (h_l9Piece hT hm) ?_
    simp (disch := omega) only [f1, f2, f5, ↓SXd, SXu, slBounds, ↓sop, ↓aop, ↓reduceIte, LV.cells, AOp.dst, LV.I, LV.B, LV.U, LV.S, LV.nil, Nat.reduceEqDiff, Nat.reduceAdd, Nat.reduceMul, Nat.reduceSub, Nat.reduceLeDiff, Nat.reduceBEq, Nat.reduceDiv, Nat.reduceMod, Int.reduceToNat, Int.reduceLT, Int.reduceLE, Int.reduceAdd, Int.reduceSub, Int.reduceMul, Int.reduceEq, Int.reduceNeg, reduceCtorEq, resV, resAll, ARes.ev, LV.flat, ite_true, ite_false, exists_eq_left', exists_eq_left, keyOf, implies_true, fillC, capOf]
    by_cases hp : PieceOK (L.getD i [])
    · rw [decide_eq_true hp]
      simp (disch := omega) only [f1, f2, f5, ↓SXd, SXu, slBounds, ↓sop, ↓aop, ↓reduceIte, LV.cells, AOp.dst, LV.I, LV.B, LV.U, LV.S, LV.nil, Nat.reduceEqDiff, Nat.reduceAdd, Nat.reduceMul, Nat.reduceSub, Nat.reduceLeDiff, Nat.reduceBEq, Nat.reduceDiv, Nat.reduceMod, Int.reduceToNat, Int.reduceLT, Int.reduceLE, Int.reduceAdd, Int.reduceSub, Int.reduceMul, Int.reduceEq, Int.reduceNeg, reduceCtorEq, resV, resAll, ARes.ev, LV.flat, ite_true, ite_false, exists_eq_left', exists_eq_left, keyOf, implies_true, fillC, capOf]
      exact ⟨m - 1, by omega, i + 1, by omega, rfl, fun j hj1 => by
        rcases Nat.lt_or_ge j i with h2 | h2
        · exact hj j h2
        · rw [show j = i by omega]; exact hp, f1, f2, eqI (natI _)⟩
    · rw [decide_eq_false hp]
      simp (disch := omega) only [f1, f2, f5, ↓SXd, SXu, slBounds, ↓sop, ↓aop, ↓reduceIte, LV.cells, AOp.dst, LV.I, LV.B, LV.U, LV.S, LV.nil, Nat.reduceEqDiff, Nat.reduceAdd, Nat.reduceMul, Nat.reduceSub, Nat.reduceLeDiff, Nat.reduceBEq, Nat.reduceDiv, Nat.reduceMod, Int.reduceToNat, Int.reduceLT, Int.reduceLE, Int.reduceAdd, Int.reduceSub, Int.reduceMul, Int.reduceEq, Int.reduceNeg, reduceCtorEq, resV, resAll, ARes.ev, LV.flat, ite_true, ite_false, exists_eq_left', exists_eq_left, keyOf, implies_true, fillC, capOf]
      rw [decide_eq_false (fun h => hp (h.1 _ (getD_mem' hil)))]
      exact cmp_drop rfl
  · simp (disch := omega) only [f1, f2, f5, ↓SXd, SXu, slBounds, ↓sop, ↓aop, ↓reduceIte, LV.cells, AOp.dst, LV.I, LV.B, LV.U, LV.S, LV.nil, Nat.reduceEqDiff, Nat.reduceAdd, Nat.reduceMul, Nat.reduceSub, Nat.reduceLeDiff, Nat.reduceBEq, Nat.reduceDiv, Nat.reduceMod, Int.reduceToNat, Int.reduceLT, Int.reduceLE, Int.reduceAdd, Int.reduceSub, Int.reduceMul, Int.reduceEq, Int.reduceNeg, reduceCtorEq, resV, resAll, ARes.ev, LV.flat, ite_true, ite_false, exists_eq_left', exists_eq_left, keyOf, implies_true, fillC, capOf]
    have : i = L.length := by omega
    subst this
    have hPO := pcs_of hj
    refine callK_of (h_l2Heap h.app hn) ?_
    simp (disch := omega) only [f1, f2, f5, ↓SXd, SXu, slBounds, ↓sop, ↓aop, ↓reduceIte, LV.cells, AOp.dst, LV.I, LV.B, LV.U, LV.S, LV.nil, Nat.reduceEqDiff, Nat.reduceAdd, Nat.reduceMul, Nat.reduceSub, Nat.reduceLeDiff, Nat.reduceBEq, Nat.reduceDiv, Nat.reduceMod, Int.reduceToNat, Int.reduceLT, Int.reduceLE, Int.reduceAdd, Int.reduceSub, Int.reduceMul, Int.reduceEq, Int.reduceNeg, reduceCtorEq, resV, resAll, ARes.ev, LV.flat, ite_true, ite_false, exists_eq_left', exists_eq_left, keyOf, implies_true, fillC, capOf]
    by_cases hH : HeapOK x y z cs
    · rw [decide_eq_true hH]
      simp (disch := omega) only [f1, f2, f5, ↓SXd, SXu, slBounds, ↓sop, ↓aop, ↓reduceIte, LV.cells, AOp.dst, LV.I, LV.B, LV.U, LV.S, LV.nil, Nat.reduceEqDiff, Nat.reduceAdd, Nat.reduceMul, Nat.reduceSub, Nat.reduceLeDiff, Nat.reduceBEq, Nat.reduceDiv, Nat.reduceMod, Int.reduceToNat, Int.reduceLT, Int.reduceLE, Int.reduceAdd, Int.reduceSub, Int.reduceMul, Int.reduceEq, Int.reduceNeg, reduceCtorEq, resV, resAll, ARes.ev, LV.flat, ite_true, ite_false, exists_eq_left', exists_eq_left, keyOf, implies_true, fillC, capOf]
      rw [show decide ((L.length : Int) ≤ 8) = decide (AskOK x y z cs L) from decide_eq_decide.2 ⟨fun h => ⟨hPO, hH, by omega⟩, fun h => by have := h.2.2; omega⟩]
      exact cmp_drop rfl
    · rw [decide_eq_false hH]
      simp (disch := omega) only [f1, f2, f5, ↓SXd, SXu, slBounds, ↓sop, ↓aop, ↓reduceIte, LV.cells, AOp.dst, LV.I, LV.B, LV.U, LV.S, LV.nil, Nat.reduceEqDiff, Nat.reduceAdd, Nat.reduceMul, Nat.reduceSub, Nat.reduceLeDiff, Nat.reduceBEq, Nat.reduceDiv, Nat.reduceMod, Int.reduceToNat, Int.reduceLT, Int.reduceLE, Int.reduceAdd, Int.reduceSub, Int.reduceMul, Int.reduceEq, Int.reduceNeg, reduceCtorEq, resV, resAll, ARes.ev, LV.flat, ite_true, ite_false, exists_eq_left', exists_eq_left, keyOf, implies_true, fillC, capOf]
      rw [decide_eq_false (fun h => hH h.2.1)]
      exact cmp_drop rfl
end
end Go.Ab

/- A number's bits, as the programs read them. -/
namespace Go.Ab
open Go
set_option linter.unusedSimpArgs false
set_option linter.unusedVariables false

end Go.Ab
