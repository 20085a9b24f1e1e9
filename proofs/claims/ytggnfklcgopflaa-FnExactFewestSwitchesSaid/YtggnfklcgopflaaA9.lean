/- Parts of the proof of FnExactFewestSwitchesSaid: Kn Kk Ck Kl Km Kr Ks Kt Kp C_Co K_Co C_Cn K_Cn C_Cm K_Cm C_Cl K_Cl Cl Cm Cn Co Ku C_Ko K_Ko. -/
import Derived.Test.YtggnfklcgopflaaA7
import Derived.Test.YtggnfklcgopflaaA4
import Derived.Test.YtggnfklcgopflaaA8
import Derived.Test.YtggnfklcgopflaaA5
import Derived.Test.YtggnfklcgopflaaA3
import Derived.Test.YtggnfklcgopflaaProg
import Derived.KernelRfl
import Derived.Test.YtggnfklcgopflaaA6
set_option linter.all false
/- Contracts: the number of a table (reference). -/
namespace Go.Ab
open Go
set_option linter.unusedSimpArgs false
set_option linter.unusedVariables false
set_option maxRecDepth 20000

def keyTL (l : List Int) : Int := l.foldl (fun k a => 2 * k + a) 0
theorem keyTL_snoc {l : List Int} {a : Int} : keyTL (l ++ [a]) = 2 * keyTL l + a := by unfold keyTL; rw [List.foldl_append]; rfl
theorem keyTL_bound : ∀ (n : Nat) {l : List Int}, l.length = n → (∀ a ∈ l, a = 0 ∨ a = 1) → 0 ≤ keyTL l ∧ keyTL l < 2 ^ n
  | 0, l, hl, _ => by
    have : l = [] := List.eq_nil_of_length_eq_zero hl
    subst this; simp [keyTL]
  | n + 1, l, hl, h => by
    obtain ⟨l', a, rfl⟩ : ∃ l' a, l = l' ++ [a] := ⟨l.dropLast, l.getLast (by intro e; subst e; simp at hl), (List.dropLast_concat_getLast _).symm⟩
    have h1 := keyTL_bound n (l := l') (by simpa using hl) fun b hb => h b (by simp [hb])
    have h2 := h a (by simp)
    rw [keyTL_snoc, Int.pow_succ]
    omega
theorem keyTL_inj : ∀ (n : Nat) {l m : List Int}, l.length = n → m.length = n → (∀ a ∈ l, a = 0 ∨ a = 1) → (∀ a ∈ m, a = 0 ∨ a = 1) → keyTL l = keyTL m → l = m
  | 0, l, m, hl, hm, _, _, _ => by rw [List.eq_nil_of_length_eq_zero hl, List.eq_nil_of_length_eq_zero hm]
  | n + 1, l, m, hl, hm, h, h', e => by
    obtain ⟨l', a, rfl⟩ : ∃ l' a, l = l' ++ [a] := ⟨l.dropLast, l.getLast (by intro e; subst e; simp at hl), (List.dropLast_concat_getLast _).symm⟩
    obtain ⟨m', b, rfl⟩ : ∃ m' b, m = m' ++ [b] := ⟨m.dropLast, m.getLast (by intro e; subst e; simp at hm), (List.dropLast_concat_getLast _).symm⟩
    rw [keyTL_snoc, keyTL_snoc] at e
    have h2 := h a (by simp)
    have h3 := h' b (by simp)
    have hab : a = b := by omega
    subst hab
    rw [keyTL_inj n (l := l') (m := m') (by simpa using hl) (by simpa using hm) (fun b hb => h b (by simp [hb])) (fun b hb => h' b (by simp [hb])) (by omega)]
theorem bits_flat {n : Nat} {T : List (List Int)} (h : Tab01 n T) : ∀ a ∈ T.flatten, a = 0 ∨ a = 1 := fun a ha => by
  obtain ⟨row, h1, h2⟩ := List.mem_flatten.1 ha
  exact (h row h1).2 a h2
theorem flat_inj {n : Nat} : ∀ {T U : List (List Int)}, T.length = U.length → (∀ r ∈ T, r.length = n) → (∀ r ∈ U, r.length = n) → T.flatten = U.flatten → T = U
  | [], [], _, _, _, _ => rfl
  | [], _ :: _, h, _, _, _ => by simp at h
  | _ :: _, [], h, _, _, _ => by simp at h
  | r :: T, s :: U, h, hT, hU, e => by
    rw [List.flatten_cons, List.flatten_cons] at e
    have := List.append_inj e (by rw [hT r (by simp), hU s (by simp)])
    rw [this.1, flat_inj (by simpa using h) (fun q hq => hT q (List.mem_cons_of_mem _ hq)) (fun q hq => hU q (List.mem_cons_of_mem _ hq)) this.2]
theorem h_l4Key {n u : Nat} {T : List (List Int)} {M : Mem} (hT : TabV M (.ref u 0 T.length) T) (h01 : Tab01 n T) (hn : n ≤ 4) (hl : T.length ≤ 4) : CallsTo PG F.spec_l4Key [.ref u 0 T.length] M (.I (keyTL T.flatten)) M := by
  have hrl : ∀ r ∈ T, r.length = n := fun r hr => (h01 r hr).1
  have hfl := flat_len hrl
  have hmul : T.length * n ≤ 4 * 4 := Nat.mul_le_mul hl hn
  have hbf := bits_flat h01
  have hb : ∀ i, 0 ≤ keyTL (T.flatten.take i) ∧ keyTL (T.flatten.take i) < 65536 := fun i => by
    have h1 := keyTL_bound _ (l := T.flatten.take i) rfl fun a ha => hbf a (List.mem_of_mem_take ha)
    have h2 : (2 : Int) ^ (T.flatten.take i).length ≤ 2 ^ 16 := by
      have : 2 ^ (T.flatten.take i).length ≤ 2 ^ 16 := Nat.pow_le_pow_right (by omega) (by rw [List.length_take]; omega)
      have h3 : (((2 : Nat) ^ (T.flatten.take i).length : Nat) : Int) ≤ ((2 ^ 16 : Nat) : Int) := by omega
      simpa using h3
    omega
  refine calls_run K.spec_l4Key rfl ?_
  simp (disch := omega) only [C.spec_l4Key, ↓SXd, SXu, slBounds, ↓sop, ↓aop, ↓reduceIte, LV.cells, AOp.dst, LV.I, LV.B, LV.U, LV.S, LV.nil, Nat.reduceEqDiff, Nat.reduceAdd, Nat.reduceMul, Nat.reduceSub, Nat.reduceLeDiff, Nat.reduceBEq, Nat.reduceDiv, Nat.reduceMod, Int.reduceToNat, Int.reduceLT, Int.reduceLE, Int.reduceAdd, Int.reduceSub, Int.reduceMul, Int.reduceEq, Int.reduceNeg, reduceCtorEq, resV, resAll, ARes.ev, LV.flat, ite_true, ite_false, exists_eq_left', exists_eq_left, keyOf, implies_true, fillC, capOf]
  refine ev_loop (fun m fr M' => ∃ i : Nat, i + m = T.length ∧ M' = M ∧ fr 0 = .ref u 0 T.length ∧ fr 3 = .I (keyTL (T.flatten.take (i * n))) ∧ fr 4 = .I i) T.length
    ⟨0, by omega, rfl, rfl, by rw [Nat.zero_mul, List.take_zero]; rfl, rfl⟩ ?_
  rintro m fr M' ⟨i, hi, rfl, f0, f3, f4⟩
  simp (disch := omega) only [f0, f3, f4, ↓SXd, SXu, slBounds, ↓sop, ↓aop, ↓reduceIte, LV.cells, AOp.dst, LV.I, LV.B, LV.U, LV.S, LV.nil, Nat.reduceEqDiff, Nat.reduceAdd, Nat.reduceMul, Nat.reduceSub, Nat.reduceLeDiff, Nat.reduceBEq, Nat.reduceDiv, Nat.reduceMod, Int.reduceToNat, Int.reduceLT, Int.reduceLE, Int.reduceAdd, Int.reduceSub, Int.reduceMul, Int.reduceEq, Int.reduceNeg, reduceCtorEq, resV, resAll, ARes.ev, LV.flat, ite_true, ite_false, exists_eq_left', exists_eq_left, keyOf, implies_true, fillC, capOf]
  refine condC_dec (fun hlt => ?_) (fun hlt => ?_)
  rotate_left
  · have : i = T.length := by omega
    subst this
    rw [← hfl, List.take_length] at f3
    simp (disch := omega) only [f0, f3, f4, ↓SXd, SXu, slBounds, ↓sop, ↓aop, ↓reduceIte, LV.cells, AOp.dst, LV.I, LV.B, LV.U, LV.S, LV.nil, Nat.reduceEqDiff, Nat.reduceAdd, Nat.reduceMul, Nat.reduceSub, Nat.reduceLeDiff, Nat.reduceBEq, Nat.reduceDiv, Nat.reduceMod, Int.reduceToNat, Int.reduceLT, Int.reduceLE, Int.reduceAdd, Int.reduceSub, Int.reduceMul, Int.reduceEq, Int.reduceNeg, reduceCtorEq, resV, resAll, ARes.ev, LV.flat, ite_true, ite_false, exists_eq_left', exists_eq_left, keyOf, implies_true, fillC, capOf]
    exact cmp_drop0 rfl
  have hil : i < T.length := by omega
  obtain ⟨w, hgw, hIw⟩ := hT.atR hil
  have hrow := hrl _ (getD_mem' (d := []) hil)
  have hib := (h01 _ (getD_mem' (d := []) hil)).2
  have hfa := fun j => flat_at (n := n) (L := T) (i := i) (j := j) hrl hil
  have hin : (i + 1) * n ≤ T.length * n := Nat.mul_le_mul_right _ (by omega)
  rw [Nat.add_mul, Nat.one_mul] at hin
  generalize T.getD i [] = row at hgw hIw hrow hfa hib
  have hil' : (i : Int) < (T.length : Nat) := by omega
  simp (disch := omega) only [f0, f3, f4, ↓SXd, SXu, slBounds, ↓sop, ↓aop, ↓reduceIte, LV.cells, AOp.dst, LV.I, LV.B, LV.U, LV.S, LV.nil, Nat.reduceEqDiff, Nat.reduceAdd, Nat.reduceMul, Nat.reduceSub, Nat.reduceLeDiff, Nat.reduceBEq, Nat.reduceDiv, Nat.reduceMod, Int.reduceToNat, Int.reduceLT, Int.reduceLE, Int.reduceAdd, Int.reduceSub, Int.reduceMul, Int.reduceEq, Int.reduceNeg, reduceCtorEq, resV, resAll, ARes.ev, LV.flat, ite_true, ite_false, exists_eq_left', exists_eq_left, keyOf, implies_true, fillC, capOf]
  refine ev_loop (fun m2 fr M2 => ∃ k : Nat, k + m2 = n ∧ M2 = M' ∧ fr 0 = .ref u 0 T.length ∧ fr 3 = .I (keyTL (T.flatten.take (i * n + k))) ∧ fr 4 = .I i ∧ fr 5 = .I k) n
    ⟨0, by omega, rfl, f0, f3, f4, rfl⟩ ?_
  clear f0 f3 f4
  rintro m2 fr M2 ⟨k, hk, rfl, f0, f3, f4, f5⟩
  simp (disch := omega) only [f0, f3, f4, f5, hgw, hil', Nat.mul_one, Nat.zero_add, ↓SXd, SXu, slBounds, ↓sop, ↓aop, ↓reduceIte, LV.cells, AOp.dst, LV.I, LV.B, LV.U, LV.S, LV.nil, Nat.reduceEqDiff, Nat.reduceAdd, Nat.reduceMul, Nat.reduceSub, Nat.reduceLeDiff, Nat.reduceBEq, Nat.reduceDiv, Nat.reduceMod, Int.reduceToNat, Int.reduceLT, Int.reduceLE, Int.reduceAdd, Int.reduceSub, Int.reduceMul, Int.reduceEq, Int.reduceNeg, reduceCtorEq, resV, resAll, ARes.ev, LV.flat, ite_true, ite_false, exists_eq_left', exists_eq_left, keyOf, implies_true, fillC, capOf]
  refine condC_dec (fun hlt2 => ?_) (fun hlt2 => ?_)
  · have hkn : k < n := by omega
    have hg := Ints.get hIw (k := k) (by omega)
    rw [Nat.zero_add] at hg
    have hkb := hib _ (getD_mem' (d := 0) (show k < row.length by omega))
    have hb1 := hb (i * n + k)
    have hst : keyTL (T.flatten.take (i * n + k + 1)) = 2 * keyTL (T.flatten.take (i * n + k)) + row.getD k 0 := by
      rw [take_snocL 0 (show i * n + k < T.flatten.length by omega), keyTL_snoc, hfa k hkn]
    generalize row.getD k 0 = b at hg hkb hst
    have hkr' : (k : Int) < (row.length : Nat) := by omega
    simp (disch := omega) only [f0, f3, f4, f5, hgw, hil', hg, hkr', Nat.mul_one, Nat.zero_add, ↓SXd, SXu, slBounds, ↓sop, ↓aop, ↓reduceIte, LV.cells, AOp.dst, LV.I, LV.B, LV.U, LV.S, LV.nil, Nat.reduceEqDiff, Nat.reduceAdd, Nat.reduceMul, Nat.reduceSub, Nat.reduceLeDiff, Nat.reduceBEq, Nat.reduceDiv, Nat.reduceMod, Int.reduceToNat, Int.reduceLT, Int.reduceLE, Int.reduceAdd, Int.reduceSub, Int.reduceMul, Int.reduceEq, Int.reduceNeg, reduceCtorEq, resV, resAll, ARes.ev, LV.flat, ite_true, ite_false, exists_eq_left', exists_eq_left, keyOf, implies_true, fillC, capOf]
    exact ⟨m2 - 1, by omega, k + 1, by omega, rfl, f0, by rw [show i * n + (k + 1) = i * n + k + 1 by omega, hst]; rfl, f4, eqI (natI _)⟩
  · have : k = n := by omega
    subst this
    simp (disch := omega) only [f0, f3, f4, f5, ↓SXd, SXu, slBounds, ↓sop, ↓aop, ↓reduceIte, LV.cells, AOp.dst, LV.I, LV.B, LV.U, LV.S, LV.nil, Nat.reduceEqDiff, Nat.reduceAdd, Nat.reduceMul, Nat.reduceSub, Nat.reduceLeDiff, Nat.reduceBEq, Nat.reduceDiv, Nat.reduceMod, Int.reduceToNat, Int.reduceLT, Int.reduceLE, Int.reduceAdd, Int.reduceSub, Int.reduceMul, Int.reduceEq, Int.reduceNeg, reduceCtorEq, resV, resAll, ARes.ev, LV.flat, ite_true, ite_false, exists_eq_left', exists_eq_left, keyOf, implies_true, fillC, capOf]
    exact ⟨m - 1, by omega, i + 1, by omega, rfl, f0, by rw [Nat.add_mul, Nat.one_mul]; exact f3, eqI (natI _)⟩
end Go.Ab

/- Plain words: a search in breadth finds the least number of steps, whatever the order of the neighbours. -/
namespace Go.Ab
open Go
set_option linter.unusedVariables false

section
variable {α : Type} {G : α → α → Prop} {src : α}
def WayN (G : α → α → Prop) : Nat → α → α → Prop
  | 0, a, b => a = b
  | k + 1, a, b => ∃ c, WayN G k a c ∧ G c b
/-- What holds while the place i of the queue is at work. -/
structure BfsInv (G : α → α → Prop) (src : α) (Q : List (α × Nat)) (i : Nat) : Prop where
  nod : (Q.map (·.1)).Nodup
  ini : (src, 0) ∈ Q
  way : ∀ v k, (v, k) ∈ Q → WayN G k src v
  don : ∀ (j : Nat) (v : α) (k : Nat), j < i → Q[j]? = some (v, k) → ∀ w, G v w → ∃ k', k' ≤ k + 1 ∧ (w, k') ∈ Q
  srt : ∀ (j j' : Nat) (v : α) (k : Nat) (v' : α) (k' : Nat), j ≤ j' → Q[j]? = some (v, k) → Q[j']? = some (v', k') → k ≤ k'
  bnd : ∀ (v : α) (k : Nat), Q[i]? = some (v, k) → ∀ w k', (w, k') ∈ Q → k' ≤ k + 1
theorem BfsInv.start : BfsInv G src [(src, 0)] 0 := by
  refine ⟨by simp, by simp, fun v k h => ?_, fun j v k h => by omega, fun j j' v k v' k' hj h1 h2 => ?_, fun v k h w k' h2 => ?_⟩
  · simp at h; obtain ⟨rfl, rfl⟩ := h; rfl
  · have e1 : j = 0 := by
      rcases Nat.eq_zero_or_pos j with h | h
      · exact h
      · rw [List.getElem?_eq_none (by simp; omega)] at h1; cases h1
    have e2 : j' = 0 := by
      rcases Nat.eq_zero_or_pos j' with h | h
      · exact h
      · rw [List.getElem?_eq_none (by simp; omega)] at h2; cases h2
    subst e1 e2
    simp at h1 h2; omega
  · simp at h h2; omega
/-- A neighbour that has not been met goes behind the queue. -/
theorem BfsInv.add {Q : List (α × Nat)} {i k : Nat} {v w : α} (h : BfsInv G src Q i) (hv : Q[i]? = some (v, k)) (hw : G v w) (hn : w ∉ Q.map (·.1)) : BfsInv G src (Q ++ [(w, k + 1)]) i := by
  have hil : i < Q.length := by
    rcases Nat.lt_or_ge i Q.length with h1 | h1
    · exact h1
    · rw [List.getElem?_eq_none h1] at hv; cases hv
  have hvm : (v, k) ∈ Q := List.mem_of_getElem? hv
  have hold : ∀ {j : Nat} {p : α × Nat}, (Q ++ [(w, k + 1)])[j]? = some p → (j < Q.length ∧ Q[j]? = some p) ∨ j = Q.length ∧ p = (w, k + 1) := fun {j p} hp => by
    rcases Nat.lt_or_ge j Q.length with h1 | h1
    · rw [List.getElem?_append_left h1] at hp; exact .inl ⟨h1, hp⟩
    · rw [List.getElem?_append_right h1] at hp
      rcases Nat.eq_zero_or_pos (j - Q.length) with h2 | h2
      · rw [h2] at hp
        simp at hp
        exact .inr ⟨by omega, hp.symm⟩
      · rw [List.getElem?_eq_none (by simp; omega)] at hp; cases hp
  refine ⟨?_, by simp [h.ini], fun u j hu => ?_, fun j u q hj hu w' hw' => ?_, fun j j' a q a' q' hj h1 h2 => ?_, fun a q ha b q' hb => ?_⟩
  · rw [List.map_append, List.nodup_append]
    refine ⟨h.nod, by simp, fun a ha b hb e => ?_⟩
    simp at hb
    subst e
    rw [hb] at ha
    exact hn ha
  · rcases List.mem_append.1 hu with hu | hu
    · exact h.way u j hu
    · simp at hu
      obtain ⟨rfl, rfl⟩ := hu
      exact ⟨v, h.way v k hvm, hw⟩
  · rcases hold hu with ⟨h1, h2⟩ | ⟨h1, h2⟩
    · obtain ⟨k', e1, e2⟩ := h.don j u q hj h2 w' hw'
      exact ⟨k', e1, by simp [e2]⟩
    · omega
  · rcases hold h1 with ⟨a1, a2⟩ | ⟨a1, a2⟩
    · rcases hold h2 with ⟨b1, b2⟩ | ⟨b1, b2⟩
      · exact h.srt j j' a q a' q' hj a2 b2
      · cases b2
        exact h.bnd v k hv a q (List.mem_of_getElem? a2)
    · rcases hold h2 with ⟨b1, b2⟩ | ⟨b1, b2⟩
      · omega
      · cases a2; cases b2; exact Nat.le_refl _
  · rcases hold ha with ⟨a1, a2⟩ | ⟨a1, a2⟩
    · rcases List.mem_append.1 hb with hb | hb
      · exact h.bnd a q a2 b q' hb
      · simp at hb
        rw [hv] at a2
        cases a2
        omega
    · omega
/-- All neighbours have been met: the next place. -/
theorem BfsInv.next {Q : List (α × Nat)} {i k : Nat} {v : α} (h : BfsInv G src Q i) (hv : Q[i]? = some (v, k)) (ha : ∀ w, G v w → w ∈ Q.map (·.1)) : BfsInv G src Q (i + 1) := by
  refine ⟨h.nod, h.ini, h.way, fun j u q hj hu w hw => ?_, h.srt, fun a q hq b q' hb => ?_⟩
  · rcases Nat.lt_or_ge j i with h1 | h1
    · exact h.don j u q h1 hu w hw
    · have e : j = i := by omega
      subst e
      rw [hv] at hu
      cases hu
      obtain ⟨⟨w', k'⟩, p1, p2⟩ := List.mem_map.1 (ha w hw)
      simp at p2
      subst p2
      exact ⟨k', h.bnd v k hv w' k' p1, p1⟩
  · have h1 := h.bnd v k hv b q' hb
    have h2 := h.srt i (i + 1) v k a q (by omega) hv hq
    omega
theorem nodup_fst {Q : List (α × Nat)} (h : (Q.map (·.1)).Nodup) {v : α} {k k' : Nat} (h1 : (v, k) ∈ Q) (h2 : (v, k') ∈ Q) : k = k' := by
  induction Q with
  | nil => simp at h1
  | cons p Q ih =>
    rw [List.map_cons, List.nodup_cons] at h
    rcases List.mem_cons.1 h1 with e1 | e1
    · rcases List.mem_cons.1 h2 with e2 | e2
      · rw [← e1] at e2; cases e2; rfl
      · exact absurd (List.mem_map.2 ⟨_, e2, rfl⟩) (by rw [← e1] at h; exact h.1)
    · rcases List.mem_cons.1 h2 with e2 | e2
      · exact absurd (List.mem_map.2 ⟨_, e1, rfl⟩) (by rw [← e2] at h; exact h.1)
      · exact ih h.2 e1 e2
/-- What is met at the place at work has been reached on a shortest way. -/
theorem BfsInv.least {Q : List (α × Nat)} {i k : Nat} {v : α} (h : BfsInv G src Q i) (hv : Q[i]? = some (v, k)) : WayN G k src v ∧ ∀ j, j < k → ¬ WayN G j src v := by
  have hvm : (v, k) ∈ Q := List.mem_of_getElem? hv
  refine ⟨h.way v k hvm, fun j hj hw => ?_⟩
  have key : ∀ (j : Nat) (u : α), j < k → WayN G j src u → ∃ q, q ≤ j ∧ (u, q) ∈ Q := fun j => by
    induction j with
    | zero => intro u _ hu; cases hu; exact ⟨0, Nat.le_refl _, h.ini⟩
    | succ j ih =>
      rintro u hj ⟨c, hc, hcu⟩
      obtain ⟨q, q1, q2⟩ := ih c (by omega) hc
      obtain ⟨p, hp⟩ := List.getElem?_of_mem q2
      have hpi : p < i := by
        rcases Nat.lt_or_ge p i with h1 | h1
        · exact h1
        · have := h.srt i p v k c q h1 hv hp; omega
      obtain ⟨k', e1, e2⟩ := h.don p c q hpi hp u hcu
      exact ⟨k', by omega, e2⟩
  obtain ⟨q, q1, q2⟩ := key j v hj hw
  have := nodup_fst h.nod hvm q2
  omega
/-- When the queue is at its end, all that can be reached has been met. -/
theorem BfsInv.all {Q : List (α × Nat)} (h : BfsInv G src Q Q.length) : ∀ (j : Nat) (u : α), WayN G j src u → u ∈ Q.map (·.1) := fun j => by
  induction j with
  | zero => intro u hu; cases hu; exact List.mem_map.2 ⟨_, h.ini, rfl⟩
  | succ j ih =>
    rintro u ⟨c, hc, hcu⟩
    obtain ⟨⟨c', q⟩, p1, p2⟩ := List.mem_map.1 (ih c hc)
    simp at p2
    subst p2
    obtain ⟨p, hp⟩ := List.getElem?_of_mem p1
    have hpl : p < Q.length := by
      rcases Nat.lt_or_ge p Q.length with h1 | h1
      · exact h1
      · rw [List.getElem?_eq_none h1] at hp; cases hp
    obtain ⟨k', e1, e2⟩ := h.don p c' q hpl hp u hcu
    exact List.mem_map.2 ⟨_, e2, rfl⟩
theorem way_least {k k' : Nat} {v : α} (h : WayN G k src v ∧ ∀ j, j < k → ¬ WayN G j src v) (h' : WayN G k' src v ∧ ∀ j, j < k' → ¬ WayN G j src v) : k = k' := by
  rcases Nat.lt_trichotomy k k' with e | e | e
  · exact absurd h.1 (h'.2 k e)
  · exact e
  · exact absurd h'.1 (h.2 k' e)
end
end Go.Ab

/- Plain words: when there is a table with given sums. -/
namespace Go.Ab
open Go
set_option linter.unusedSimpArgs false
set_option linter.unusedVariables false

def sN : Nat → (Nat → Int) → Int
  | 0, _ => 0
  | n + 1, f => sN n f + f n
theorem sN_congr {f g : Nat → Int} : ∀ {n}, (∀ j, j < n → f j = g j) → sN n f = sN n g
  | 0, _ => rfl
  | n + 1, h => by simp only [sN]; rw [sN_congr (n := n) fun j hj => h j (by omega), h n (by omega)]
theorem sN_le {f g : Nat → Int} : ∀ {n}, (∀ j, j < n → f j ≤ g j) → sN n f ≤ sN n g
  | 0, _ => Int.le_refl _
  | n + 1, h => by
    have h1 := sN_le (n := n) fun j hj => h j (by omega)
    have h2 := h n (by omega)
    simp only [sN]; omega
theorem sN_sub {f g : Nat → Int} : ∀ n, sN n (fun j => f j - g j) = sN n f - sN n g
  | 0 => rfl
  | n + 1 => by simp only [sN]; rw [sN_sub n]; omega
theorem sN_add {f g : Nat → Int} : ∀ n, sN n (fun j => f j + g j) = sN n f + sN n g
  | 0 => rfl
  | n + 1 => by simp only [sN]; rw [sN_add n]; omega
theorem sN_zero : ∀ n, sN n (fun _ => 0) = 0
  | 0 => rfl
  | n + 1 => by simp only [sN]; rw [sN_zero n]; rfl
theorem sN_one {k : Nat} : ∀ n, sN n (fun j => if j = k then (1 : Int) else 0) = if k < n then 1 else 0
  | 0 => rfl
  | n + 1 => by
    simp only [sN]
    rw [sN_one n]
    by_cases h1 : k < n
    · rw [if_pos h1, if_neg (show ¬ n = k by omega), if_pos (show k < n + 1 by omega)]; rfl
    · by_cases h2 : n = k
      · rw [if_neg h1, if_pos h2, if_pos (show k < n + 1 by omega)]; rfl
      · rw [if_neg h1, if_neg h2, if_neg (show ¬ k < n + 1 by omega)]; rfl
/-- The rows that a number names by its bits. -/
def selM : List Int → Nat → List Int
  | [], _ => []
  | r :: rs, m => (if m % 2 = 1 then [r] else []) ++ selM rs (m / 2)
def GRC (n : Nat) (rs : List Int) (c : Nat → Int) : Prop := litSum rs = sN n c ∧ ∀ m : Nat, litSum (selM rs m) ≤ sN n fun j => min (c j) ((selM rs m).length : Nat)
/-- A row with chosen columns. -/
def rowCh (n : Nat) (p : Nat → Bool) : List Int := (List.range n).map fun j => if p j then 1 else 0
end Go.Ab

/- Plain words: two tables of numbers 0 and 1 with the same sums: a switch in one of them brings them nearer. -/
namespace Go.Ab
open Go
set_option linter.unusedSimpArgs false
set_option linter.unusedVariables false

theorem sN_pos {n : Nat} {f : Nat → Int} (h : 0 < sN n f) : ∃ j, j < n ∧ 0 < f j := by
  induction n with
  | zero => simp [sN] at h
  | succ n ih =>
    simp only [sN] at h
    by_cases h1 : 0 < sN n f
    · obtain ⟨j, a, b⟩ := ih h1
      exact ⟨j, by omega, b⟩
    · exact ⟨n, by omega, by omega⟩
theorem sN_ge {n : Nat} {f : Nat → Int} (h : ∀ j, j < n → 0 ≤ f j) {k : Nat} (hk : k < n) : f k ≤ sN n f := by
  have h1 : sN n (fun j => if j = k then f k else 0) ≤ sN n f := sN_le fun j hj => by
    by_cases e : j = k
    · subst e; rw [if_pos rfl]; exact Int.le_refl _
    · rw [if_neg e]; exact h j hj
  have h2 : ∀ n, sN n (fun j => if j = k then f k else 0) = if k < n then f k else 0 := fun n => by
    induction n with
    | zero => rfl
    | succ n ih =>
      simp only [sN]
      rw [ih]
      by_cases h1 : k < n
      · rw [if_pos h1, if_neg (show ¬ n = k by omega), if_pos (show k < n + 1 by omega)]; omega
      · by_cases h2 : n = k
        · rw [if_neg h1, if_pos h2, if_pos (show k < n + 1 by omega)]; omega
        · rw [if_neg h1, if_neg h2, if_neg (show ¬ k < n + 1 by omega)]; omega
  rw [h2, if_pos hk] at h1
  exact h1
section
variable {m n : Nat} {T U : Nat → Nat → Int}
def Bits (m n : Nat) (T : Nat → Nat → Int) : Prop := ∀ i j, i < m → j < n → T i j = 0 ∨ T i j = 1
/-- How many cells of a row are 1 in the first table and 0 in the second. -/
def plusN (n : Nat) (T U : Nat → Nat → Int) (i : Nat) : Int := sN n fun j => if T i j = 1 ∧ U i j = 0 then 1 else 0
theorem plus_minus (hT : Bits m n T) (hU : Bits m n U) (hR : ∀ i, i < m → sN n (T i) = sN n (U i)) {i : Nat} (hi : i < m) : plusN n T U i = plusN n U T i := by
  have h1 : sN n (fun j => T i j - U i j) = sN n (fun j => (if T i j = 1 ∧ U i j = 0 then (1 : Int) else 0) - if U i j = 1 ∧ T i j = 0 then 1 else 0) := sN_congr fun j hj => by
    rcases hT i j hi hj with a | a <;> rcases hU i j hi hj with b | b <;> simp [a, b]
  rw [sN_sub, sN_sub, hR i hi] at h1
  unfold plusN
  omega
theorem max_row (f : Nat → Int) : ∀ m, 0 < m → ∃ r, r < m ∧ ∀ i, i < m → f i ≤ f r
  | 0, h => by omega
  | m + 1, _ => by
    rcases Nat.eq_zero_or_pos m with h | h
    · subst h; exact ⟨0, by omega, fun i hi => by rw [show i = 0 by omega]; exact Int.le_refl _⟩
    · obtain ⟨r, h1, h2⟩ := max_row f m h
      by_cases h3 : f r < f m
      · exact ⟨m, by omega, fun i hi => by
          rcases Nat.lt_or_ge i m with h4 | h4
          · have := h2 i h4; omega
          · rw [show i = m by omega]; exact Int.le_refl _⟩
      · exact ⟨r, by omega, fun i hi => by
          rcases Nat.lt_or_ge i m with h4 | h4
          · exact h2 i h4
          · rw [show i = m by omega]; omega⟩
theorem plus_pos {i : Nat} (hp : 0 < plusN n T U i) : ∃ j, j < n ∧ T i j = 1 ∧ U i j = 0 := by
  obtain ⟨j, h1, h2⟩ := sN_pos hp
  by_cases h : T i j = 1 ∧ U i j = 0
  · exact ⟨j, h1, h⟩
  · rw [if_neg h] at h2; omega
theorem plus_of {i j : Nat} (hj : j < n) (h1 : T i j = 1) (h2 : U i j = 0) : 0 < plusN n T U i := by
  have := sN_ge (n := n) (f := fun j => if T i j = 1 ∧ U i j = 0 then (1 : Int) else 0) (fun j _ => by
    show (0 : Int) ≤ if T i j = 1 ∧ U i j = 0 then 1 else 0
    split <;> decide) hj
  simp only [h1, h2, and_self, if_true] at this
  unfold plusN
  omega
/-- Four cells at which one of two tables can be switched. -/
theorem ryser (hT : Bits m n T) (hU : Bits m n U) (hR : ∀ i, i < m → sN n (T i) = sN n (U i)) (hC : ∀ j, j < n → sN m (fun i => T i j) = sN m (fun i => U i j)) {a b : Nat} (ha : a < m) (hb : b < n) (hne : T a b ≠ U a b) :
    ∃ r1 r2 c1 c2, (r1 < m ∧ r2 < m ∧ c1 < n ∧ c2 < n) ∧ r1 ≠ r2 ∧ c1 ≠ c2 ∧ (T r1 c1 = 1 ∧ T r1 c2 = 0 ∧ T r2 c2 = 1) ∧ (U r1 c1 = 0 ∧ U r1 c2 = 1 ∧ U r2 c2 = 0) ∧ (T r2 c1 = 0 ∨ U r2 c1 = 1) := by
  obtain ⟨r1, hr1, hmax⟩ := max_row (plusN n T U) m (by omega)
  have hpa : 0 < plusN n T U a := by
    rcases hT a b ha hb with e1 | e1 <;> rcases hU a b ha hb with e2 | e2
    · exact absurd (e1.trans e2.symm) hne
    · rw [plus_minus hT hU hR ha]; exact plus_of hb e2 e1
    · exact plus_of hb e1 e2
    · exact absurd (e1.trans e2.symm) hne
  have hp1 : 0 < plusN n T U r1 := by have := hmax a ha; omega
  have hm1 : 0 < plusN n U T r1 := by rw [← plus_minus hT hU hR hr1]; exact hp1
  obtain ⟨c2, hc2, u1, t1⟩ := plus_pos hm1
  -- a row with the opposite in this column
  have hcol : 0 < plusN m (fun j i => T i j) (fun j i => U i j) c2 := by
    rw [plus_minus (m := n) (n := m) (fun j i hj hi => hT i j hi hj) (fun j i hj hi => hU i j hi hj) (fun j hj => hC j hj) hc2]
    exact plus_of (n := m) (T := fun j i => U i j) (U := fun j i => T i j) hr1 u1 t1
  obtain ⟨r2, hr2, t2, u2⟩ := plus_pos hcol
  have hrr : r1 ≠ r2 := fun e => by
    subst e
    rw [t1] at t2
    exact absurd t2 (by decide)
  have hex : ∃ c1, c1 < n ∧ (T r1 c1 = 1 ∧ U r1 c1 = 0) ∧ ¬ (T r2 c1 = 1 ∧ U r2 c1 = 0) := by
    refine Classical.byContradiction fun hno => ?_
    have h1 : sN n (fun j => (if T r1 j = 1 ∧ U r1 j = 0 then (1 : Int) else 0) + if j = c2 then 1 else 0) ≤ plusN n T U r2 := sN_le fun j hj => by
      by_cases e : j = c2
      · subst e
        rw [if_neg (fun h => by rw [t1] at h; exact absurd h.1 (by decide)), if_pos rfl, if_pos ⟨t2, u2⟩]
        decide
      · rw [if_neg e]
        by_cases h : T r1 j = 1 ∧ U r1 j = 0
        · have h2 : T r2 j = 1 ∧ U r2 j = 0 := Classical.byContradiction fun h2 => hno ⟨j, hj, h, h2⟩
          rw [if_pos h, if_pos h2]; decide
        · rw [if_neg h]
          split <;> decide
    rw [sN_add, sN_one, if_pos hc2] at h1
    have := hmax r2 hr2
    unfold plusN at *
    omega
  obtain ⟨c1, hc1, ⟨t3, u3⟩, hno⟩ := hex
  refine ⟨r1, r2, c1, c2, ⟨hr1, hr2, hc1, hc2⟩, hrr, fun e => ?_, ⟨t3, t1, t2⟩, ⟨u3, u1, u2⟩, ?_⟩
  · subst e
    rw [t1] at t3
    exact absurd t3 (by decide)
  · rcases hT r2 c1 hr2 hc1 with e | e
    · exact .inl e
    · rcases hU r2 c1 hr2 hc1 with e' | e'
      · exact absurd ⟨e, e'⟩ hno
      · exact .inr e'
end
end Go.Ab

/- Plain words: tables with the same sums are connected by switches. -/
namespace Go.Ab
open Go
set_option linter.unusedSimpArgs false
set_option linter.unusedVariables false

def atT (T : List (List Int)) (i j : Nat) : Int := (T.getD i []).getD j 0
def TabOK (m n : Nat) (T : List (List Int)) : Prop := T.length = m ∧ ∀ row ∈ T, row.length = n ∧ ∀ a ∈ row, a = 0 ∨ a = 1
def swR (row : List Int) (k l : Nat) : List Int := (row.set k (row.getD l 0)).set l (row.getD k 0)
def swT (T : List (List Int)) (i j k l : Nat) : List (List Int) := (T.set i (swR (T.getD i []) k l)).set j (swR (T.getD j []) k l)
/-- A switch leads from one table to another. -/
def SwG (m n : Nat) (T U : List (List Int)) : Prop := TabOK m n T ∧ ∃ i j k l, i < j ∧ j < m ∧ k < l ∧ l < n ∧ atT T i k = atT T j l ∧ atT T i l = atT T j k ∧ atT T i k ≠ atT T i l ∧ U = swT T i j k l
theorem tab_ext {m n : Nat} {T U : List (List Int)} (hT : TabOK m n T) (hU : TabOK m n U) (h : ∀ i j, i < m → j < n → atT T i j = atT U i j) : T = U := by
  refine List.ext_getElem (by rw [hT.1, hU.1]) fun i h1 h2 => ?_
  have r1 := (hT.2 _ (List.getElem_mem h1)).1
  have r2 := (hU.2 _ (List.getElem_mem h2)).1
  refine List.ext_getElem (by rw [r1, r2]) fun j h3 h4 => ?_
  have := h i j (by rw [← hT.1]; exact h1) (by rw [← r1]; exact h3)
  unfold atT at this
  simp only [List.getD_eq_getElem?_getD, List.getElem?_eq_getElem h1, List.getElem?_eq_getElem h2, List.getElem?_eq_getElem h3, List.getElem?_eq_getElem h4, Option.getD_some] at this
  exact this
theorem TabOK.row {m n i : Nat} {T : List (List Int)} (h : TabOK m n T) (hi : i < m) : (T.getD i []).length = n ∧ ∀ a ∈ T.getD i [], a = 0 ∨ a = 1 := h.2 _ (getD_mem' (by rw [h.1]; exact hi))
theorem TabOK.bit {m n i j : Nat} {T : List (List Int)} (h : TabOK m n T) (hi : i < m) (hj : j < n) : atT T i j = 0 ∨ atT T i j = 1 := (h.row hi).2 _ (getD_mem' (by rw [(h.row hi).1]; exact hj))
theorem swR_len {row : List Int} {k l : Nat} : (swR row k l).length = row.length := by simp [swR]
theorem swR_bits {row : List Int} {k l : Nat} (hk : k < row.length) (hl : l < row.length) (h : ∀ a ∈ row, a = 0 ∨ a = 1) : ∀ a ∈ swR row k l, a = 0 ∨ a = 1 := by
  intro a ha
  unfold swR at ha
  rcases List.mem_or_eq_of_mem_set ha with h1 | h1
  · rcases List.mem_or_eq_of_mem_set h1 with h2 | h2
    · exact h a h2
    · rw [h2]; exact h _ (getD_mem' hl)
  · rw [h1]; exact h _ (getD_mem' hk)
theorem getD_setI {l : List Int} {i j : Nat} {v : Int} : (l.set i v).getD j 0 = if i = j ∧ j < l.length then v else l.getD j 0 := by
  simp only [List.getD_eq_getElem?_getD, List.getElem?_set]
  by_cases h : i = j
  · subst h
    by_cases h2 : i < l.length
    · simp [h2]
    · simp [h2]
  · simp [h]
theorem getD_setL {l : List (List Int)} {i j : Nat} {v : List Int} : (l.set i v).getD j [] = if i = j ∧ j < l.length then v else l.getD j [] := by
  simp only [List.getD_eq_getElem?_getD, List.getElem?_set]
  by_cases h : i = j
  · subst h
    by_cases h2 : i < l.length
    · simp [h2]
    · simp [h2]
  · simp [h]
theorem swR_at {row : List Int} {k l c : Nat} (hk : k < row.length) (hl : l < row.length) : (swR row k l).getD c 0 = if c = l then row.getD k 0 else if c = k then row.getD l 0 else row.getD c 0 := by
  unfold swR
  rw [getD_setI, getD_setI, List.length_set]
  by_cases h1 : c = l
  · subst h1; rw [if_pos ⟨rfl, hl⟩, if_pos rfl]
  · rw [if_neg (fun h => h1 h.1.symm), if_neg h1]
    by_cases h2 : c = k
    · subst h2; rw [if_pos ⟨rfl, hk⟩, if_pos rfl]
    · rw [if_neg (fun h => h2 h.1.symm), if_neg h2]
theorem swT_ok {m n i j k l : Nat} {T : List (List Int)} (hT : TabOK m n T) (hi : i < m) (hj : j < m) (hk : k < n) (hl : l < n) : TabOK m n (swT T i j k l) := by
  refine ⟨by unfold swT; simp [hT.1], fun row hr => ?_⟩
  have key : ∀ p, p < m → (swR (T.getD p []) k l).length = n ∧ ∀ a ∈ swR (T.getD p []) k l, a = 0 ∨ a = 1 := fun p hp => by
    have := hT.row hp
    exact ⟨by rw [swR_len]; exact this.1, swR_bits (by omega) (by omega) this.2⟩
  unfold swT at hr
  rcases List.mem_or_eq_of_mem_set hr with h | h
  · rcases List.mem_or_eq_of_mem_set h with h | h
    · exact hT.2 row h
    · rw [h]; exact key i hi
  · rw [h]; exact key j hj
theorem swT_at {m n i j k l r c : Nat} {T : List (List Int)} (hT : TabOK m n T) (hi : i < m) (hj : j < m) (hk : k < n) (hl : l < n) : atT (swT T i j k l) r c = if r = i ∨ r = j then (if c = l then atT T r k else if c = k then atT T r l else atT T r c) else atT T r c := by
  have key : ∀ p, p < m → (swR (T.getD p []) k l).getD c 0 = if c = l then atT T p k else if c = k then atT T p l else atT T p c := fun p hp => by
    have := hT.row hp
    exact swR_at (by omega) (by omega)
  unfold atT swT
  rw [getD_setL, getD_setL, List.length_set, hT.1]
  by_cases h1 : r = j
  · subst h1
    rw [if_pos ⟨rfl, hj⟩, if_pos (.inr rfl)]
    exact key r hj
  · rw [if_neg (fun h => h1 h.1.symm)]
    by_cases h2 : r = i
    · subst h2
      rw [if_pos ⟨rfl, hi⟩, if_pos (.inl rfl)]
      exact key r hi
    · rw [if_neg (fun h => h2 h.1.symm), if_neg (fun h => h.elim h2 h1)]
theorem swT_any {m n r1 r2 c1 c2 : Nat} {T : List (List Int)} (hT : TabOK m n T) (h1 : r1 < m) (h2 : r2 < m) (h3 : c1 < n) (h4 : c2 < n) (hr : r1 ≠ r2) (hc : c1 ≠ c2) (e1 : atT T r1 c1 = atT T r2 c2) (e2 : atT T r1 c2 = atT T r2 c1) (hne : atT T r1 c1 ≠ atT T r1 c2) :
    ∃ V, SwG m n T V ∧ ∀ r c, atT V r c = if r = r1 ∨ r = r2 then (if c = c2 then atT T r c1 else if c = c1 then atT T r c2 else atT T r c) else atT T r c := by
  have sym : ∀ (k l r c : Nat), k ≠ l → (if c = l then atT T r k else if c = k then atT T r l else atT T r c) = if c = k then atT T r l else if c = l then atT T r k else atT T r c := fun k l r c hkl => by
    by_cases a : c = l
    · subst a; rw [if_pos rfl, if_neg (fun e => hkl e.symm), if_pos rfl]
    · rw [if_neg a, if_neg a]
  rcases Nat.lt_or_gt_of_ne hr with a | a <;> rcases Nat.lt_or_gt_of_ne hc with b | b
  · exact ⟨_, ⟨hT, r1, r2, c1, c2, a, h2, b, h4, e1, e2, hne, rfl⟩, fun r c => swT_at hT h1 h2 h3 h4⟩
  · refine ⟨_, ⟨hT, r1, r2, c2, c1, a, h2, b, h3, e2, e1, fun h => hne h.symm, rfl⟩, fun r c => ?_⟩
    rw [swT_at hT h1 h2 h4 h3, sym c2 c1 r c (fun e => hc e.symm)]
  · refine ⟨_, ⟨hT, r2, r1, c1, c2, a, h1, b, h4, e2.symm, e1.symm, fun h => hne (by rw [e1, ← h, ← e2]), rfl⟩, fun r c => ?_⟩
    rw [swT_at hT h2 h1 h3 h4]
    by_cases q : r = r1 ∨ r = r2
    · rw [if_pos q, if_pos q.symm]
    · rw [if_neg q, if_neg fun h => q h.symm]
  · refine ⟨_, ⟨hT, r2, r1, c2, c1, a, h1, b, h3, e1.symm, e2.symm, fun h => hne (by rw [e1, h, ← e2]), rfl⟩, fun r c => ?_⟩
    rw [swT_at hT h2 h1 h4 h3, sym c2 c1 r c (fun e => hc e.symm)]
    by_cases q : r = r1 ∨ r = r2
    · rw [if_pos q, if_pos q.symm]
    · rw [if_neg q, if_neg fun h => q h.symm]
theorem SwG.ok {m n : Nat} {T U : List (List Int)} (h : SwG m n T U) : TabOK m n U := by
  obtain ⟨hT, i, j, k, l, h1, h2, h3, h4, _, _, _, rfl⟩ := h
  exact swT_ok hT (by omega) h2 (by omega) h4
theorem SwG.symm {m n : Nat} {T U : List (List Int)} (h : SwG m n T U) : SwG m n U T := by
  have hU := h.ok
  obtain ⟨hT, i, j, k, l, h1, h2, h3, h4, e1, e2, e3, rfl⟩ := h
  have hi : i < m := by omega
  have hk : k < n := by omega
  have hv := fun r c => swT_at (r := r) (c := c) hT hi h2 hk h4
  have a1 : atT (swT T i j k l) i k = atT T i l := by rw [hv, if_pos (.inl rfl), if_neg (by omega), if_pos rfl]
  have a2 : atT (swT T i j k l) i l = atT T i k := by rw [hv, if_pos (.inl rfl), if_pos rfl]
  have a3 : atT (swT T i j k l) j k = atT T j l := by rw [hv, if_pos (.inr rfl), if_neg (by omega), if_pos rfl]
  have a4 : atT (swT T i j k l) j l = atT T j k := by rw [hv, if_pos (.inr rfl), if_pos rfl]
  refine ⟨hU, i, j, k, l, h1, h2, h3, h4, by rw [a1, a4]; exact e2, by rw [a2, a3]; exact e1, by rw [a1, a2]; exact fun h => e3 h.symm, tab_ext hT (swT_ok hU hi h2 hk h4) fun r c hr hc => ?_⟩
  rw [swT_at hU hi h2 hk h4]
  by_cases q : r = i ∨ r = j
  · rw [if_pos q, hv, hv, hv, if_pos q, if_pos q, if_pos q]
    by_cases b : c = l
    · subst b; rw [if_pos rfl, if_neg (by omega), if_pos rfl]
    · by_cases b2 : c = k
      · subst b2; rw [if_neg b, if_pos rfl, if_pos rfl]
      · rw [if_neg b, if_neg b2, if_neg b, if_neg b2]
  · rw [if_neg q, hv, if_neg q]
theorem sN_del {k : Nat} {v : Int} : ∀ n, sN n (fun j => if j = k then v else 0) = if k < n then v else 0
  | 0 => rfl
  | n + 1 => by
    simp only [sN]
    rw [sN_del n]
    by_cases h1 : k < n
    · rw [if_pos h1, if_neg (show ¬ n = k by omega), if_pos (show k < n + 1 by omega)]; omega
    · by_cases h2 : n = k
      · rw [if_neg h1, if_pos h2, if_pos (show k < n + 1 by omega)]; omega
      · rw [if_neg h1, if_neg h2, if_neg (show ¬ k < n + 1 by omega)]; omega
def SameS (m n : Nat) (T U : List (List Int)) : Prop := (∀ i, i < m → sN n (atT T i) = sN n (atT U i)) ∧ ∀ j, j < n → sN m (fun i => atT T i j) = sN m fun i => atT U i j
theorem SwG.sums {m n : Nat} {T U : List (List Int)} (h : SwG m n T U) : SameS m n T U := by
  obtain ⟨hT, i, j, k, l, h1, h2, h3, h4, e1, e2, e3, rfl⟩ := h
  have hi : i < m := by omega
  have hk : k < n := by omega
  have hv := fun r c => swT_at (r := r) (c := c) hT hi h2 hk h4
  refine ⟨fun r hr => ?_, fun c hc => ?_⟩
  · by_cases q : r = i ∨ r = j
    · have : sN n (atT (swT T i j k l) r) = sN n fun c => (atT T r c + if c = l then atT T r k - atT T r l else 0) + if c = k then atT T r l - atT T r k else 0 := sN_congr fun c hc => by
        rw [hv, if_pos q]
        by_cases b : c = l
        · subst b; rw [if_pos rfl, if_pos rfl, if_neg (by omega)]; omega
        · by_cases b2 : c = k
          · subst b2; rw [if_neg b, if_pos rfl, if_neg b, if_pos rfl]; omega
          · rw [if_neg b, if_neg b2, if_neg b, if_neg b2]; omega
      rw [this, sN_add, sN_add, sN_del, sN_del, if_pos h4, if_pos hk]
      show sN n (atT T r) = sN n (atT T r) + _ + _
      omega
    · exact sN_congr fun c hc => by rw [hv, if_neg q]
  · have : sN m (fun r => atT (swT T i j k l) r c) = sN m fun r => (atT T r c + if r = i then (if c = l then atT T i k else if c = k then atT T i l else atT T i c) - atT T i c else 0) + if r = j then (if c = l then atT T j k else if c = k then atT T j l else atT T j c) - atT T j c else 0 := sN_congr fun r hr => by
      rw [hv]
      by_cases b : r = i
      · subst b; rw [if_pos (.inl rfl), if_pos rfl, if_neg (show ¬ r = j by omega)]; omega
      · by_cases b2 : r = j
        · subst b2; rw [if_pos (.inr rfl), if_neg b, if_pos rfl]; omega
        · rw [if_neg (fun h => h.elim b b2), if_neg b, if_neg b2]; omega
    rw [this, sN_add, sN_add, sN_del, sN_del, if_pos hi, if_pos h2]
    by_cases b : c = l
    · subst b; rw [if_pos rfl, if_pos rfl]; omega
    · by_cases b2 : c = k
      · subst b2; rw [if_neg b, if_pos rfl, if_neg b, if_pos rfl]; omega
      · rw [if_neg b, if_neg b2, if_neg b, if_neg b2]; omega
/-- At how many cells two tables differ. -/
def farT (m n : Nat) (T U : List (List Int)) : Int := sN m fun r => sN n fun c => if atT T r c = atT U r c then 0 else 1
theorem far_pos {m n : Nat} {T U : List (List Int)} : 0 ≤ farT m n T U := by
  have h1 : sN m (fun _ => 0) ≤ farT m n T U := sN_le fun r _ => by
    have h2 : sN n (fun _ => 0) ≤ sN n fun c => if atT T r c = atT U r c then (0 : Int) else 1 := sN_le fun c _ => by split <;> decide
    rw [sN_zero] at h2; exact h2
  rw [sN_zero] at h1; exact h1
theorem far_symm {m n : Nat} {T U : List (List Int)} : farT m n T U = farT m n U T := sN_congr fun r _ => sN_congr fun c _ => by
  by_cases h : atT T r c = atT U r c
  · rw [if_pos h, if_pos h.symm]
  · rw [if_neg h, if_neg fun e => h e.symm]
theorem sN_cell {m n a b : Nat} (ha : a < m) (hb : b < n) : sN m (fun r => sN n fun c => if r = a ∧ c = b then (1 : Int) else 0) = 1 := by
  have : sN m (fun r => sN n fun c => if r = a ∧ c = b then (1 : Int) else 0) = sN m fun r => if r = a then 1 else 0 := sN_congr fun r _ => by
    by_cases h : r = a
    · rw [if_pos h]
      have : sN n (fun c => if r = a ∧ c = b then (1 : Int) else 0) = sN n fun c => if c = b then 1 else 0 := sN_congr fun c _ => by simp [h]
      rw [this, sN_one, if_pos hb]
    · rw [if_neg h]
      have : sN n (fun c => if r = a ∧ c = b then (1 : Int) else 0) = sN n fun _ => 0 := sN_congr fun c _ => by simp [h]
      rw [this, sN_zero]
  rw [this, sN_one, if_pos ha]
/-- A switch that puts three cells right brings the tables nearer. -/
theorem nearer {m n r1 r2 c1 c2 : Nat} {T V U : List (List Int)} (h1 : r1 < m) (h2 : r2 < m) (h3 : c1 < n) (h4 : c2 < n) (hr : r1 ≠ r2) (hc : c1 ≠ c2) (t1 : atT T r1 c1 ≠ atT U r1 c1) (t2 : atT T r1 c2 ≠ atT U r1 c2) (t3 : atT T r2 c2 ≠ atT U r2 c2)
    (v1 : atT V r1 c1 = atT U r1 c1) (v2 : atT V r1 c2 = atT U r1 c2) (v3 : atT V r2 c2 = atT U r2 c2) (hv : ∀ r c, ¬ ((r = r1 ∨ r = r2) ∧ (c = c1 ∨ c = c2)) → atT V r c = atT T r c) : farT m n V U < farT m n T U := by
  have key : farT m n V U ≤ sN m fun r => sN n fun c => ((((if atT T r c = atT U r c then 0 else 1) - if r = r1 ∧ c = c1 then 1 else 0) - if r = r1 ∧ c = c2 then 1 else 0) - if r = r2 ∧ c = c2 then 1 else 0) + if r = r2 ∧ c = c1 then 1 else 0 := sN_le fun r _ => sN_le fun c _ => by
    by_cases a1 : r = r1 ∧ c = c1
    · have b2 : ¬ (r = r1 ∧ c = c2) := fun h => hc (a1.2.symm.trans h.2)
      have b3 : ¬ (r = r2 ∧ c = c2) := fun h => hr (a1.1.symm.trans h.1)
      have b4 : ¬ (r = r2 ∧ c = c1) := fun h => hr (a1.1.symm.trans h.1)
      rw [if_pos a1, if_neg b2, if_neg b3, if_neg b4, a1.1, a1.2, if_pos v1, if_neg t1]; decide
    by_cases a2 : r = r1 ∧ c = c2
    · have b3 : ¬ (r = r2 ∧ c = c2) := fun h => hr (a2.1.symm.trans h.1)
      have b4 : ¬ (r = r2 ∧ c = c1) := fun h => hr (a2.1.symm.trans h.1)
      rw [if_neg a1, if_pos a2, if_neg b3, if_neg b4, a2.1, a2.2, if_pos v2, if_neg t2]; decide
    by_cases a3 : r = r2 ∧ c = c2
    · have b4 : ¬ (r = r2 ∧ c = c1) := fun h => hc (h.2.symm.trans a3.2)
      rw [if_neg a1, if_neg a2, if_pos a3, if_neg b4, a3.1, a3.2, if_pos v3, if_neg t3]; decide
    by_cases a4 : r = r2 ∧ c = c1
    · rw [if_neg a1, if_neg a2, if_neg a3, if_pos a4]
      split <;> split <;> decide
    · rw [hv r c (by rintro ⟨p | p, q | q⟩ <;> simp_all), if_neg a1, if_neg a2, if_neg a3, if_neg a4]
      omega
  have e : ∀ r, sN n (fun c => ((((if atT T r c = atT U r c then (0 : Int) else 1) - if r = r1 ∧ c = c1 then 1 else 0) - if r = r1 ∧ c = c2 then 1 else 0) - if r = r2 ∧ c = c2 then 1 else 0) + if r = r2 ∧ c = c1 then 1 else 0) = (((sN n (fun c => if atT T r c = atT U r c then (0 : Int) else 1) - sN n fun c => if r = r1 ∧ c = c1 then 1 else 0) - sN n fun c => if r = r1 ∧ c = c2 then 1 else 0) - sN n fun c => if r = r2 ∧ c = c2 then 1 else 0) + sN n fun c => if r = r2 ∧ c = c1 then 1 else 0 := fun r => by
    rw [sN_add, sN_sub, sN_sub, sN_sub]
  simp only [e] at key
  rw [sN_add, sN_sub, sN_sub, sN_sub, sN_cell h1 h3, sN_cell h1 h4, sN_cell h2 h4, sN_cell h2 h3] at key
  unfold farT at key ⊢
  omega
theorem way_first {α : Type} {G : α → α → Prop} : ∀ {k : Nat} {a b c : α}, G a b → WayN G k b c → WayN G (k + 1) a c
  | 0, a, b, c, h, hw => by cases hw; exact ⟨a, rfl, h⟩
  | k + 1, a, b, c, h, ⟨d, h1, h2⟩ => ⟨d, way_first h h1, h2⟩
/-- Tables with the same sums are connected. -/
theorem connected {m n : Nat} : ∀ (d : Nat) {T U : List (List Int)}, TabOK m n T → TabOK m n U → SameS m n T U → farT m n T U ≤ d → ∃ k, WayN (SwG m n) k T U := by
  intro d
  induction d using Nat.strongRecOn with
  | ind d ih =>
  intro T U hT hU hs hd
  by_cases he : T = U
  · exact ⟨0, he⟩
  have hex : ∃ a b, a < m ∧ b < n ∧ atT T a b ≠ atT U a b := Classical.byContradiction fun hno => he (tab_ext hT hU fun i j hi hj => Classical.byContradiction fun h => hno ⟨i, j, hi, hj, h⟩)
  obtain ⟨a, b, ha, hb, hab⟩ := hex
  obtain ⟨r1, r2, c1, c2, ⟨h1, h2, h3, h4⟩, hr, hc, ⟨t1, t2, t3⟩, ⟨u1, u2, u3⟩, hor⟩ := ryser (T := atT T) (U := atT U) (fun i j hi hj => hT.bit hi hj) (fun i j hi hj => hU.bit hi hj) hs.1 hs.2 ha hb hab
  have dn : 0 ≤ farT m n T U := far_pos
  rcases hor with h0 | h0
  · obtain ⟨V, hV, hv⟩ := swT_any hT h1 h2 h3 h4 hr hc (by rw [t1, t3]) (by rw [t2, h0]) (by rw [t1, t2]; decide)
    have hlt := nearer (V := V) (U := U) h1 h2 h3 h4 hr hc (by rw [t1, u1]; decide) (by rw [t2, u2]; decide) (by rw [t3, u3]; decide)
      (by rw [hv, if_pos (.inl rfl), if_neg hc, if_pos rfl, t2, u1]) (by rw [hv, if_pos (.inl rfl), if_pos rfl, t1, u2]) (by rw [hv, if_pos (.inr rfl), if_pos rfl, h0, u3])
      fun r c hn => by
        rw [hv]
        by_cases q : r = r1 ∨ r = r2
        · rw [if_pos q, if_neg fun e => hn ⟨q, .inr e⟩, if_neg fun e => hn ⟨q, .inl e⟩]
        · rw [if_neg q]
    have dn2 : 0 ≤ farT m n V U := far_pos
    have hss := hV.sums
    obtain ⟨k, hk⟩ := ih (d - 1) (by omega) hV.ok hU ⟨fun i hi => (hss.1 i hi).symm.trans (hs.1 i hi), fun j hj => (hss.2 j hj).symm.trans (hs.2 j hj)⟩ (by omega)
    exact ⟨k + 1, way_first hV hk⟩
  · obtain ⟨V, hV, hv⟩ := swT_any hU h1 h2 h3 h4 hr hc (by rw [u1, u3]) (by rw [u2, h0]) (by rw [u1, u2]; decide)
    have hlt := nearer (T := U) (V := V) (U := T) h1 h2 h3 h4 hr hc (by rw [t1, u1]; decide) (by rw [t2, u2]; decide) (by rw [t3, u3]; decide)
      (by rw [hv, if_pos (.inl rfl), if_neg hc, if_pos rfl, u2, t1]) (by rw [hv, if_pos (.inl rfl), if_pos rfl, u1, t2]) (by rw [hv, if_pos (.inr rfl), if_pos rfl, h0, t3])
      fun r c hn => by
        rw [hv]
        by_cases q : r = r1 ∨ r = r2
        · rw [if_pos q, if_neg fun e => hn ⟨q, .inr e⟩, if_neg fun e => hn ⟨q, .inl e⟩]
        · rw [if_neg q]
    rw [far_symm, far_symm (T := U)] at hlt
    have dn2 : 0 ≤ farT m n T V := far_pos
    have hss := hV.sums
    obtain ⟨k, hk⟩ := ih (d - 1) (by omega) hT hV.ok ⟨fun i hi => (hs.1 i hi).trans (hss.1 i hi), fun j hj => (hs.2 j hj).trans (hss.2 j hj)⟩ (by omega)
    exact ⟨k + 1, V, hk, hV.symm⟩
end Go.Ab

/- Contracts: all tables behind a switch (reference). -/
namespace Go.Ab
open Go
set_option linter.unusedSimpArgs false
set_option linter.unusedVariables false
set_option maxRecDepth 20000

def CondS (T : List (List Int)) (i j k l : Nat) : Prop := atT T i k = atT T j l ∧ atT T i l = atT T j k ∧ atT T i k ≠ atT T i l
instance (T : List (List Int)) (i j k l : Nat) : Decidable (CondS T i j k l) := by unfold CondS; exact inferInstance
def nxL (T : List (List Int)) (i j k l : Nat) : List (List (List Int)) := if k < l then (if CondS T i j k l then [swT T i j k l] else []) else []
def nxK (n : Nat) (T : List (List Int)) (i j k : Nat) : List (List (List Int)) := (List.range n).flatMap (nxL T i j k)
def nxJ (n : Nat) (T : List (List Int)) (i j : Nat) : List (List (List Int)) := if i < j then (List.range n).flatMap (nxK n T i j) else []
def nxI (m n : Nat) (T : List (List Int)) (i : Nat) : List (List (List Int)) := (List.range m).flatMap (nxJ n T i)
def nextTL (m n : Nat) (T : List (List Int)) : List (List (List Int)) := (List.range m).flatMap (nxI m n T)
theorem flat_none {f : Nat → List (List (List Int))} : ∀ {n : Nat}, (∀ j, j < n → f j = []) → (List.range n).flatMap f = []
  | 0, _ => rfl
  | n + 1, h => by rw [List.range_succ, List.flatMap_append, flat_none fun j hj => h j (by omega), List.flatMap_singleton, h n (by omega)]; rfl
theorem flat_bnd {f : Nat → List (List (List Int))} {b : Nat} (h : ∀ j, (f j).length ≤ b) : ∀ n : Nat, ((List.range n).flatMap f).length ≤ n * b
  | 0 => by simp
  | n + 1 => by
    have h1 := flat_bnd h n
    have h2 := h n
    rw [List.range_succ, List.flatMap_append, List.flatMap_singleton, List.length_append, Nat.add_mul]
    omega
theorem nxL_len {T : List (List Int)} {i j k l : Nat} : (nxL T i j k l).length ≤ 1 := by
  unfold nxL
  split
  · split <;> simp
  · simp
def OutT (M N : Mem) (uo : Nat) (acc : List (List (List Int))) : Prop := Pre M N ∧ M.length ≤ uo ∧ ∀ av : List Nat, (∀ a ∈ av, a < M.length) → Tab3 N uo acc av
theorem h_l4Next {m n u : Nat} {T : List (List Int)} {M : Mem} (hT : TabV M (.ref u 0 T.length) T) (hOK : TabOK m n T) (hm : 1 ≤ m ∧ m ≤ 4) (hn : n ≤ 4) :
    CallsR PG F.spec_l4Next [.ref u 0 T.length] M fun v N => ∃ uo, v = .ref uo 0 (nextTL m n T).length ∧ OutT M N uo (nextTL m n T) := by
  have hml := hOK.1
  have h0 : 0 < T.length := by omega
  have hu : u < M.length := by
    obtain ⟨w, h1, _⟩ := hT.atR h0
    unfold getCell getRow at h1
    rcases Nat.lt_or_ge u M.length with h | h
    · exact h
    · rw [List.getElem?_eq_none h] at h1; simp at h1
  obtain ⟨w0, hg0, hI0⟩ := hT.atR h0
  have hr0 : (T.getD 0 []).length = n := (hOK.row (by omega)).1
  rw [hr0] at hg0
  have hcell : ∀ {Z : Mem} {i : Nat} {v : LV}, Pre M Z → getCell M u i = some v → getCell Z u i = some v := fun {Z i v} hp h => by
    unfold getCell getRow at h ⊢
    rw [hp.2 u hu]; exact h
  have h0' : (0 : Int) < (T.length : Nat) := by omega
  have bK : ∀ i j k, (nxK n T i j k).length ≤ 4 := fun i j k => by
    have := flat_bnd (f := nxL T i j k) (b := 1) (fun l => nxL_len) n
    unfold nxK; omega
  have bJ : ∀ i j, (nxJ n T i j).length ≤ 16 := fun i j => by
    have := flat_bnd (f := nxK n T i j) (b := 4) (fun k => bK i j k) n
    unfold nxJ
    split
    · omega
    · simp
  have bI : ∀ i, (nxI m n T i).length ≤ 64 := fun i => by
    have := flat_bnd (f := nxJ n T i) (b := 16) (fun j => bJ i j) m
    unfold nxI; omega
  refine callsR_run K.spec_l4Next rfl ?_
  simp (disch := omega) only [C.spec_l4Next, ↓SXd, SXu, slBounds, ↓sop, ↓aop, ↓reduceIte, LV.cells, AOp.dst, LV.I, LV.B, LV.U, LV.S, LV.nil, Nat.reduceEqDiff, Nat.reduceAdd, Nat.reduceMul, Nat.reduceSub, Nat.reduceLeDiff, Nat.reduceBEq, Nat.reduceDiv, Nat.reduceMod, Int.reduceToNat, Int.reduceLT, Int.reduceLE, Int.reduceAdd, Int.reduceSub, Int.reduceMul, Int.reduceEq, Int.reduceNeg, reduceCtorEq, resV, resAll, ARes.ev, LV.flat, ite_true, ite_false, exists_eq_left', exists_eq_left, keyOf, implies_true, fillC, capOf]
  refine ev_loop (fun q fr M' => ∃ i uo : Nat, i + q = m ∧ OutT M M' uo ((List.range i).flatMap (nxI m n T)) ∧ fr 0 = .ref u 0 T.length ∧ fr 3 = .ref uo 0 ((List.range i).flatMap (nxI m n T)).length ∧ fr 4 = .I i) m
    ⟨0, M.length, by omega, ⟨Pre.app _ _, Nat.le_refl _, fun av hav => Tab3.nil Live.new fun hm => by have := hav _ hm; omega⟩, rfl, rfl, rfl⟩ ?_
  rintro q fr M' ⟨i, uo, hi, hO, f0, f3, f4⟩
  simp (disch := omega) only [f0, f3, f4, ↓SXd, SXu, slBounds, ↓sop, ↓aop, ↓reduceIte, LV.cells, AOp.dst, LV.I, LV.B, LV.U, LV.S, LV.nil, Nat.reduceEqDiff, Nat.reduceAdd, Nat.reduceMul, Nat.reduceSub, Nat.reduceLeDiff, Nat.reduceBEq, Nat.reduceDiv, Nat.reduceMod, Int.reduceToNat, Int.reduceLT, Int.reduceLE, Int.reduceAdd, Int.reduceSub, Int.reduceMul, Int.reduceEq, Int.reduceNeg, reduceCtorEq, resV, resAll, ARes.ev, LV.flat, ite_true, ite_false, exists_eq_left', exists_eq_left, keyOf, implies_true, fillC, capOf]
  refine condC_dec (fun hlt => ?_) (fun hlt => ?_)
  rotate_left
  · have : i = m := by omega
    subst this
    simp (disch := omega) only [f0, f3, f4, ↓SXd, SXu, slBounds, ↓sop, ↓aop, ↓reduceIte, LV.cells, AOp.dst, LV.I, LV.B, LV.U, LV.S, LV.nil, Nat.reduceEqDiff, Nat.reduceAdd, Nat.reduceMul, Nat.reduceSub, Nat.reduceLeDiff, Nat.reduceBEq, Nat.reduceDiv, Nat.reduceMod, Int.reduceToNat, Int.reduceLT, Int.reduceLE, Int.reduceAdd, Int.reduceSub, Int.reduceMul, Int.reduceEq, Int.reduceNeg, reduceCtorEq, resV, resAll, ARes.ev, LV.flat, ite_true, ite_false, exists_eq_left', exists_eq_left, keyOf, implies_true, fillC, capOf]
    exact ⟨uo, rfl, hO⟩
  have him : i < m := by omega
  have hsI := flat_succ (f := nxI m n T) (i := i)
  have hlI := flat_bnd (f := nxI m n T) (b := 64) bI i
  generalize (List.range i).flatMap (nxI m n T) = accI at hO hsI f3 hlI
  simp (disch := omega) only [f0, f3, f4, ↓SXd, SXu, slBounds, ↓sop, ↓aop, ↓reduceIte, LV.cells, AOp.dst, LV.I, LV.B, LV.U, LV.S, LV.nil, Nat.reduceEqDiff, Nat.reduceAdd, Nat.reduceMul, Nat.reduceSub, Nat.reduceLeDiff, Nat.reduceBEq, Nat.reduceDiv, Nat.reduceMod, Int.reduceToNat, Int.reduceLT, Int.reduceLE, Int.reduceAdd, Int.reduceSub, Int.reduceMul, Int.reduceEq, Int.reduceNeg, reduceCtorEq, resV, resAll, ARes.ev, LV.flat, ite_true, ite_false, exists_eq_left', exists_eq_left, keyOf, implies_true, fillC, capOf]
  refine ev_loop (fun q2 fr M' => ∃ j uo : Nat, j + q2 = m ∧ i + 1 ≤ j ∧ OutT M M' uo (accI ++ (List.range j).flatMap (nxJ n T i)) ∧ fr 0 = .ref u 0 T.length ∧ fr 3 = .ref uo 0 (accI ++ (List.range j).flatMap (nxJ n T i)).length ∧ fr 4 = .I i ∧ fr 5 = .I j) (m - (i + 1))
    (by
      have e : (List.range (i + 1)).flatMap (nxJ n T i) = [] := flat_none fun j hj => by unfold nxJ; rw [if_neg (by omega)]
      exact ⟨i + 1, uo, by omega, Nat.le_refl _, by rw [e, List.append_nil]; exact hO, f0, by rw [e, List.append_nil]; exact f3, f4, eqI (natI _)⟩) ?_
  clear f0 f3 f4 hO hlt
  rintro q2 fr M' ⟨j, uo, hj, hij, hO, f0, f3, f4, f5⟩
  simp (disch := omega) only [f0, f3, f4, f5, ↓SXd, SXu, slBounds, ↓sop, ↓aop, ↓reduceIte, LV.cells, AOp.dst, LV.I, LV.B, LV.U, LV.S, LV.nil, Nat.reduceEqDiff, Nat.reduceAdd, Nat.reduceMul, Nat.reduceSub, Nat.reduceLeDiff, Nat.reduceBEq, Nat.reduceDiv, Nat.reduceMod, Int.reduceToNat, Int.reduceLT, Int.reduceLE, Int.reduceAdd, Int.reduceSub, Int.reduceMul, Int.reduceEq, Int.reduceNeg, reduceCtorEq, resV, resAll, ARes.ev, LV.flat, ite_true, ite_false, exists_eq_left', exists_eq_left, keyOf, implies_true, fillC, capOf]
  refine condC_dec (fun hlt => ?_) (fun hlt => ?_)
  rotate_left
  · have : j = m := by omega
    subst this
    simp (disch := omega) only [f0, f3, f4, f5, ↓SXd, SXu, slBounds, ↓sop, ↓aop, ↓reduceIte, LV.cells, AOp.dst, LV.I, LV.B, LV.U, LV.S, LV.nil, Nat.reduceEqDiff, Nat.reduceAdd, Nat.reduceMul, Nat.reduceSub, Nat.reduceLeDiff, Nat.reduceBEq, Nat.reduceDiv, Nat.reduceMod, Int.reduceToNat, Int.reduceLT, Int.reduceLE, Int.reduceAdd, Int.reduceSub, Int.reduceMul, Int.reduceEq, Int.reduceNeg, reduceCtorEq, resV, resAll, ARes.ev, LV.flat, ite_true, ite_false, exists_eq_left', exists_eq_left, keyOf, implies_true, fillC, capOf]
    exact ⟨q - 1, by omega, i + 1, uo, by omega, by rw [hsI]; exact hO, f0, by rw [hsI]; exact f3, eqI (natI _)⟩
  have hjm : j < m := by omega
  have hsJ := flat_succ (f := nxJ n T i) (i := j)
  have hJe : nxJ n T i j = (List.range n).flatMap (nxK n T i j) := if_pos (by omega)
  rw [hJe] at hsJ
  have hsJ2 : accI ++ (List.range (j + 1)).flatMap (nxJ n T i) = (accI ++ (List.range j).flatMap (nxJ n T i)) ++ (List.range n).flatMap (nxK n T i j) := by rw [hsJ, List.append_assoc]
  have hlJ : (accI ++ (List.range j).flatMap (nxJ n T i)).length ≤ 1000 := by
    have := flat_bnd (f := nxJ n T i) (b := 16) (bJ i) j
    rw [List.length_append]; omega
  generalize accI ++ (List.range j).flatMap (nxJ n T i) = accJ at hO hsJ2 f3 hlJ
  simp (disch := omega) only [f0, f3, f4, f5, ↓SXd, SXu, slBounds, ↓sop, ↓aop, ↓reduceIte, LV.cells, AOp.dst, LV.I, LV.B, LV.U, LV.S, LV.nil, Nat.reduceEqDiff, Nat.reduceAdd, Nat.reduceMul, Nat.reduceSub, Nat.reduceLeDiff, Nat.reduceBEq, Nat.reduceDiv, Nat.reduceMod, Int.reduceToNat, Int.reduceLT, Int.reduceLE, Int.reduceAdd, Int.reduceSub, Int.reduceMul, Int.reduceEq, Int.reduceNeg, reduceCtorEq, resV, resAll, ARes.ev, LV.flat, ite_true, ite_false, exists_eq_left', exists_eq_left, keyOf, implies_true, fillC, capOf]
  refine ev_loop (fun q3 fr M' => ∃ k uo : Nat, k + q3 = n ∧ OutT M M' uo (accJ ++ (List.range k).flatMap (nxK n T i j)) ∧ fr 0 = .ref u 0 T.length ∧ fr 3 = .ref uo 0 (accJ ++ (List.range k).flatMap (nxK n T i j)).length ∧ fr 4 = .I i ∧ fr 5 = .I j ∧ fr 6 = .I k) n
    ⟨0, uo, by omega, by rw [List.range_zero, List.flatMap_nil, List.append_nil]; exact hO, f0, by rw [List.range_zero, List.flatMap_nil, List.append_nil]; exact f3, f4, f5, rfl⟩ ?_
  clear f0 f3 f4 f5 hO hlt
  rintro q3 fr M' ⟨k, uo, hk, hO, f0, f3, f4, f5, f6⟩
  have hg0' := hcell hO.1 hg0
  simp (disch := omega) only [f0, f3, f4, f5, f6, hg0', h0', ↓SXd, SXu, slBounds, ↓sop, ↓aop, ↓reduceIte, LV.cells, AOp.dst, LV.I, LV.B, LV.U, LV.S, LV.nil, Nat.reduceEqDiff, Nat.reduceAdd, Nat.reduceMul, Nat.reduceSub, Nat.reduceLeDiff, Nat.reduceBEq, Nat.reduceDiv, Nat.reduceMod, Int.reduceToNat, Int.reduceLT, Int.reduceLE, Int.reduceAdd, Int.reduceSub, Int.reduceMul, Int.reduceEq, Int.reduceNeg, reduceCtorEq, resV, resAll, ARes.ev, LV.flat, ite_true, ite_false, exists_eq_left', exists_eq_left, keyOf, implies_true, fillC, capOf]
  refine condC_dec (fun hlt => ?_) (fun hlt => ?_)
  rotate_left
  · have : k = n := by omega
    subst this
    simp (disch := omega) only [f0, f3, f4, f5, f6, ↓SXd, SXu, slBounds, ↓sop, ↓aop, ↓reduceIte, LV.cells, AOp.dst, LV.I, LV.B, LV.U, LV.S, LV.nil, Nat.reduceEqDiff, Nat.reduceAdd, Nat.reduceMul, Nat.reduceSub, Nat.reduceLeDiff, Nat.reduceBEq, Nat.reduceDiv, Nat.reduceMod, Int.reduceToNat, Int.reduceLT, Int.reduceLE, Int.reduceAdd, Int.reduceSub, Int.reduceMul, Int.reduceEq, Int.reduceNeg, reduceCtorEq, resV, resAll, ARes.ev, LV.flat, ite_true, ite_false, exists_eq_left', exists_eq_left, keyOf, implies_true, fillC, capOf]
    exact ⟨q2 - 1, by omega, j + 1, uo, by omega, by omega, by rw [hsJ2]; exact hO, f0, by rw [hsJ2]; exact f3, f4, eqI (natI _)⟩
  have hkn : k < n := by omega
  have hsK := flat_succ (f := nxK n T i j) (i := k)
  have hsK2 : accJ ++ (List.range (k + 1)).flatMap (nxK n T i j) = (accJ ++ (List.range k).flatMap (nxK n T i j)) ++ (List.range n).flatMap (nxL T i j k) := by rw [hsK, List.append_assoc]; rfl
  have hlK : (accJ ++ (List.range k).flatMap (nxK n T i j)).length ≤ 2000 := by
    have := flat_bnd (f := nxK n T i j) (b := 4) (bK i j) k
    rw [List.length_append]; omega
  generalize accJ ++ (List.range k).flatMap (nxK n T i j) = accK at hO hsK2 f3 hlK
  simp (disch := omega) only [f0, f3, f4, f5, f6, ↓SXd, SXu, slBounds, ↓sop, ↓aop, ↓reduceIte, LV.cells, AOp.dst, LV.I, LV.B, LV.U, LV.S, LV.nil, Nat.reduceEqDiff, Nat.reduceAdd, Nat.reduceMul, Nat.reduceSub, Nat.reduceLeDiff, Nat.reduceBEq, Nat.reduceDiv, Nat.reduceMod, Int.reduceToNat, Int.reduceLT, Int.reduceLE, Int.reduceAdd, Int.reduceSub, Int.reduceMul, Int.reduceEq, Int.reduceNeg, reduceCtorEq, resV, resAll, ARes.ev, LV.flat, ite_true, ite_false, exists_eq_left', exists_eq_left, keyOf, implies_true, fillC, capOf]
  refine ev_loop (fun q4 fr M' => ∃ l uo : Nat, l + q4 = n ∧ k + 1 ≤ l ∧ OutT M M' uo (accK ++ (List.range l).flatMap (nxL T i j k)) ∧ fr 0 = .ref u 0 T.length ∧ fr 3 = .ref uo 0 (accK ++ (List.range l).flatMap (nxL T i j k)).length ∧ fr 4 = .I i ∧ fr 5 = .I j ∧ fr 6 = .I k ∧ fr 7 = .I l) (n - (k + 1))
    (by
      have e : (List.range (k + 1)).flatMap (nxL T i j k) = [] := flat_none fun l hl => by unfold nxL; rw [if_neg (by omega)]
      exact ⟨k + 1, uo, by omega, Nat.le_refl _, by rw [e, List.append_nil]; exact hO, f0, by rw [e, List.append_nil]; exact f3, f4, f5, f6, eqI (natI _)⟩) ?_
  clear f0 f3 f4 f5 f6 hO hlt hg0'
  rintro q4 fr M' ⟨l, uo, hl, hkl, hO, f0, f3, f4, f5, f6, f7⟩
  have hg0' := hcell hO.1 hg0
  simp (disch := omega) only [f0, f3, f4, f5, f6, f7, hg0', h0', ↓SXd, SXu, slBounds, ↓sop, ↓aop, ↓reduceIte, LV.cells, AOp.dst, LV.I, LV.B, LV.U, LV.S, LV.nil, Nat.reduceEqDiff, Nat.reduceAdd, Nat.reduceMul, Nat.reduceSub, Nat.reduceLeDiff, Nat.reduceBEq, Nat.reduceDiv, Nat.reduceMod, Int.reduceToNat, Int.reduceLT, Int.reduceLE, Int.reduceAdd, Int.reduceSub, Int.reduceMul, Int.reduceEq, Int.reduceNeg, reduceCtorEq, resV, resAll, ARes.ev, LV.flat, ite_true, ite_false, exists_eq_left', exists_eq_left, keyOf, implies_true, fillC, capOf]
  refine condC_dec (fun hlt => ?_) (fun hlt => ?_)
  rotate_left
  · have : l = n := by omega
    subst this
    simp (disch := omega) only [f0, f3, f4, f5, f6, f7, ↓SXd, SXu, slBounds, ↓sop, ↓aop, ↓reduceIte, LV.cells, AOp.dst, LV.I, LV.B, LV.U, LV.S, LV.nil, Nat.reduceEqDiff, Nat.reduceAdd, Nat.reduceMul, Nat.reduceSub, Nat.reduceLeDiff, Nat.reduceBEq, Nat.reduceDiv, Nat.reduceMod, Int.reduceToNat, Int.reduceLT, Int.reduceLE, Int.reduceAdd, Int.reduceSub, Int.reduceMul, Int.reduceEq, Int.reduceNeg, reduceCtorEq, resV, resAll, ARes.ev, LV.flat, ite_true, ite_false, exists_eq_left', exists_eq_left, keyOf, implies_true, fillC, capOf]
    exact ⟨q3 - 1, by omega, k + 1, uo, by omega, by rw [hsK2]; exact hO, f0, by rw [hsK2]; exact f3, f4, f5, eqI (natI _)⟩
  have hln : l < n := by omega
  have hsL := flat_succ (f := nxL T i j k) (i := l)
  have hLe : nxL T i j k l = if CondS T i j k l then [swT T i j k l] else [] := if_pos (by omega)
  have hsL2 : accK ++ (List.range (l + 1)).flatMap (nxL T i j k) = (accK ++ (List.range l).flatMap (nxL T i j k)) ++ if CondS T i j k l then [swT T i j k l] else [] := by rw [hsL, hLe, List.append_assoc]
  have hlacc : (accK ++ (List.range l).flatMap (nxL T i j k)).length ≤ 1000000 := by
    have := flat_bnd (f := nxL T i j k) (b := 1) (fun l => nxL_len) l
    rw [List.length_append]; omega
  generalize accK ++ (List.range l).flatMap (nxL T i j k) = acc at hO hsL2 f3 hlacc
  obtain ⟨wi, hgi, hIi⟩ := hT.atR (show i < T.length by omega)
  obtain ⟨wj, hgj, hIj⟩ := hT.atR (show j < T.length by omega)
  have hri := hOK.row him
  have hrj := hOK.row hjm
  have cik := Ints.get (hIi.pre hO.1) (k := k) (by omega)
  have cil := Ints.get (hIi.pre hO.1) (k := l) (by omega)
  have cjk := Ints.get (hIj.pre hO.1) (k := k) (by omega)
  have cjl := Ints.get (hIj.pre hO.1) (k := l) (by omega)
  rw [Nat.zero_add] at cik cil cjk cjl
  rw [hri.1] at hgi
  rw [hrj.1] at hgj
  have hgi' := hcell hO.1 hgi
  have hgj' := hcell hO.1 hgj
  have hib : (i : Int) < (T.length : Nat) := by omega
  have hjb : (j : Int) < (T.length : Nat) := by omega
  have hkb : (k : Int) < (n : Nat) := by omega
  have hlb : (l : Int) < (n : Nat) := by omega
  change getCell M' wi k = some (.I (atT T i k)) at cik
  change getCell M' wi l = some (.I (atT T i l)) at cil
  change getCell M' wj k = some (.I (atT T j k)) at cjk
  change getCell M' wj l = some (.I (atT T j l)) at cjl
  simp (disch := omega) only [f0, f3, f4, f5, f6, f7, hgi', hgj', cik, cil, cjk, cjl, hib, hjb, hkb, hlb, Nat.mul_one, Nat.zero_add, ↓SXd, SXu, slBounds, ↓sop, ↓aop, ↓reduceIte, LV.cells, AOp.dst, LV.I, LV.B, LV.U, LV.S, LV.nil, Nat.reduceEqDiff, Nat.reduceAdd, Nat.reduceMul, Nat.reduceSub, Nat.reduceLeDiff, Nat.reduceBEq, Nat.reduceDiv, Nat.reduceMod, Int.reduceToNat, Int.reduceLT, Int.reduceLE, Int.reduceAdd, Int.reduceSub, Int.reduceMul, Int.reduceEq, Int.reduceNeg, reduceCtorEq, resV, resAll, ARes.ev, LV.flat, ite_true, ite_false, exists_eq_left', exists_eq_left, keyOf, implies_true, fillC, capOf]
  by_cases e1 : atT T i k = atT T j l
  · by_cases e2 : atT T i l = atT T j k
    · by_cases e3 : atT T i k = atT T i l
      · have hc : ¬ CondS T i j k l := fun h => h.2.2 e3
        rw [if_neg hc, List.append_nil] at hsL2
        simp (disch := omega) only [f0, f3, f4, f5, f6, f7, e1, e2, e3, hgi', hgj', cik, cil, cjk, cjl, hib, hjb, hkb, hlb, Nat.mul_one, Nat.zero_add, ↓SXd, SXu, slBounds, ↓sop, ↓aop, ↓reduceIte, LV.cells, AOp.dst, LV.I, LV.B, LV.U, LV.S, LV.nil, Nat.reduceEqDiff, Nat.reduceAdd, Nat.reduceMul, Nat.reduceSub, Nat.reduceLeDiff, Nat.reduceBEq, Nat.reduceDiv, Nat.reduceMod, Int.reduceToNat, Int.reduceLT, Int.reduceLE, Int.reduceAdd, Int.reduceSub, Int.reduceMul, Int.reduceEq, Int.reduceNeg, reduceCtorEq, resV, resAll, ARes.ev, LV.flat, ite_true, ite_false, exists_eq_left', exists_eq_left, keyOf, implies_true, fillC, capOf]
        exact ⟨q4 - 1, by omega, l + 1, uo, by omega, by omega, by rw [hsL2]; exact hO, f0, by rw [hsL2]; exact f3, f4, f5, f6, eqI (natI _)⟩
      · have hc : CondS T i j k l := ⟨e1, e2, e3⟩
        rw [if_pos hc] at hsL2
        have e3' : ¬ atT T j l = atT T i l := fun h => e3 (e1.trans h)
        simp (disch := omega) only [f0, f3, f4, f5, f6, f7, e1, e2, e3, e3', hgi', hgj', cik, cil, cjk, cjl, hib, hjb, hkb, hlb, Nat.mul_one, Nat.zero_add, ↓SXd, SXu, slBounds, ↓sop, ↓aop, ↓reduceIte, LV.cells, AOp.dst, LV.I, LV.B, LV.U, LV.S, LV.nil, Nat.reduceEqDiff, Nat.reduceAdd, Nat.reduceMul, Nat.reduceSub, Nat.reduceLeDiff, Nat.reduceBEq, Nat.reduceDiv, Nat.reduceMod, Int.reduceToNat, Int.reduceLT, Int.reduceLE, Int.reduceAdd, Int.reduceSub, Int.reduceMul, Int.reduceEq, Int.reduceNeg, reduceCtorEq, resV, resAll, ARes.ev, LV.flat, ite_true, ite_false, exists_eq_left', exists_eq_left, keyOf, implies_true, fillC, capOf]
        have hM'l := hO.1.1
        refine ev_loop (fun q5 fr N => ∃ p ut : Nat, p + q5 = T.length ∧ Pre M' N ∧ TabD N ut (T.take p) M'.length ∧ fr 0 = .ref u 0 T.length ∧ fr 3 = .ref uo 0 acc.length ∧ fr 4 = .I i ∧ fr 5 = .I j ∧ fr 6 = .I k ∧ fr 7 = .I l ∧ fr 8 = .ref ut 0 (T.take p).length ∧ fr 9 = .I p) T.length
          ⟨0, M'.length, by omega, Pre.app _ _, TabD.nil Live.new (Nat.le_refl _), f0, f3, f4, f5, f6, f7, rfl, rfl⟩ ?_
        clear f0 f3 f4 f5 f6 f7 hgi' hgj' cik cil cjk cjl hg0' hlt
        rintro q5 fr N ⟨p, ut, hp, hpre, hD, f0, f3, f4, f5, f6, f7, f8, f9⟩
        simp (disch := omega) only [f0, f3, f4, f5, f6, f7, f8, f9, ↓SXd, SXu, slBounds, ↓sop, ↓aop, ↓reduceIte, LV.cells, AOp.dst, LV.I, LV.B, LV.U, LV.S, LV.nil, Nat.reduceEqDiff, Nat.reduceAdd, Nat.reduceMul, Nat.reduceSub, Nat.reduceLeDiff, Nat.reduceBEq, Nat.reduceDiv, Nat.reduceMod, Int.reduceToNat, Int.reduceLT, Int.reduceLE, Int.reduceAdd, Int.reduceSub, Int.reduceMul, Int.reduceEq, Int.reduceNeg, reduceCtorEq, resV, resAll, ARes.ev, LV.flat, ite_true, ite_false, exists_eq_left', exists_eq_left, keyOf, implies_true, fillC, capOf]
        refine condC_dec (fun hlt => ?_) (fun hlt => ?_)
        · have hpl : p < T.length := by omega
          obtain ⟨wp, hgp, hIp⟩ := hT.atR hpl
          have hgp' := hcell (hO.1.trans hpre) hgp
          have hIp' := (hIp.pre hO.1).pre hpre
          have hts := take_snocL [] hpl
          have hrp := hOK.row (show p < m by omega)
          generalize T.getD p [] = row at hgp' hIp' hts hrp
          have hpb : (p : Int) < (T.length : Nat) := by omega
          simp (disch := omega) only [f0, f3, f4, f5, f6, f7, f8, f9, hgp', hpb, Nat.mul_one, Nat.zero_add, ↓SXd, SXu, slBounds, ↓sop, ↓aop, ↓reduceIte, LV.cells, AOp.dst, LV.I, LV.B, LV.U, LV.S, LV.nil, Nat.reduceEqDiff, Nat.reduceAdd, Nat.reduceMul, Nat.reduceSub, Nat.reduceLeDiff, Nat.reduceBEq, Nat.reduceDiv, Nat.reduceMod, Int.reduceToNat, Int.reduceLT, Int.reduceLE, Int.reduceAdd, Int.reduceSub, Int.reduceMul, Int.reduceEq, Int.reduceNeg, reduceCtorEq, resV, resAll, ARes.ev, LV.flat, ite_true, ite_false, exists_eq_left', exists_eq_left, keyOf, implies_true, fillC, capOf]
          refine callK_of (h_l1Own hIp' (by omega)) ?_
          have hpn : Pre N (N ++ [some (.row (intL row) true 1)]) := Pre.app _ _
          have hLn : Live (N ++ [some (.row (intL row) true 1)]) N.length (.row (intL row) true 1) := Live.new
          generalize N ++ [some (.row (intL row) true 1)] = N1 at hpn hLn ⊢
          simp (disch := omega) only [f0, f3, f4, f5, f6, f7, f8, f9, ↓SXd, SXu, slBounds, ↓sop, ↓aop, ↓reduceIte, LV.cells, AOp.dst, LV.I, LV.B, LV.U, LV.S, LV.nil, Nat.reduceEqDiff, Nat.reduceAdd, Nat.reduceMul, Nat.reduceSub, Nat.reduceLeDiff, Nat.reduceBEq, Nat.reduceDiv, Nat.reduceMod, Int.reduceToNat, Int.reduceLT, Int.reduceLE, Int.reduceAdd, Int.reduceSub, Int.reduceMul, Int.reduceEq, Int.reduceNeg, reduceCtorEq, resV, resAll, ARes.ev, LV.flat, ite_true, ite_false, exists_eq_left', exists_eq_left, keyOf, implies_true, fillC, capOf]
          have hNl := hpre.1
          have hutN : M'.length ≤ ut := by obtain ⟨_, _, h0, _⟩ := hD; exact h0
          refine appendK_tabD hD hpn hLn (Nat.le_refl _) (by rw [List.length_take]; omega) hNl fun u' N2 k1 k2 k3 k4 => ?_
          rw [← hts] at k1 ⊢
          have hN1 := hpn.1
          simp (disch := omega) only [f0, f3, f4, f5, f6, f7, f8, f9, ↓SXd, SXu, slBounds, ↓sop, ↓aop, ↓reduceIte, LV.cells, AOp.dst, LV.I, LV.B, LV.U, LV.S, LV.nil, Nat.reduceEqDiff, Nat.reduceAdd, Nat.reduceMul, Nat.reduceSub, Nat.reduceLeDiff, Nat.reduceBEq, Nat.reduceDiv, Nat.reduceMod, Int.reduceToNat, Int.reduceLT, Int.reduceLE, Int.reduceAdd, Int.reduceSub, Int.reduceMul, Int.reduceEq, Int.reduceNeg, reduceCtorEq, resV, resAll, ARes.ev, LV.flat, ite_true, ite_false, exists_eq_left', exists_eq_left, keyOf, implies_true, fillC, capOf]
          exact ⟨q5 - 1, by omega, p + 1, u', by omega, ⟨by omega, fun w hw => by rw [k3 w (by omega) (by omega), hpn.2 w (by omega)]; exact hpre.2 w hw⟩, k1, f0, f3, f4, f5, f6, f7, rfl, eqI (natI _)⟩
        · have : p = T.length := by omega
          subst this
          rw [List.take_length] at hD f8
          have hil : i < T.length := by omega
          have hjl : j < T.length := by omega
          have hlen1 : (T.getD i []).length = n := hri.1
          obtain ⟨b1, hb1, Lb1, lo1, nt1⟩ := hD.at (i := i) (by omega)
          have hbn1 := hb1
          rw [hlen1] at hbn1
          have hgN1 := hcell (hO.1.trans hpre) hgi
          have cN1 := Ints.get ((hIi.pre hO.1).pre hpre) (k := l) (by omega)
          rw [Nat.zero_add] at cN1
          change getCell N wi l = some (.I (atT T i l)) at cN1
          simp (disch := omega) only [f0, f3, f4, f5, f6, f7, f8, f9, hbn1, hgN1, cN1, hib, hjb, hkb, hlb, Nat.mul_one, Nat.zero_add, ↓SXd, SXu, slBounds, ↓sop, ↓aop, ↓reduceIte, LV.cells, AOp.dst, LV.I, LV.B, LV.U, LV.S, LV.nil, Nat.reduceEqDiff, Nat.reduceAdd, Nat.reduceMul, Nat.reduceSub, Nat.reduceLeDiff, Nat.reduceBEq, Nat.reduceDiv, Nat.reduceMod, Int.reduceToNat, Int.reduceLT, Int.reduceLE, Int.reduceAdd, Int.reduceSub, Int.reduceMul, Int.reduceEq, Int.reduceNeg, reduceCtorEq, resV, resAll, ARes.ev, LV.flat, ite_true, ite_false, exists_eq_left', exists_eq_left, keyOf, implies_true, fillC, capOf]
          refine memK_int Lb1 (by rw [hlen1]; omega) fun P1 k1 k2 k3 => ?_
          have D1 := hD.store (by omega) hb1 (by simp) k1 k2 k3
          have p1 := pre_step hpre lo1 (j := 0) k1 k3
          clear k1 k2 k3 hbn1 hgN1 cN1
          have hlen2 : ((T.set i ((T.getD i []).set k (atT T i l))).getD i []).length = n := by rw [getD_setL, if_pos ⟨rfl, hil⟩, List.length_set, hri.1]
          obtain ⟨b2, hb2, Lb2, lo2, nt2⟩ := D1.at (i := i) (by rw [List.length_set]; omega)
          have hbn2 := hb2
          rw [hlen2] at hbn2
          have hgN2 := hcell (hO.1.trans p1) hgi
          have cN2 := Ints.get ((hIi.pre hO.1).pre p1) (k := k) (by omega)
          rw [Nat.zero_add] at cN2
          change getCell P1 wi k = some (.I (atT T i k)) at cN2
          simp (disch := omega) only [f0, f3, f4, f5, f6, f7, f8, f9, hbn2, hgN2, cN2, hib, hjb, hkb, hlb, Nat.mul_one, Nat.zero_add, ↓SXd, SXu, slBounds, ↓sop, ↓aop, ↓reduceIte, LV.cells, AOp.dst, LV.I, LV.B, LV.U, LV.S, LV.nil, Nat.reduceEqDiff, Nat.reduceAdd, Nat.reduceMul, Nat.reduceSub, Nat.reduceLeDiff, Nat.reduceBEq, Nat.reduceDiv, Nat.reduceMod, Int.reduceToNat, Int.reduceLT, Int.reduceLE, Int.reduceAdd, Int.reduceSub, Int.reduceMul, Int.reduceEq, Int.reduceNeg, reduceCtorEq, resV, resAll, ARes.ev, LV.flat, ite_true, ite_false, exists_eq_left', exists_eq_left, keyOf, implies_true, fillC, capOf]
          refine memK_int Lb2 (by rw [hlen2]; omega) fun P2 k1 k2 k3 => ?_
          have D2 := D1.store (by rw [List.length_set]; omega) hb2 (by simp) k1 k2 k3
          have p2 := pre_step p1 lo2 (j := 0) k1 k3
          clear k1 k2 k3 hbn2 hgN2 cN2
          have hT2 : (T.set i ((T.getD i []).set k (atT T i l))).set i (((T.set i ((T.getD i []).set k (atT T i l))).getD i []).set l (atT T i k)) = T.set i (swR (T.getD i []) k l) := by
            rw [getD_setL, if_pos ⟨rfl, hil⟩, List.set_set]; rfl
          rw [hT2] at D2
          have hnij : ¬ (i = j ∧ j < T.length) := fun h => by omega
          have hj2 : (T.set i (swR (T.getD i []) k l)).getD j [] = T.getD j [] := by rw [getD_setL, if_neg hnij]
          have hl2 : (T.set i (swR (T.getD i []) k l)).length = T.length := List.length_set ..
          have hsw : ((T.set i (swR (T.getD i []) k l)).set j (((T.set i (swR (T.getD i []) k l)).getD j []).set k (atT T j l))).set j ((((T.set i (swR (T.getD i []) k l)).set j (((T.set i (swR (T.getD i []) k l)).getD j []).set k (atT T j l))).getD j []).set l (atT T j k)) = swT T i j k l := by
            rw [hj2, getD_setL, if_pos ⟨rfl, by rw [hl2]; exact hjl⟩, List.set_set]; rfl
          generalize T.set i (swR (T.getD i []) k l) = T2 at D2 hj2 hl2 hsw
          have hlen3 : (T2.getD j []).length = n := by rw [hj2]; exact hrj.1
          obtain ⟨b3, hb3, Lb3, lo3, nt3⟩ := D2.at (i := j) (by omega)
          have hbn3 := hb3
          rw [hlen3] at hbn3
          have hgN3 := hcell (hO.1.trans p2) hgj
          have cN3 := Ints.get ((hIj.pre hO.1).pre p2) (k := l) (by omega)
          rw [Nat.zero_add] at cN3
          change getCell P2 wj l = some (.I (atT T j l)) at cN3
          simp (disch := omega) only [f0, f3, f4, f5, f6, f7, f8, f9, hbn3, hgN3, cN3, hib, hjb, hkb, hlb, Nat.mul_one, Nat.zero_add, ↓SXd, SXu, slBounds, ↓sop, ↓aop, ↓reduceIte, LV.cells, AOp.dst, LV.I, LV.B, LV.U, LV.S, LV.nil, Nat.reduceEqDiff, Nat.reduceAdd, Nat.reduceMul, Nat.reduceSub, Nat.reduceLeDiff, Nat.reduceBEq, Nat.reduceDiv, Nat.reduceMod, Int.reduceToNat, Int.reduceLT, Int.reduceLE, Int.reduceAdd, Int.reduceSub, Int.reduceMul, Int.reduceEq, Int.reduceNeg, reduceCtorEq, resV, resAll, ARes.ev, LV.flat, ite_true, ite_false, exists_eq_left', exists_eq_left, keyOf, implies_true, fillC, capOf]
          refine memK_int Lb3 (by rw [hlen3]; omega) fun P3 k1 k2 k3 => ?_
          have D3 := D2.store (by omega) hb3 (by simp) k1 k2 k3
          have p3 := pre_step p2 lo3 (j := 0) k1 k3
          clear k1 k2 k3 hbn3 hgN3 cN3
          have hlen4 : ((T2.set j ((T2.getD j []).set k (atT T j l))).getD j []).length = n := by rw [getD_setL, if_pos ⟨rfl, by omega⟩, List.length_set, hlen3]
          obtain ⟨b4, hb4, Lb4, lo4, nt4⟩ := D3.at (i := j) (by rw [List.length_set]; omega)
          have hbn4 := hb4
          rw [hlen4] at hbn4
          have hgN4 := hcell (hO.1.trans p3) hgj
          have cN4 := Ints.get ((hIj.pre hO.1).pre p3) (k := k) (by omega)
          rw [Nat.zero_add] at cN4
          change getCell P3 wj k = some (.I (atT T j k)) at cN4
          simp (disch := omega) only [f0, f3, f4, f5, f6, f7, f8, f9, hbn4, hgN4, cN4, hib, hjb, hkb, hlb, Nat.mul_one, Nat.zero_add, ↓SXd, SXu, slBounds, ↓sop, ↓aop, ↓reduceIte, LV.cells, AOp.dst, LV.I, LV.B, LV.U, LV.S, LV.nil, Nat.reduceEqDiff, Nat.reduceAdd, Nat.reduceMul, Nat.reduceSub, Nat.reduceLeDiff, Nat.reduceBEq, Nat.reduceDiv, Nat.reduceMod, Int.reduceToNat, Int.reduceLT, Int.reduceLE, Int.reduceAdd, Int.reduceSub, Int.reduceMul, Int.reduceEq, Int.reduceNeg, reduceCtorEq, resV, resAll, ARes.ev, LV.flat, ite_true, ite_false, exists_eq_left', exists_eq_left, keyOf, implies_true, fillC, capOf]
          refine memK_int Lb4 (by rw [hlen4]; omega) fun P4 k1 k2 k3 => ?_
          have D4 := D3.store (by rw [List.length_set]; omega) hb4 (by simp) k1 k2 k3
          have p4 := pre_step p3 lo4 (j := 0) k1 k3
          clear k1 k2 k3 hbn4 hgN4 cN4
          rw [hsw] at D4
          have hswl : (swT T i j k l).length = T.length := by unfold swT; simp
          have hone : ∀ av : List Nat, (∀ a ∈ av, a < M'.length) → Tab3 (P4 ++ [some (.row [.ref ut 0 (swT T i j k l).length] true 1)]) P4.length [swT T i j k l] av := fun av hav => tab3_one (D4.tabR hav) fun a ha => by have := hav a ha; have := p4.1; omega
          rw [hswl] at hone
          have hout : ∀ av : List Nat, (∀ a ∈ av, a < M.length) → Tab3 (P4 ++ [some (.row [.ref ut 0 T.length] true 1)]) uo acc av := fun av hav => (hO.2.2 av hav).pre (p4.trans (Pre.app _ _))
          simp (disch := omega) only [f0, f3, f4, f5, f6, f7, f8, f9, ↓SXd, SXu, slBounds, ↓sop, ↓aop, ↓reduceIte, LV.cells, AOp.dst, LV.I, LV.B, LV.U, LV.S, LV.nil, Nat.reduceEqDiff, Nat.reduceAdd, Nat.reduceMul, Nat.reduceSub, Nat.reduceLeDiff, Nat.reduceBEq, Nat.reduceDiv, Nat.reduceMod, Int.reduceToNat, Int.reduceLT, Int.reduceLE, Int.reduceAdd, Int.reduceSub, Int.reduceMul, Int.reduceEq, Int.reduceNeg, reduceCtorEq, resV, resAll, ARes.ev, LV.flat, ite_true, ite_false, exists_eq_left', exists_eq_left, keyOf, implies_true, fillC, capOf]
          have huoM := hO.2.1
          have huol : uo < M'.length := (hO.2.2 [] (by simp)).lt
          have hp4l := p4.1
          refine appendK_tab3 (L2 := [swT T i j k l]) (hout [] (by simp)) (hone [uo] (by simpa using huol)) (by simp only [List.length_singleton]; omega) fun u6 N6 l1 l2 l3 l4 => ?_
          simp only [List.length_append, List.length_singleton] at l1 l3 l4
          simp (disch := omega) only [f0, f3, f4, f5, f6, f7, f8, f9, ↓SXd, SXu, slBounds, ↓sop, ↓aop, ↓reduceIte, LV.cells, AOp.dst, LV.I, LV.B, LV.U, LV.S, LV.nil, Nat.reduceEqDiff, Nat.reduceAdd, Nat.reduceMul, Nat.reduceSub, Nat.reduceLeDiff, Nat.reduceBEq, Nat.reduceDiv, Nat.reduceMod, Int.reduceToNat, Int.reduceLT, Int.reduceLE, Int.reduceAdd, Int.reduceSub, Int.reduceMul, Int.reduceEq, Int.reduceNeg, reduceCtorEq, resV, resAll, ARes.ev, LV.flat, ite_true, ite_false, exists_eq_left', exists_eq_left, keyOf, implies_true, fillC, capOf]
          refine ⟨q4 - 1, by omega, l + 1, u6, by omega, by omega, ⟨⟨by omega, fun w hw => ?_⟩, by omega, fun av hav => ?_⟩, f0, ?_, f4, f5, f6, eqI (natI _)⟩
          · rw [l4 w (by omega) (by omega), List.getElem?_append_left (by omega)]
            exact (hO.1.trans p4).2 w hw
          · rw [hsL2]
            refine l2 av (hout av hav) (hone (uo :: av) fun a ha => ?_) fun a ha => ?_
            · rcases List.mem_cons.1 ha with rfl | ha
              · exact huol
              · have := hav a ha; omega
            · have := hav a ha
              simp only [List.length_append, List.length_singleton]; omega
          · rw [hsL2]; simp only [List.length_append, List.length_singleton]; rfl
    · have hc : ¬ CondS T i j k l := fun h => e2 h.2.1
      rw [if_neg hc, List.append_nil] at hsL2
      simp (disch := omega) only [f0, f3, f4, f5, f6, f7, e1, e2, hgi', hgj', cik, cil, cjk, cjl, hib, hjb, hkb, hlb, Nat.mul_one, Nat.zero_add, ↓SXd, SXu, slBounds, ↓sop, ↓aop, ↓reduceIte, LV.cells, AOp.dst, LV.I, LV.B, LV.U, LV.S, LV.nil, Nat.reduceEqDiff, Nat.reduceAdd, Nat.reduceMul, Nat.reduceSub, Nat.reduceLeDiff, Nat.reduceBEq, Nat.reduceDiv, Nat.reduceMod, Int.reduceToNat, Int.reduceLT, Int.reduceLE, Int.reduceAdd, Int.reduceSub, Int.reduceMul, Int.reduceEq, Int.reduceNeg, reduceCtorEq, resV, resAll, ARes.ev, LV.flat, ite_true, ite_false, exists_eq_left', exists_eq_left, keyOf, implies_true, fillC, capOf]
      exact ⟨q4 - 1, by omega, l + 1, uo, by omega, by omega, by rw [hsL2]; exact hO, f0, by rw [hsL2]; exact f3, f4, f5, f6, eqI (natI _)⟩
  · have hc : ¬ CondS T i j k l := fun h => e1 h.1
    rw [if_neg hc, List.append_nil] at hsL2
    simp (disch := omega) only [f0, f3, f4, f5, f6, f7, e1, hgi', hgj', cik, cil, cjk, cjl, hib, hjb, hkb, hlb, Nat.mul_one, Nat.zero_add, ↓SXd, SXu, slBounds, ↓sop, ↓aop, ↓reduceIte, LV.cells, AOp.dst, LV.I, LV.B, LV.U, LV.S, LV.nil, Nat.reduceEqDiff, Nat.reduceAdd, Nat.reduceMul, Nat.reduceSub, Nat.reduceLeDiff, Nat.reduceBEq, Nat.reduceDiv, Nat.reduceMod, Int.reduceToNat, Int.reduceLT, Int.reduceLE, Int.reduceAdd, Int.reduceSub, Int.reduceMul, Int.reduceEq, Int.reduceNeg, reduceCtorEq, resV, resAll, ARes.ev, LV.flat, ite_true, ite_false, exists_eq_left', exists_eq_left, keyOf, implies_true, fillC, capOf]
    exact ⟨q4 - 1, by omega, l + 1, uo, by omega, by omega, by rw [hsL2]; exact hO, f0, by rw [hsL2]; exact f3, f4, f5, f6, eqI (natI _)⟩
end Go.Ab

/- Plain words: the list of all tables behind a switch. -/
namespace Go.Ab
open Go
set_option linter.unusedSimpArgs false
set_option linter.unusedVariables false

theorem mem_next {m n : Nat} {T U : List (List Int)} (hT : TabOK m n T) : U ∈ nextTL m n T ↔ SwG m n T U := by
  unfold nextTL
  constructor
  · intro h
    obtain ⟨i, h1, h⟩ := List.mem_flatMap.1 h
    obtain ⟨j, h2, h⟩ := List.mem_flatMap.1 h
    unfold nxJ at h
    split at h
    · rename_i hij
      obtain ⟨k, h3, h⟩ := List.mem_flatMap.1 h
      obtain ⟨l, h4, h⟩ := List.mem_flatMap.1 h
      unfold nxL at h
      split at h
      · rename_i hkl
        split at h
        · rename_i hc
          rw [List.mem_singleton] at h
          exact ⟨hT, i, j, k, l, hij, List.mem_range.1 h2, hkl, List.mem_range.1 h4, hc.1, hc.2.1, hc.2.2, h⟩
        · simp at h
      · simp at h
    · simp at h
  · rintro ⟨_, i, j, k, l, h1, h2, h3, h4, e1, e2, e3, rfl⟩
    refine List.mem_flatMap.2 ⟨i, List.mem_range.2 (by omega), List.mem_flatMap.2 ⟨j, List.mem_range.2 h2, ?_⟩⟩
    unfold nxJ
    rw [if_pos h1]
    refine List.mem_flatMap.2 ⟨k, List.mem_range.2 (by omega), List.mem_flatMap.2 ⟨l, List.mem_range.2 h4, ?_⟩⟩
    unfold nxL
    rw [if_pos h3, if_pos ⟨e1, e2, e3⟩]
    simp
theorem next_len {m n : Nat} {T : List (List Int)} (hm : m ≤ 4) (hn : n ≤ 4) : (nextTL m n T).length ≤ 256 := by
  have bK : ∀ i j k, (nxK n T i j k).length ≤ 4 := fun i j k => by
    have := flat_bnd (f := nxL T i j k) (b := 1) (fun l => nxL_len) n
    unfold nxK; omega
  have bJ : ∀ i j, (nxJ n T i j).length ≤ 16 := fun i j => by
    have := flat_bnd (f := nxK n T i j) (b := 4) (fun k => bK i j k) n
    unfold nxJ
    split
    · omega
    · simp
  have bI : ∀ i, (nxI m n T i).length ≤ 64 := fun i => by
    have := flat_bnd (f := nxJ n T i) (b := 16) (fun j => bJ i j) m
    unfold nxI; omega
  have := flat_bnd (f := nxI m n T) (b := 64) bI m
  unfold nextTL; omega
/-- A queue of different tables is no longer than there are numbers of them. -/
theorem queue_len {m n : Nat} (hm : m ≤ 4) (hn : n ≤ 4) {L : List (List (List Int))} (hnd : L.Nodup) (hL : ∀ T ∈ L, TabOK m n T) : L.length ≤ 65536 := by
  have h16 : m * n ≤ 4 * 4 := Nat.mul_le_mul hm hn
  have hfl : ∀ T ∈ L, T.flatten.length = m * n := fun T hT => by rw [flat_len (n := n) fun r hr => ((hL T hT).2 r hr).1, (hL T hT).1]
  have hbit : ∀ T ∈ L, ∀ a ∈ T.flatten, a = 0 ∨ a = 1 := fun T hT => bits_flat (n := n) fun r hr => (hL T hT).2 r hr
  have h1 : (L.map fun T => (keyTL T.flatten).toNat).Nodup := by
    refine List.pairwise_map.2 (hnd.imp_of_mem fun {a b} ha hb hne e => hne ?_)
    have k1 := keyTL_bound _ (hfl a ha) (hbit a ha)
    have k2 := keyTL_bound _ (hfl b hb) (hbit b hb)
    have e2 := keyTL_inj _ (hfl a ha) (hfl b hb) (hbit a ha) (hbit b hb) (by omega)
    exact flat_inj (n := n) (by rw [(hL a ha).1, (hL b hb).1]) (fun r hr => ((hL a ha).2 r hr).1) (fun r hr => ((hL b hb).2 r hr).1) e2
  have h2 := sub_len (l' := List.range 65536) h1 List.nodup_range fun q hq => by
    obtain ⟨T, hT, rfl⟩ := List.mem_map.1 hq
    have k1 := keyTL_bound _ (hfl T hT) (hbit T hT)
    have k3 : (2 : Int) ^ (m * n) ≤ 2 ^ 16 := by
      have h3 : ((2 ^ (m * n) : Nat) : Int) ≤ ((2 ^ 16 : Nat) : Int) := by
        have : 2 ^ (m * n) ≤ 2 ^ 16 := Nat.pow_le_pow_right (by omega) (by omega)
        omega
      simpa using h3
    exact List.mem_range.2 (by omega)
  rw [List.length_map, List.length_range] at h2
  exact h2
end Go.Ab

/- Contracts: the least number of switches (reference). -/
namespace Go.Ab
open Go
set_option linter.unusedSimpArgs false
set_option linter.unusedVariables false
set_option maxRecDepth 20000

/-- The least number of steps. -/
def FarIs (m n : Nat) (T U : List (List Int)) (k : Nat) : Prop := WayN (SwG m n) k T U ∧ ∀ j, j < k → ¬ WayN (SwG m n) j T U
def keyOfT (T : List (List Int)) : Int := keyTL T.flatten
def idxL (Q : List (List (List Int) × Nat)) : List (List (List Int)) := Q.map (·.1)
def stpL (Q : List (List (List Int) × Nat)) : List Int := Q.map fun p => (p.2 : Int)
def keyQ (Q : List (List (List Int) × Nat)) : List Int := Q.map fun p => keyOfT p.1
theorem key_eq {m n : Nat} {T U : List (List Int)} (hT : TabOK m n T) (hU : TabOK m n U) : keyOfT T = keyOfT U ↔ T = U := by
  have f1 : T.flatten.length = m * n := by rw [flat_len (n := n) fun r hr => (hT.2 r hr).1, hT.1]
  have f2 : U.flatten.length = m * n := by rw [flat_len (n := n) fun r hr => (hU.2 r hr).1, hU.1]
  constructor
  · intro e
    have := keyTL_inj _ f1 f2 (bits_flat (n := n) fun r hr => hT.2 r hr) (bits_flat (n := n) fun r hr => hU.2 r hr) e
    exact flat_inj (n := n) (by rw [hT.1, hU.1]) (fun r hr => (hT.2 r hr).1) (fun r hr => (hU.2 r hr).1) this
  · rintro rfl; rfl
theorem way_ok {m n : Nat} {T : List (List Int)} (hT : TabOK m n T) : ∀ {k : Nat} {U : List (List Int)}, WayN (SwG m n) k T U → TabOK m n U
  | 0, U, h => by cases h; exact hT
  | k + 1, U, ⟨c, _, h⟩ => h.ok
/-- A table that came in, among blocks that are all newer. -/
theorem TabV.tabR {M : Mem} {t : Nat} {L : List (List Int)} {av : List Nat} (h : TabV M (.ref t 0 L.length) L) (hr : ∀ r ∈ L, 0 < r.length) (ha : ∀ a ∈ av, M.length ≤ a) : TabR M t L av := by
  rcases h with ⟨h, _⟩ | ⟨t', refs, e, h1, h2, h3⟩
  · cases h
  · cases e
    have htl := h1.lt
    refine ⟨refs, h1, h2, fun hm => by have := ha _ hm; omega, fun i hi => ?_⟩
    obtain ⟨u, q1, q2⟩ := h3 i hi
    have hul := q2.lt
    refine ⟨u, fun e => ?_, fun hm => by have := ha _ hm; omega, q1, q2⟩
    subst e
    have hrow := hr _ (getD_mem' (d := []) hi)
    have c1 := Ints.get q2 (k := 0) hrow
    rw [Nat.zero_add] at c1
    obtain ⟨w, q3, q4⟩ := h3 0 (by omega)
    have c2 := h1.cell (o := 0)
    rw [c1, q3] at c2
    cases c2
theorem TabR.toV {N : Mem} {t : Nat} {L : List (List Int)} {av : List Nat} (h : TabR N t L av) : TabV N (.ref t 0 L.length) L := by
  obtain ⟨refs, h1, h2, _, h4⟩ := h
  exact .inr ⟨t, refs, rfl, h1, h2, fun i hi => by obtain ⟨u, _, _, q3, q4⟩ := h4 i hi; exact ⟨u, q3, q4⟩⟩
def FarS (m n : Nat) (M M' : Mem) (T : List (List Int)) (Q : List (List (List Int) × Nat)) (i tl ts tk : Nat) : Prop :=
  BfsInv (SwG m n) T Q i ∧ Pre M M' ∧ (M.length ≤ tl ∧ M.length ≤ ts ∧ M.length ≤ tk ∧ tl ≠ ts ∧ tl ≠ tk ∧ ts ≠ tk) ∧ Tab3 M' tl (idxL Q) [ts, tk] ∧ Live M' ts (.row (intL (stpL Q)) true 1) ∧ Live M' tk (.row (intL (keyQ Q)) true 1) ∧ ∀ v k, (v, k) ∈ Q → k < Q.length
theorem h_l4Far {m n uf ut : Nat} {T U : List (List Int)} {M : Mem} (hT : TabV M (.ref uf 0 T.length) T) (hU : TabV M (.ref ut 0 U.length) U) (hTO : TabOK m n T) (hUO : TabOK m n U) (hm : 1 ≤ m ∧ m ≤ 4) (hn : 1 ≤ n ∧ n ≤ 4) (hs : SameS m n T U) :
    CallsR PG F.spec_l4Far [.ref uf 0 T.length, .ref ut 0 U.length] M fun v N => ∃ k : Nat, v = .I (k : Nat) ∧ k ≤ 65536 ∧ FarIs m n T U k ∧ Pre M N := by
  have hTm := hTO.1
  have hTR := hT.tabR (av := [M.length + 1, M.length + 2]) (fun r hr => by have := (hTO.2 r hr).1; omega) (by simp)
  have hkT := fun {Z : Mem} (hp : Pre M Z) => h_l4Key (hT.pre hp) (fun r hr => hTO.2 r hr) hn.2 (by omega)
  have hkU := fun {Z : Mem} (hp : Pre M Z) => h_l4Key (hU.pre hp) (fun r hr => hUO.2 r hr) hn.2 (by have := hUO.1; omega)
  refine callsR_run K.spec_l4Far rfl ?_
  simp (disch := omega) only [C.spec_l4Far, ↓SXd, SXu, slBounds, ↓sop, ↓aop, ↓reduceIte, LV.cells, AOp.dst, LV.I, LV.B, LV.U, LV.S, LV.nil, Nat.reduceEqDiff, Nat.reduceAdd, Nat.reduceMul, Nat.reduceSub, Nat.reduceLeDiff, Nat.reduceBEq, Nat.reduceDiv, Nat.reduceMod, Int.reduceToNat, Int.reduceLT, Int.reduceLE, Int.reduceAdd, Int.reduceSub, Int.reduceMul, Int.reduceEq, Int.reduceNeg, reduceCtorEq, resV, resAll, ARes.ev, LV.flat, ite_true, ite_false, exists_eq_left', exists_eq_left, keyOf, implies_true, fillC, capOf]
  refine callK_of (hkT (Pre.app _ _)) ?_
  simp (disch := omega) only [↓SXd, SXu, slBounds, ↓sop, ↓aop, ↓reduceIte, LV.cells, AOp.dst, LV.I, LV.B, LV.U, LV.S, LV.nil, Nat.reduceEqDiff, Nat.reduceAdd, Nat.reduceMul, Nat.reduceSub, Nat.reduceLeDiff, Nat.reduceBEq, Nat.reduceDiv, Nat.reduceMod, Int.reduceToNat, Int.reduceLT, Int.reduceLE, Int.reduceAdd, Int.reduceSub, Int.reduceMul, Int.reduceEq, Int.reduceNeg, reduceCtorEq, resV, resAll, ARes.ev, LV.flat, ite_true, ite_false, exists_eq_left', exists_eq_left, keyOf, implies_true, fillC, capOf]
  have hQT : ∀ {Q : List (List (List Int) × Nat)} {i : Nat}, BfsInv (SwG m n) T Q i → ∀ V ∈ idxL Q, TabOK m n V := fun {Q i} h V hV => by
    obtain ⟨⟨V', k⟩, h1, rfl⟩ := List.mem_map.1 hV
    exact way_ok hTO (h.way V' k h1)
  have hQl : ∀ {Q : List (List (List Int) × Nat)} {i : Nat}, BfsInv (SwG m n) T Q i → Q.length ≤ 65536 := fun {Q i} h => by
    have := queue_len hm.2 hn.2 h.nod (hQT h)
    rwa [List.length_map] at this
  refine ev_loop (fun q fr M' => ∃ (Q : List (List (List Int) × Nat)) (i tl ts tk : Nat), i + q = 65537 ∧ i ≤ Q.length ∧ FarS m n M M' T Q i tl ts tk ∧ (∀ j v k, j < i → Q[j]? = some (v, k) → v ≠ U) ∧ fr 1 = .ref ut 0 U.length ∧ fr 5 = .ref tl 0 (idxL Q).length ∧ fr 6 = .ref ts 0 (stpL Q).length ∧ fr 7 = .ref tk 0 (keyQ Q).length ∧ fr 8 = .I i) 65537
    ⟨[(T, 0)], 0, M.length, M.length + 1, M.length + 2, by omega, by omega, ⟨BfsInv.start, Pre.app _ _, by omega, ?_, Live.newj (j := 1) rfl, Live.newj (j := 2) rfl, fun v k h => by simp at h; simp; omega⟩, fun j v k h => by omega, rfl, rfl, rfl, rfl, rfl⟩ ?_
  · refine ⟨[.ref uf 0 T.length], Live.new, rfl, by simp, fun i hi => ?_⟩
    simp [idxL] at hi
    subst hi
    have hul := hTR.lt
    obtain ⟨_, _, _, hua, _⟩ := id hTR
    refine ⟨uf, by omega, hua, rfl, hTR.keep (fun q _ hq => List.getElem?_append_left hq) fun q hq => ?_⟩
    rcases List.mem_cons.1 hq with rfl | hq
    · exact .inr (Nat.le_refl _)
    · exact .inl hq
  rintro q fr M' ⟨Q, i, tl, ts, tk, hq, hiQ, ⟨hB, hpre, hnew, hL, hS, hK, hkl⟩, hno, f1, f5, f6, f7, f8⟩
  have hQ6 := hQl hB
  have hl1 : (idxL Q).length = Q.length := List.length_map _
  have hl2 : (stpL Q).length = Q.length := List.length_map _
  have hl3 : (keyQ Q).length = Q.length := List.length_map _
  rw [hl1] at f5
  rw [hl2] at f6
  rw [hl3] at f7
  simp (disch := omega) only [f1, f5, f6, f7, f8, ↓SXd, SXu, slBounds, ↓sop, ↓aop, ↓reduceIte, LV.cells, AOp.dst, LV.I, LV.B, LV.U, LV.S, LV.nil, Nat.reduceEqDiff, Nat.reduceAdd, Nat.reduceMul, Nat.reduceSub, Nat.reduceLeDiff, Nat.reduceBEq, Nat.reduceDiv, Nat.reduceMod, Int.reduceToNat, Int.reduceLT, Int.reduceLE, Int.reduceAdd, Int.reduceSub, Int.reduceMul, Int.reduceEq, Int.reduceNeg, reduceCtorEq, resV, resAll, ARes.ev, LV.flat, ite_true, ite_false, exists_eq_left', exists_eq_left, keyOf, implies_true, fillC, capOf]
  refine condC_dec (fun hlt => ?_) (fun hlt => ?_)
  rotate_left
  · have he : i = Q.length := by omega
    subst he
    obtain ⟨k, hk⟩ := connected (farT m n T U).toNat hTO hUO hs (by have := far_pos (m := m) (n := n) (T := T) (U := U); omega)
    obtain ⟨⟨V, k'⟩, h1, h2⟩ := List.mem_map.1 (hB.all k U hk)
    simp at h2
    subst h2
    obtain ⟨j, hj⟩ := List.getElem?_of_mem h1
    have hjl : j < Q.length := by
      rcases Nat.lt_or_ge j Q.length with h | h
      · exact h
      · rw [List.getElem?_eq_none h] at hj; cases hj
    exact absurd rfl (hno j V k' hjl hj)
  have hil : i < Q.length := by omega
  obtain ⟨⟨V, k⟩, hQi⟩ : ∃ p, Q[i]? = some p := ⟨Q[i], List.getElem?_eq_getElem hil⟩
  have hVi : (idxL Q).getD i [] = V := by
    unfold idxL
    simp only [List.getD_eq_getElem?_getD, List.getElem?_map, hQi]; rfl
  have hki : (stpL Q).getD i 0 = (k : Nat) := by
    unfold stpL
    simp only [List.getD_eq_getElem?_getD, List.getElem?_map, hQi]; rfl
  have hVO : TabOK m n V := hQT hB V (List.mem_map.2 ⟨_, List.mem_of_getElem? hQi, rfl⟩)
  obtain ⟨w, hgw, hTw⟩ := hL.at (i := i) (by omega)
  rw [hVi] at hgw hTw
  have hVV := hTw.toV
  have hkV := h_l4Key hVV (fun r hr => hVO.2 r hr) hn.2 (by have := hVO.1; omega)
  have hgs := Ints.get hS.has (k := i) (by omega)
  rw [Nat.zero_add, hki] at hgs
  have hib : (i : Int) < (Q.length : Nat) := by omega
  simp (disch := omega) only [f1, f5, f6, f7, f8, hgw, hib, Nat.mul_one, Nat.zero_add, ↓SXd, SXu, slBounds, ↓sop, ↓aop, ↓reduceIte, LV.cells, AOp.dst, LV.I, LV.B, LV.U, LV.S, LV.nil, Nat.reduceEqDiff, Nat.reduceAdd, Nat.reduceMul, Nat.reduceSub, Nat.reduceLeDiff, Nat.reduceBEq, Nat.reduceDiv, Nat.reduceMod, Int.reduceToNat, Int.reduceLT, Int.reduceLE, Int.reduceAdd, Int.reduceSub, Int.reduceMul, Int.reduceEq, Int.reduceNeg, reduceCtorEq, resV, resAll, ARes.ev, LV.flat, ite_true, ite_false, exists_eq_left', exists_eq_left, keyOf, implies_true, fillC, capOf]
  refine callK_of hkV ?_
  simp (disch := omega) only [f1, f5, f6, f7, f8, ↓SXd, SXu, slBounds, ↓sop, ↓aop, ↓reduceIte, LV.cells, AOp.dst, LV.I, LV.B, LV.U, LV.S, LV.nil, Nat.reduceEqDiff, Nat.reduceAdd, Nat.reduceMul, Nat.reduceSub, Nat.reduceLeDiff, Nat.reduceBEq, Nat.reduceDiv, Nat.reduceMod, Int.reduceToNat, Int.reduceLT, Int.reduceLE, Int.reduceAdd, Int.reduceSub, Int.reduceMul, Int.reduceEq, Int.reduceNeg, reduceCtorEq, resV, resAll, ARes.ev, LV.flat, ite_true, ite_false, exists_eq_left', exists_eq_left, keyOf, implies_true, fillC, capOf]
  refine callK_of (hkU hpre) ?_
  by_cases hVU : V = U
  · subst hVU
    simp (disch := omega) only [f1, f5, f6, f7, f8, hgs, hib, Nat.mul_one, Nat.zero_add, ↓SXd, SXu, slBounds, ↓sop, ↓aop, ↓reduceIte, LV.cells, AOp.dst, LV.I, LV.B, LV.U, LV.S, LV.nil, Nat.reduceEqDiff, Nat.reduceAdd, Nat.reduceMul, Nat.reduceSub, Nat.reduceLeDiff, Nat.reduceBEq, Nat.reduceDiv, Nat.reduceMod, Int.reduceToNat, Int.reduceLT, Int.reduceLE, Int.reduceAdd, Int.reduceSub, Int.reduceMul, Int.reduceEq, Int.reduceNeg, reduceCtorEq, resV, resAll, ARes.ev, LV.flat, ite_true, ite_false, exists_eq_left', exists_eq_left, keyOf, implies_true, fillC, capOf]
    have hw6 : k ≤ 65536 := by have := hkl V k (List.mem_of_getElem? hQi); omega
    exact ⟨k, rfl, hw6, hB.least hQi, hpre⟩
  · have hkne : ¬ keyTL V.flatten = keyTL U.flatten := fun e => hVU ((key_eq hVO hUO).1 e)
    simp (disch := omega) only [f1, f5, f6, f7, f8, hkne, hgw, hib, Nat.mul_one, Nat.zero_add, ↓SXd, SXu, slBounds, ↓sop, ↓aop, ↓reduceIte, LV.cells, AOp.dst, LV.I, LV.B, LV.U, LV.S, LV.nil, Nat.reduceEqDiff, Nat.reduceAdd, Nat.reduceMul, Nat.reduceSub, Nat.reduceLeDiff, Nat.reduceBEq, Nat.reduceDiv, Nat.reduceMod, Int.reduceToNat, Int.reduceLT, Int.reduceLE, Int.reduceAdd, Int.reduceSub, Int.reduceMul, Int.reduceEq, Int.reduceNeg, reduceCtorEq, resV, resAll, ARes.ev, LV.flat, ite_true, ite_false, exists_eq_left', exists_eq_left, keyOf, implies_true, fillC, capOf]
    refine callR_of (h_l4Next hVV hVO hm hn.2) ?_
    rintro _ N ⟨uo, rfl, hpN, huo, hTN⟩
    have hMl := hpre.1
    have hNl := hpN.1
    obtain ⟨n1, n2, n3, n4, n5, n6⟩ := hnew
    have hX0 := hTN [tl, ts, tk] (by have := hL.lt; have := hS.lt; have := hK.lt; simp; omega)
    have hnx := fun W => mem_next (U := W) hVO
    have hnl := next_len (T := V) hm.2 hn.2
    generalize nextTL m n V = nx at hX0 hnx hnl ⊢
    simp (disch := omega) only [f1, f5, f6, f7, f8, ↓SXd, SXu, slBounds, ↓sop, ↓aop, ↓reduceIte, LV.cells, AOp.dst, LV.I, LV.B, LV.U, LV.S, LV.nil, Nat.reduceEqDiff, Nat.reduceAdd, Nat.reduceMul, Nat.reduceSub, Nat.reduceLeDiff, Nat.reduceBEq, Nat.reduceDiv, Nat.reduceMod, Int.reduceToNat, Int.reduceLT, Int.reduceLE, Int.reduceAdd, Int.reduceSub, Int.reduceMul, Int.reduceEq, Int.reduceNeg, reduceCtorEq, resV, resAll, ARes.ev, LV.flat, ite_true, ite_false, exists_eq_left', exists_eq_left, keyOf, implies_true, fillC, capOf]
    refine ev_loop (fun q2 fr M2 => ∃ (Q : List (List (List Int) × Nat)) (r tl ts tk : Nat), r + q2 = nx.length ∧ FarS m n M M2 T Q i tl ts tk ∧ Q[i]? = some (V, k) ∧ i < Q.length ∧ (∀ j v k, j < i → Q[j]? = some (v, k) → v ≠ U) ∧ (∀ p, p < r → nx.getD p [] ∈ idxL Q) ∧ Tab3 M2 uo nx [tl, ts, tk] ∧
      fr 1 = .ref ut 0 U.length ∧ fr 5 = .ref tl 0 Q.length ∧ fr 6 = .ref ts 0 Q.length ∧ fr 7 = .ref tk 0 Q.length ∧ fr 8 = .I i ∧ fr 9 = .ref uo 0 nx.length ∧ fr 10 = .I r) nx.length
      ⟨Q, 0, tl, ts, tk, by omega, ⟨hB, hpre.trans hpN, ⟨n1, n2, n3, n4, n5, n6⟩, hL.pre hpN, hS.pre hpN, hK.pre hpN, hkl⟩, hQi, hil, hno, fun p hp => by omega, hX0, f1, f5, f6, f7, f8, rfl, rfl⟩ ?_
    clear f1 f5 f6 f7 f8 hB hpre hL hS hK hkl hno hQi hil hX0 hTN hVV hkV hgw hTw hgs hib hl1 hl2 hl3 hVi hki hQ6 hlt n1 n2 n3 n4 n5 n6
    rintro q2 fr M2 ⟨Q, r, tl, ts, tk, hr, ⟨hB, hpre, hnew, hL, hS, hK, hkl⟩, hQi, hil, hno, hdn, hX, f1, f5, f6, f7, f8, f9, f10⟩
    have hQ6 := hQl hB
    have hl1 : (idxL Q).length = Q.length := List.length_map _
    have hl2 : (stpL Q).length = Q.length := List.length_map _
    have hl3 : (keyQ Q).length = Q.length := List.length_map _
    simp (disch := omega) only [f1, f5, f6, f7, f8, f9, f10, ↓SXd, SXu, slBounds, ↓sop, ↓aop, ↓reduceIte, LV.cells, AOp.dst, LV.I, LV.B, LV.U, LV.S, LV.nil, Nat.reduceEqDiff, Nat.reduceAdd, Nat.reduceMul, Nat.reduceSub, Nat.reduceLeDiff, Nat.reduceBEq, Nat.reduceDiv, Nat.reduceMod, Int.reduceToNat, Int.reduceLT, Int.reduceLE, Int.reduceAdd, Int.reduceSub, Int.reduceMul, Int.reduceEq, Int.reduceNeg, reduceCtorEq, resV, resAll, ARes.ev, LV.flat, ite_true, ite_false, exists_eq_left', exists_eq_left, keyOf, implies_true, fillC, capOf]
    refine condC_dec (fun hlt => ?_) (fun hlt => ?_)
    rotate_left
    · have : r = nx.length := by omega
      subst this
      simp (disch := omega) only [f1, f5, f6, f7, f8, f9, f10, ↓SXd, SXu, slBounds, ↓sop, ↓aop, ↓reduceIte, LV.cells, AOp.dst, LV.I, LV.B, LV.U, LV.S, LV.nil, Nat.reduceEqDiff, Nat.reduceAdd, Nat.reduceMul, Nat.reduceSub, Nat.reduceLeDiff, Nat.reduceBEq, Nat.reduceDiv, Nat.reduceMod, Int.reduceToNat, Int.reduceLT, Int.reduceLE, Int.reduceAdd, Int.reduceSub, Int.reduceMul, Int.reduceEq, Int.reduceNeg, reduceCtorEq, resV, resAll, ARes.ev, LV.flat, ite_true, ite_false, exists_eq_left', exists_eq_left, keyOf, implies_true, fillC, capOf]
      refine ⟨q - 1, by omega, Q, i + 1, tl, ts, tk, by omega, by omega, ⟨hB.next hQi fun W hW => ?_, hpre, hnew, hL, hS, hK, hkl⟩, fun j v k' hj hv => ?_, f1, by rw [hl1]; exact f5, by rw [hl2]; exact f6, by rw [hl3]; exact f7, eqI (natI _)⟩
      · have := (hnx W).2 hW
        obtain ⟨p, hp, he⟩ := List.mem_iff_getElem.1 this
        have h2 := hdn p hp
        simp only [List.getD_eq_getElem?_getD, List.getElem?_eq_getElem hp, Option.getD_some, he] at h2
        exact h2
      · rcases Nat.lt_or_ge j i with h | h
        · exact hno j v k' h hv
        · have e : j = i := by omega
          subst e
          rw [hQi] at hv
          cases hv
          exact hVU
    have hrl : r < nx.length := by omega
    obtain ⟨w, hgw, hTw⟩ := hX.at hrl
    have hWG := (hnx _).1 (getD_mem' (d := []) hrl)
    have hdn2 : nx.getD r [] ∈ idxL Q → ∀ p, p < r + 1 → nx.getD p [] ∈ idxL Q := fun h p hp => by
      rcases Nat.lt_or_ge p r with h1 | h1
      · exact hdn p h1
      · rw [show p = r by omega]; exact h
    have hWO := hWG.ok
    have hkW := h_l4Key hTw.toV (fun r hr => hWO.2 r hr) hn.2 (by have := hWO.1; omega)
    have hhas := h_l1Has (n := keyTL (nx.getD r []).flatten) hK.has (by omega)
    rw [hl3] at hhas
    have hrb : (r : Int) < (nx.length : Nat) := by omega
    simp (disch := omega) only [f1, f5, f6, f7, f8, f9, f10, hgw, hrb, Nat.mul_one, Nat.zero_add, ↓SXd, SXu, slBounds, ↓sop, ↓aop, ↓reduceIte, LV.cells, AOp.dst, LV.I, LV.B, LV.U, LV.S, LV.nil, Nat.reduceEqDiff, Nat.reduceAdd, Nat.reduceMul, Nat.reduceSub, Nat.reduceLeDiff, Nat.reduceBEq, Nat.reduceDiv, Nat.reduceMod, Int.reduceToNat, Int.reduceLT, Int.reduceLE, Int.reduceAdd, Int.reduceSub, Int.reduceMul, Int.reduceEq, Int.reduceNeg, reduceCtorEq, resV, resAll, ARes.ev, LV.flat, ite_true, ite_false, exists_eq_left', exists_eq_left, keyOf, implies_true, fillC, capOf]
    refine callK_of hkW ?_
    simp (disch := omega) only [f1, f5, f6, f7, f8, f9, f10, ↓SXd, SXu, slBounds, ↓sop, ↓aop, ↓reduceIte, LV.cells, AOp.dst, LV.I, LV.B, LV.U, LV.S, LV.nil, Nat.reduceEqDiff, Nat.reduceAdd, Nat.reduceMul, Nat.reduceSub, Nat.reduceLeDiff, Nat.reduceBEq, Nat.reduceDiv, Nat.reduceMod, Int.reduceToNat, Int.reduceLT, Int.reduceLE, Int.reduceAdd, Int.reduceSub, Int.reduceMul, Int.reduceEq, Int.reduceNeg, reduceCtorEq, resV, resAll, ARes.ev, LV.flat, ite_true, ite_false, exists_eq_left', exists_eq_left, keyOf, implies_true, fillC, capOf]
    refine callK_of hhas ?_
    by_cases hin : keyTL (nx.getD r []).flatten ∈ keyQ Q
    · rw [decide_eq_true hin]
      have hWin : nx.getD r [] ∈ idxL Q := by
        obtain ⟨⟨W', k'⟩, h1, h2⟩ := List.mem_map.1 hin
        have h3 : W' ∈ idxL Q := List.mem_map.2 ⟨_, h1, rfl⟩
        rw [← (key_eq (hQT hB W' h3) hWO).1 h2]; exact h3
      simp (disch := omega) only [f1, f5, f6, f7, f8, f9, f10, ↓SXd, SXu, slBounds, ↓sop, ↓aop, ↓reduceIte, LV.cells, AOp.dst, LV.I, LV.B, LV.U, LV.S, LV.nil, Nat.reduceEqDiff, Nat.reduceAdd, Nat.reduceMul, Nat.reduceSub, Nat.reduceLeDiff, Nat.reduceBEq, Nat.reduceDiv, Nat.reduceMod, Int.reduceToNat, Int.reduceLT, Int.reduceLE, Int.reduceAdd, Int.reduceSub, Int.reduceMul, Int.reduceEq, Int.reduceNeg, reduceCtorEq, resV, resAll, ARes.ev, LV.flat, ite_true, ite_false, exists_eq_left', exists_eq_left, keyOf, implies_true, fillC, capOf]
      exact ⟨q2 - 1, by omega, Q, r + 1, tl, ts, tk, by omega, ⟨hB, hpre, hnew, hL, hS, hK, hkl⟩, hQi, hil, hno, hdn2 hWin, hX, f1, f5, f6, f7, f8, f9, eqI (natI _)⟩
    · rw [decide_eq_false hin]
      have hWn : nx.getD r [] ∉ Q.map (·.1) := fun h => hin (by
        obtain ⟨p, h1, h2⟩ := List.mem_map.1 h
        exact List.mem_map.2 ⟨p, h1, by show keyOfT p.1 = _; rw [h2]; rfl⟩)
      have hB2 := hB.add hQi hWG hWn
      have f5' : fr 5 = .ref tl 0 (idxL Q).length := by rw [hl1]; exact f5
      have f6' : fr 6 = .ref ts 0 (stpL Q).length := by rw [hl2]; exact f6
      have f7' : fr 7 = .ref tk 0 (keyQ Q).length := by rw [hl3]; exact f7
      have hki : (stpL Q).getD i 0 = (k : Nat) := by
        unfold stpL
        simp only [List.getD_eq_getElem?_getD, List.getElem?_map, hQi]; rfl
      have hkQ := hkl V k (List.mem_of_getElem? hQi)
      obtain ⟨n1, n2, n3, n4, n5, n6⟩ := hnew
      have hLl := hL.lt
      have hSl := hS.lt
      have hKl := hK.lt
      have hMl := hpre.1
      simp (disch := omega) only [f1, f5', f6', f7', f8, f9, f10, ↓SXd, SXu, slBounds, ↓sop, ↓aop, ↓reduceIte, LV.cells, AOp.dst, LV.I, LV.B, LV.U, LV.S, LV.nil, Nat.reduceEqDiff, Nat.reduceAdd, Nat.reduceMul, Nat.reduceSub, Nat.reduceLeDiff, Nat.reduceBEq, Nat.reduceDiv, Nat.reduceMod, Int.reduceToNat, Int.reduceLT, Int.reduceLE, Int.reduceAdd, Int.reduceSub, Int.reduceMul, Int.reduceEq, Int.reduceNeg, reduceCtorEq, resV, resAll, ARes.ev, LV.flat, ite_true, ite_false, exists_eq_left', exists_eq_left, keyOf, implies_true, fillC, capOf]
      refine appendK_int hK (by omega) fun N1 a1 a2 a3 => ?_
      have hL1 : Tab3 N1 tl (idxL Q) [ts, M2.length + 1] := hL.keep (fun q q1 q2 => a3 q (fun e => q1 (by simp [e])) q2) fun q hq => by
        simp at hq
        rcases hq with rfl | rfl
        · exact .inl (by simp)
        · exact .inr (by omega)
      have hX1 : Tab3 N1 uo nx [tl, ts, M2.length + 1] := hX.keep (fun q q1 q2 => a3 q (fun e => q1 (by simp [e])) q2) fun q hq => by
        simp at hq
        rcases hq with rfl | rfl | rfl
        · exact .inl (by simp)
        · exact .inl (by simp)
        · exact .inr (by omega)
      have hS1 := live_step hS n6 a3
      obtain ⟨w1, hgw1, hTw1⟩ := hX1.at hrl
      generalize hWe : nx.getD r [] = W at hgw1 hTw1 hWG hWO hWn hB2 hdn2 a2 hkW hgw hTw hhas hin
      simp (disch := omega) only [f1, f5', f6', f7', f8, f9, f10, hgw1, hrb, Nat.mul_one, Nat.zero_add, ↓SXd, SXu, slBounds, ↓sop, ↓aop, ↓reduceIte, LV.cells, AOp.dst, LV.I, LV.B, LV.U, LV.S, LV.nil, Nat.reduceEqDiff, Nat.reduceAdd, Nat.reduceMul, Nat.reduceSub, Nat.reduceLeDiff, Nat.reduceBEq, Nat.reduceDiv, Nat.reduceMod, Int.reduceToNat, Int.reduceLT, Int.reduceLE, Int.reduceAdd, Int.reduceSub, Int.reduceMul, Int.reduceEq, Int.reduceNeg, reduceCtorEq, resV, resAll, ARes.ev, LV.flat, ite_true, ite_false, exists_eq_left', exists_eq_left, keyOf, implies_true, fillC, capOf]
      have hone := tab3_one (av := [tl, ts, M2.length + 1]) (hTw1.less (by simp_all)) (by simp; omega)
      have hL2 := hL1.pre (Pre.app N1 [some (.row [.ref w1 0 W.length] true 1)])
      refine appendK_tab3 (L2 := [W]) (hL2.less (by simp)) (hone.less (by simp)) (by simp only [List.length_singleton]; omega) fun u6 N2 l1 l2 l3 l4 => ?_
      have hL3 := l2 [ts, M2.length + 1] hL2 hone (by simp; omega)
      simp only [List.length_append, List.length_singleton] at l1 l3 l4
      have hS2 := Live.at (hS1.app (L := [some (.row [.ref w1 0 W.length] true 1)])) (l4 ts (fun e => n4 e.symm) (by omega))
      have hK2 := Live.at (a2.app (L := [some (.row [.ref w1 0 W.length] true 1)])) (l4 (M2.length + 1) (by omega) (by omega))
      have hX2 : Tab3 N2 uo nx [u6, ts, M2.length + 1] := (hX1.pre (Pre.app N1 [some (.row [.ref w1 0 W.length] true 1)])).keep (fun q q1 q2 => l4 q (fun e => q1 (by simp [e])) (by simpa using q2)) fun q hq => by
        simp at hq
        rcases hq with rfl | rfl | rfl
        · rcases l3 with rfl | l3
          · exact .inl (by simp)
          · exact .inr (by simp; omega)
        · exact .inl (by simp)
        · exact .inl (by simp)
      have hgs := Ints.get hS2.has (k := i) (by omega)
      rw [Nat.zero_add, hki] at hgs
      have hib : (i : Int) < ((stpL Q).length : Nat) := by omega
      simp (disch := omega) only [f1, f5', f6', f7', f8, f9, f10, hgs, hib, Nat.mul_one, Nat.zero_add, ↓SXd, SXu, slBounds, ↓sop, ↓aop, ↓reduceIte, LV.cells, AOp.dst, LV.I, LV.B, LV.U, LV.S, LV.nil, Nat.reduceEqDiff, Nat.reduceAdd, Nat.reduceMul, Nat.reduceSub, Nat.reduceLeDiff, Nat.reduceBEq, Nat.reduceDiv, Nat.reduceMod, Int.reduceToNat, Int.reduceLT, Int.reduceLE, Int.reduceAdd, Int.reduceSub, Int.reduceMul, Int.reduceEq, Int.reduceNeg, reduceCtorEq, resV, resAll, ARes.ev, LV.flat, ite_true, ite_false, exists_eq_left', exists_eq_left, keyOf, implies_true, fillC, capOf]
      refine appendK_int hS2 (by omega) fun N3 b1' b2 b3 => ?_
      have e1 : idxL (Q ++ [(W, k + 1)]) = idxL Q ++ [W] := by simp [idxL]
      have e2 : stpL (Q ++ [(W, k + 1)]) = stpL Q ++ [(k : Int) + 1] := by simp [stpL]
      have e3 : keyQ (Q ++ [(W, k + 1)]) = keyQ Q ++ [keyTL W.flatten] := by simp [keyQ, keyOfT]
      have hu6 : u6 = tl ∨ N1.length + 1 ≤ u6 := l3
      have hL4 : Tab3 N3 u6 (idxL Q ++ [W]) [N2.length + 1, M2.length + 1] := hL3.keep (fun q q1 q2 => b3 q (fun e => q1 (by simp [e])) q2) fun q hq => by
        simp at hq
        rcases hq with rfl | rfl
        · exact .inr (by omega)
        · exact .inl (by simp)
      have hX3 : Tab3 N3 uo nx [u6, N2.length + 1, M2.length + 1] := hX2.keep (fun q q1 q2 => b3 q (fun e => q1 (by simp [e])) q2) fun q hq => by
        simp at hq
        rcases hq with rfl | rfl | rfl
        · exact .inl (by simp)
        · exact .inr (by omega)
        · exact .inl (by simp)
      have hK3 := live_step hK2 (by omega) b3
      have hu6l := hL3.lt
      simp (disch := omega) only [f1, f5', f6', f7', f8, f9, f10, ↓SXd, SXu, slBounds, ↓sop, ↓aop, ↓reduceIte, LV.cells, AOp.dst, LV.I, LV.B, LV.U, LV.S, LV.nil, Nat.reduceEqDiff, Nat.reduceAdd, Nat.reduceMul, Nat.reduceSub, Nat.reduceLeDiff, Nat.reduceBEq, Nat.reduceDiv, Nat.reduceMod, Int.reduceToNat, Int.reduceLT, Int.reduceLE, Int.reduceAdd, Int.reduceSub, Int.reduceMul, Int.reduceEq, Int.reduceNeg, reduceCtorEq, resV, resAll, ARes.ev, LV.flat, ite_true, ite_false, exists_eq_left', exists_eq_left, keyOf, implies_true, fillC, capOf]
      refine ⟨q2 - 1, by omega, Q ++ [(W, k + 1)], r + 1, u6, N2.length + 1, M2.length + 1, by omega, ⟨hB2, ⟨by omega, fun q hq => ?_⟩, ⟨by omega, by omega, by omega, by omega, by omega, by omega⟩, by rw [e1]; exact hL4, by rw [e2]; exact b2, by rw [e3]; exact hK3, fun v k' hv => ?_⟩, by rw [List.getElem?_append_left hil]; exact hQi, by rw [List.length_append]; omega, fun j v k' hj hv => ?_, ?_, hX3, f1, ?_, ?_, ?_, f8, f9, eqI (natI _)⟩
      · rw [b3 q (by omega) (by omega), l4 q (by omega) (by omega), List.getElem?_append_left (by omega), a3 q (by omega) (by omega)]
        exact hpre.2 q hq
      · rw [List.length_append, List.length_singleton]
        rcases List.mem_append.1 hv with h | h
        · have := hkl v k' h; omega
        · simp at h; omega
      · rw [List.getElem?_append_left (by omega)] at hv
        exact hno j v k' hj hv
      · rw [e1]
        intro p hp
        rcases Nat.lt_or_ge p r with h | h
        · exact List.mem_append_left _ (hdn p h)
        · rw [show p = r by omega, hWe]; simp
      · have e : (idxL Q).length + [W].length = (Q ++ [(W, k + 1)]).length := by rw [List.length_append, hl1]; rfl
        exact congrArg (fun n => LV.ref u6 0 n) e
      · have e : (stpL Q ++ [(k : Int) + 1]).length = (Q ++ [(W, k + 1)]).length := by rw [List.length_append, List.length_append, hl2]; rfl
        exact congrArg (fun n => LV.ref (N2.length + 1) 0 n) e
      · have e : (keyQ Q ++ [keyTL W.flatten]).length = (Q ++ [(W, k + 1)]).length := by rw [List.length_append, List.length_append, hl3]; rfl
        exact congrArg (fun n => LV.ref (M2.length + 1) 0 n) e
end Go.Ab

/- Contracts: layers of the program, with the table as a set. -/
namespace Go.Ab
open Go
set_option linter.unusedSimpArgs false
set_option linter.unusedVariables false
set_option maxRecDepth 20000

theorem one_at {e p : Nat} (hp : p < 64) : (1#64 <<< e).getLsbD p = decide (p = e) := by
  rw [BitVec.getLsbD_shiftLeft, BitVec.getLsbD_one]
  by_cases h1 : p < e
  · have h2 : ¬ p = e := by omega
    simp [h1, h2]
  · by_cases h2 : p = e
    · subst h2; simp [hp]
    · have h3 : ¬ p - e = 0 := by omega
      simp [h1, h2, h3]
theorem lyr_row_get {x y z : Int} {d : Nat} {cs : List Cell} {k : Int} {i j : Nat} (hi : i < (sideOf x y z (dirA d)).toNat) (hj : j < layN x y z d) : ((layT x y z d cs k).getD i []).getD j 0 = lyrV d k cs i j := by
  have e1 : (layT x y z d cs k).getD i [] = lyrR x y z d k cs i (layN x y z d) := by
    unfold layT lyrT
    simp only [List.getD_eq_getElem?_getD, List.getElem?_map, List.getElem?_range hi, Option.map_some, Option.getD_some]
    rfl
  rw [e1]
  unfold lyrR
  simp only [List.getD_eq_getElem?_getD, List.getElem?_map, List.getElem?_range hj, Option.map_some, Option.getD_some]
theorem layS_add {x y z : Int} {d : Nat} {cs : List Cell} {k : Int} {c : Cell} {i0 j0 : Nat} (hS : Sides x y z) (hd : d < 3) (hc : c ∉ cs) (hb : c.inBox x y z) (hk : c.at d = k) (hi : c.at (dirA d) = i0) (hj : c.at (dirB d) = j0) :
    setT (layT x y z d (cs ++ [c]) k).flatten = setT (layT x y z d cs k).flatten ||| 1#64 <<< (i0 * layN x y z d + j0) := by
  obtain ⟨l0, l1, l2⟩ := lyr_box hS hd hb
  have sA := sideOf_in hS (dirA d)
  have sB := sideOf_in hS (dirB d)
  have hN : layN x y z d = (sideOf x y z (dirB d)).toNat := rfl
  have hce : c = lyrC d k (i0 : Nat) (j0 : Nat) := by
    have := lyr_of hd c
    rw [hk, hi, hj] at this; exact this
  have hfl : ∀ ds : List Cell, (layT x y z d ds k).flatten.length = (sideOf x y z (dirA d)).toNat * layN x y z d := fun ds => by
    rw [flat_len (n := layN x y z d) fun r hr => (layT_01 r hr).1, layT_len]
  have hmul : (sideOf x y z (dirA d)).toNat * layN x y z d ≤ 4 * 4 := Nat.mul_le_mul (by omega) (by omega)
  have hi0 : i0 < (sideOf x y z (dirA d)).toNat := by omega
  have hj0 : j0 < layN x y z d := by omega
  have h0 : i0 * layN x y z d + j0 < (sideOf x y z (dirA d)).toNat * layN x y z d := by
    have : (i0 + 1) * layN x y z d ≤ (sideOf x y z (dirA d)).toNat * layN x y z d := Nat.mul_le_mul_right _ (by omega)
    rw [Nat.add_mul] at this; omega
  apply BitVec.eq_of_getLsbD_eq
  intro p hp
  rw [BitVec.getLsbD_or, setT_bit (by rw [hfl]; omega), setT_bit (by rw [hfl]; omega), one_at hp, hfl, hfl]
  by_cases hlt : p < (sideOf x y z (dirA d)).toNat * layN x y z d
  · rw [decide_eq_true hlt, Bool.true_and, Bool.true_and]
    have hn0 : 0 < layN x y z d := by omega
    obtain ⟨i, j, hpe, hjl⟩ : ∃ i j, p = i * layN x y z d + j ∧ j < layN x y z d := ⟨p / layN x y z d, p % layN x y z d, by rw [Nat.mul_comm]; exact (Nat.div_add_mod p _).symm, Nat.mod_lt _ hn0⟩
    have hil : i < (sideOf x y z (dirA d)).toNat := by
      rcases Nat.lt_or_ge i (sideOf x y z (dirA d)).toNat with h | h
      · exact h
      · have := Nat.mul_le_mul_right (layN x y z d) h; omega
    have hr : ∀ ds : List Cell, ∀ r ∈ layT x y z d ds k, r.length = layN x y z d := fun ds r hr => (layT_01 r hr).1
    rw [hpe, flat_at (hr _) (by rw [layT_len]; exact hil) hjl, flat_at (hr _) (by rw [layT_len]; exact hil) hjl, lyr_row_get hil hjl, lyr_row_get hil hjl, lyrV_add hc]
    have he : i * layN x y z d + j = i0 * layN x y z d + j0 ↔ lyrC d k i j = c := by
      rw [hce, lyrC_inj hd]
      constructor
      · intro e
        have h1 : (i * layN x y z d + j) / layN x y z d = i := by rw [Nat.mul_comm, Nat.mul_add_div hn0, Nat.div_eq_of_lt hjl, Nat.add_zero]
        have h2 : (i0 * layN x y z d + j0) / layN x y z d = i0 := by rw [Nat.mul_comm, Nat.mul_add_div hn0, Nat.div_eq_of_lt hj0, Nat.add_zero]
        rw [e, h2] at h1
        subst h1
        exact ⟨rfl, by omega⟩
      · rintro ⟨e1, e2⟩
        have : i = i0 := by omega
        subst this; omega
    by_cases hh : lyrC d k i j = c
    · rw [if_pos hh, decide_eq_true (he.2 hh), Bool.or_true, decide_eq_true_iff]
      unfold lyrV
      rw [hh, if_neg hc]; rfl
    · rw [if_neg hh, decide_eq_false (fun e => hh (he.1 e)), Bool.or_false, Int.add_zero]
  · rw [decide_eq_false hlt, Bool.false_and, Bool.false_and, decide_eq_false (by omega)]; rfl
theorem layS_nil {x y z : Int} {d : Nat} {k : Int} : setT (layT x y z d [] k).flatten = 0#64 := by
  unfold setT
  have : ∀ (n : Nat) (f : Nat → Bool), (∀ i, f i = false) → bsN n f = 0#64 := fun n f hf => by
    induction n with
    | zero => rfl
    | succ n ih => rw [bsN_succ, hf n]; exact ih
  refine this _ _ fun i => ?_
  have h0 : ∀ a ∈ (layT x y z d [] k).flatten, a = 0 := fun a ha => by
    obtain ⟨row, h1, h2⟩ := List.mem_flatten.1 ha
    obtain ⟨i, _, rfl⟩ := List.mem_map.1 h1
    obtain ⟨j, _, rfl⟩ := List.mem_map.1 h2
    simp [lyrV]
  rw [decide_eq_false_iff_not]
  by_cases hi : i < (layT x y z d [] k).flatten.length
  · rw [h0 _ (getD_mem' (d := 0) hi)]; decide
  · rw [List.getD_eq_getElem?_getD, List.getElem?_eq_none (by omega)]; simp
section
variable {x y z : Int} {t : Nat} {cs : List Cell} {M : Mem} (h : Tri M t 0 cs)
include h
theorem g_layerS {d : Nat} {k : Int} (hH : HeapOK x y z cs) (hd : d < 3) (hk : 0 ≤ k ∧ k < sideOf x y z (d : Nat)) : CallsR PG F.impl_Heap_layer [.agg [.I x, .I y, .I z, .ref t 0 cs.length], .I d, .I k] M fun v N => ∃ (ur uc : Nat), v = .tup [.W (setT (layT x y z d cs k).flatten), .ref ur 0 (rowsV x y z d cs k).length, .ref uc 0 (colsV x y z d cs k).length] ∧ Pre M N ∧ Live N ur (.row (intL (rowsV x y z d cs k)) true 1) ∧ Live N uc (.row (intL (colsV x y z d cs k)) true 1) := by
  have hS := hH.1
  have hlen := hH.len
  have hda : Dir (dirA d) := by unfold dirA Dir; split <;> omega
  have hdb : Dir (dirB d) := by unfold dirB Dir; split <;> omega
  have hdd : Dir (d : Nat) := by unfold Dir; omega
  have hrA : 0 ≤ dirA d ∧ dirA d < 3 := by unfold dirA; split <;> omega
  have hrB : 0 ≤ dirB d ∧ dirB d < 3 := by unfold dirB; split <;> omega
  have sA := sideOf_in hS (dirA d)
  have sB := sideOf_in hS (dirB d)
  refine callsR_run K.impl_Heap_layer rfl ?_
  simp (disch := omega) only [C.impl_Heap_layer, ↓SXd, SXu, slBounds, ↓sop, ↓aop, ↓reduceIte, LV.cells, AOp.dst, LV.I, LV.B, LV.U, LV.S, LV.nil, Nat.reduceEqDiff, Nat.reduceAdd, Nat.reduceMul, Nat.reduceSub, Nat.reduceLeDiff, Nat.reduceBEq, Nat.reduceDiv, Nat.reduceMod, Int.reduceToNat, Int.reduceLT, Int.reduceLE, Int.reduceAdd, Int.reduceSub, Int.reduceMul, Int.reduceEq, Int.reduceNeg, reduceCtorEq, resV, resAll, ARes.ev, LV.flat, ite_true, ite_false, exists_eq_left', exists_eq_left, keyOf, implies_true, fillC, capOf]
  refine callK_of (g_others hd) ?_
  change putK _ _ _ (.tup [.I (dirA d), .I (dirB d)]) _
  have hsA := sideB_row (x := x) (y := y) (z := z) hda
  have hsB := sideB_row (x := x) (y := y) (z := z) hdb
  simp (disch := omega) only [↓SXd, SXu, slBounds, ↓sop, ↓aop, ↓reduceIte, LV.cells, AOp.dst, LV.I, LV.B, LV.U, LV.S, LV.nil, Nat.reduceEqDiff, Nat.reduceAdd, Nat.reduceMul, Nat.reduceSub, Nat.reduceLeDiff, Nat.reduceBEq, Nat.reduceDiv, Nat.reduceMod, Int.reduceToNat, Int.reduceLT, Int.reduceLE, Int.reduceAdd, Int.reduceSub, Int.reduceMul, Int.reduceEq, Int.reduceNeg, reduceCtorEq, resV, resAll, ARes.ev, LV.flat, ite_true, ite_false, exists_eq_left', exists_eq_left, keyOf, implies_true, fillC, capOf]
  refine callK_of (g_box) ?_
  simp (disch := omega) only [splice, hsA, hsB, ↓SXd, SXu, slBounds, ↓sop, ↓aop, ↓reduceIte, LV.cells, AOp.dst, LV.I, LV.B, LV.U, LV.S, LV.nil, Nat.reduceEqDiff, Nat.reduceAdd, Nat.reduceMul, Nat.reduceSub, Nat.reduceLeDiff, Nat.reduceBEq, Nat.reduceDiv, Nat.reduceMod, Int.reduceToNat, Int.reduceLT, Int.reduceLE, Int.reduceAdd, Int.reduceSub, Int.reduceMul, Int.reduceEq, Int.reduceNeg, reduceCtorEq, resV, resAll, ARes.ev, LV.flat, ite_true, ite_false, exists_eq_left', exists_eq_left, keyOf, implies_true, fillC, capOf]
  rw [rep_ints, rep_ints]
  refine ev_loop (fun m fr M' => ∃ (q : Nat), q + m = cs.length ∧ Pre M M' ∧ Live M' (M.length + 1) (.row [.I x, .I y, .I z] true 0) ∧ Live M' (M.length + 2) (.row (intL (rowsV x y z d (cs.take q) k)) true 1) ∧ Live M' (M.length + 3) (.row (intL (colsV x y z d (cs.take q) k)) true 1) ∧
    fr 1 = .I d ∧ fr 2 = .I k ∧ fr 9 = .I (dirA d) ∧ fr 10 = .I (dirB d) ∧ fr 11 = .ptr (M.length + 1) 0 ∧ fr 12 = .W (setT (layT x y z d (cs.take q) k).flatten) ∧ fr 13 = .ref (M.length + 2) 0 (sideOf x y z (dirA d)).toNat ∧ fr 14 = .ref (M.length + 3) 0 (sideOf x y z (dirB d)).toNat ∧ fr 33 = .ref t 0 cs.length ∧ fr 34 = .I cs.length ∧ fr 35 = .I q) cs.length
    ⟨0, by omega, Pre.app _ _, Live.newj (j := 1) rfl, by rw [List.take_zero, rowsV_nil]; exact Live.newj (j := 2) rfl, by rw [List.take_zero, colsV_nil]; exact Live.newj (j := 3) rfl, rfl, rfl, rfl, rfl, rfl, by rw [List.take_zero, layS_nil]; rfl, rfl, rfl, rfl, rfl, rfl⟩ ?_
  rintro m fr M' ⟨q, hq, hpre, b11, bR, bC, f1, f2, f9, f10, f11, f12, f13, f14, f33, f34, f35⟩
  simp (disch := omega) only [f1, f2, f9, f10, f11, f12, f13, f14, f33, f34, f35, ↓SXd, SXu, slBounds, ↓sop, ↓aop, ↓reduceIte, LV.cells, AOp.dst, LV.I, LV.B, LV.U, LV.S, LV.nil, Nat.reduceEqDiff, Nat.reduceAdd, Nat.reduceMul, Nat.reduceSub, Nat.reduceLeDiff, Nat.reduceBEq, Nat.reduceDiv, Nat.reduceMod, Int.reduceToNat, Int.reduceLT, Int.reduceLE, Int.reduceAdd, Int.reduceSub, Int.reduceMul, Int.reduceEq, Int.reduceNeg, reduceCtorEq, resV, resAll, ARes.ev, LV.flat, ite_true, ite_false, exists_eq_left', exists_eq_left, keyOf, implies_true, fillC, capOf]
  refine condC_dec (fun hlt => ?_) (fun hlt => ?_)
  rotate_left
  · have : q = cs.length := by omega
    subst this
    rw [List.take_length] at bR bC f12
    simp (disch := omega) only [f1, f2, f9, f10, f11, f12, f13, f14, f33, f34, f35, ↓SXd, SXu, slBounds, ↓sop, ↓aop, ↓reduceIte, LV.cells, AOp.dst, LV.I, LV.B, LV.U, LV.S, LV.nil, Nat.reduceEqDiff, Nat.reduceAdd, Nat.reduceMul, Nat.reduceSub, Nat.reduceLeDiff, Nat.reduceBEq, Nat.reduceDiv, Nat.reduceMod, Int.reduceToNat, Int.reduceLT, Int.reduceLE, Int.reduceAdd, Int.reduceSub, Int.reduceMul, Int.reduceEq, Int.reduceNeg, reduceCtorEq, resV, resAll, ARes.ev, LV.flat, ite_true, ite_false, exists_eq_left', exists_eq_left, keyOf, implies_true, fillC, capOf]
    exact ⟨M.length + 2, M.length + 3, by rw [rowsV_len, colsV_len], hpre, bR, bC⟩
  have hql : q < cs.length := by omega
  have hts := take_snocL default hql
  have hcm := getD_mem' (d := default) hql
  have htr := Tri.get (h.pre hpre) hql
  rw [Nat.zero_add] at htr
  have hcb := hH.mem hcm
  have hnot : cs.getD q default ∉ cs.take q := by
    intro hm
    obtain ⟨i, hi, he⟩ := List.mem_iff_getElem.1 hm
    rw [List.getElem_take] at he
    simp only [List.getD_eq_getElem?_getD, List.getElem?_eq_getElem hql, Option.getD_some] at he
    rw [List.length_take] at hi
    have := List.pairwise_iff_getElem.1 hH.sorted i q (by omega) hql (by omega)
    rw [he] at this
    exact Cell.lt_irrefl _ this
  generalize cs.getD q default = c at hts htr hcb hnot hcm
  obtain ⟨l0, l1, l2⟩ := lyr_box hS hd hcb
  have hcD := cellC_row (c := c) hdd
  have hcA := cellC_row (c := c) hda
  have hcB := cellC_row (c := c) hdb
  rw [Int.toNat_natCast] at hcD
  have hb1l := b11.lt
  have hRl := bR.lt
  have hCl := bC.lt
  simp (disch := omega) only [f1, f2, f9, f10, f11, f12, f13, f14, f33, f34, f35, htr, Cell.row, ↓SXd, SXu, slBounds, ↓sop, ↓aop, ↓reduceIte, LV.cells, AOp.dst, LV.I, LV.B, LV.U, LV.S, LV.nil, Nat.reduceEqDiff, Nat.reduceAdd, Nat.reduceMul, Nat.reduceSub, Nat.reduceLeDiff, Nat.reduceBEq, Nat.reduceDiv, Nat.reduceMod, Int.reduceToNat, Int.reduceLT, Int.reduceLE, Int.reduceAdd, Int.reduceSub, Int.reduceMul, Int.reduceEq, Int.reduceNeg, reduceCtorEq, resV, resAll, ARes.ev, LV.flat, ite_true, ite_false, exists_eq_left', exists_eq_left, keyOf, implies_true, fillC, capOf]
  by_cases hck : c.at (d : Nat) = k
  · have hSa0 := fun i0 j0 hi hj => layS_add (cs := cs.take q) (i0 := i0) (j0 := j0) hS hd hnot hcb hck hi hj
    rw [← hts] at hSa0
    have hRa := rowsV_add (cs := cs.take q) hS hd hnot hcb hck
    have hCa := colsV_add (cs := cs.take q) hS hd hnot hcb hck
    rw [← hts] at hRa hCa
    obtain ⟨i0, hi0⟩ : ∃ i0 : Nat, c.at (dirA d) = i0 := ⟨(c.at (dirA d)).toNat, by omega⟩
    obtain ⟨j0, hj0⟩ : ∃ j0 : Nat, c.at (dirB d) = j0 := ⟨(c.at (dirB d)).toNat, by omega⟩
    have hSa := hSa0 i0 j0 hi0 hj0
    rw [hi0] at hRa hcA l1
    rw [hj0] at hCa hcB l2
    rw [Int.toNat_natCast] at hRa hCa
    have hRl2 := rowsV_len (x := x) (y := y) (z := z) (d := d) (cs := cs.take q) (k := k)
    have hCl2 := colsV_len (x := x) (y := y) (z := z) (d := d) (cs := cs.take q) (k := k)
    have hgR := Ints.get bR.has (k := i0) (by omega)
    have hgC := Ints.get bC.has (k := j0) (by omega)
    rw [Nat.zero_add] at hgR hgC
    have hRb : 0 ≤ (rowsV x y z d (cs.take q) k).getD i0 0 ∧ (rowsV x y z d (cs.take q) k).getD i0 0 ≤ 4 := by
      have hm := getD_mem' (d := 0) (l := rowsV x y z d (cs.take q) k) (k := i0) (by omega)
      obtain ⟨row, r1, r2⟩ := List.mem_map.1 hm
      have r3 := layT_01 row r1
      have r4 := litSum_bits r3.2
      rw [← r2]
      unfold layN at r3
      omega
    have hCb : 0 ≤ (colsV x y z d (cs.take q) k).getD j0 0 ∧ (colsV x y z d (cs.take q) k).getD j0 0 ≤ 4 := by
      have hm := getD_mem' (d := 0) (l := colsV x y z d (cs.take q) k) (k := j0) (by omega)
      have r4 := colsE_bound layT_01 _ hm
      rw [layT_len] at r4
      omega
    obtain ⟨nB, hnB⟩ : ∃ nB : Nat, sideOf x y z (dirB d) = nB := ⟨(sideOf x y z (dirB d)).toNat, by omega⟩
    have hmul : ((i0 : Nat) : Int) * ((nB : Nat) : Int) = ((i0 * nB : Nat) : Int) := by rw [Int.natCast_mul]
    have hnL : layN x y z d = nB := by unfold layN; omega
    rw [hnL] at hSa
    have hsh : (((i0 * nB : Nat) : Int) + (j0 : Nat)).toNat = i0 * nB + j0 := by omega
    have hmb : i0 * nB ≤ 4 * 4 := Nat.mul_le_mul (by omega) (by omega)
    rw [hnB] at hsB l2
    generalize (rowsV x y z d (cs.take q) k).getD i0 0 = vR at hgR hRb hRa
    generalize (colsV x y z d (cs.take q) k).getD j0 0 = vC at hgC hCb hCa
    have hiA : (i0 : Int) < ((sideOf x y z (dirA d)).toNat : Nat) := by omega
    have hjB : (j0 : Int) < ((sideOf x y z (dirB d)).toNat : Nat) := by omega
    simp (disch := omega) only [f1, f2, f9, f10, f11, f12, f13, f14, f33, f34, f35, hsA, hsB, hcA, hcB, hcD, hck, b11.app.cell, hmul, Live.new.cell, getCell_app, hgR, hiA, Nat.mul_one, Nat.zero_add, ↓SXd, SXu, slBounds, ↓sop, ↓aop, ↓reduceIte, LV.cells, AOp.dst, LV.I, LV.B, LV.U, LV.S, LV.nil, Nat.reduceEqDiff, Nat.reduceAdd, Nat.reduceMul, Nat.reduceSub, Nat.reduceLeDiff, Nat.reduceBEq, Nat.reduceDiv, Nat.reduceMod, Int.reduceToNat, Int.reduceLT, Int.reduceLE, Int.reduceAdd, Int.reduceSub, Int.reduceMul, Int.reduceEq, Int.reduceNeg, reduceCtorEq, resV, resAll, ARes.ev, LV.flat, ite_true, ite_false, exists_eq_left', exists_eq_left, keyOf, implies_true, fillC, capOf]
    refine memK_int bR.app (by omega) fun N2 k1 k2 k3 => ?_
    simp only [List.length_append, List.length_singleton] at k1
    rw [← hRa] at k2
    have e16 := live_step (M := M' ++ [some (.row [.I c.a, .I c.b, .I c.c] true 0)]) (u := M'.length) Live.new (by omega) k3
    have hk2 : ∀ w, w ≠ M.length + 2 → w < M'.length → N2[w]? = M'[w]? := fun w w1 w2 => by rw [k3 w w1 (by simp; omega), List.getElem?_append_left w2]
    have bC2 : Live N2 (M.length + 3) _ := Live.at bC (hk2 _ (by omega) hCl)
    have hgC2 : getCell N2 (M.length + 3) j0 = some (.I vC) := by
      unfold getCell getRow at hgC ⊢
      rw [hk2 _ (by omega) hCl]; exact hgC
    simp (disch := omega) only [f1, f2, f9, f10, f11, f12, f13, f14, f33, f34, f35, e16.cell, hcB, hgC2, hjB, Nat.mul_one, Nat.zero_add, ↓SXd, SXu, slBounds, ↓sop, ↓aop, ↓reduceIte, LV.cells, AOp.dst, LV.I, LV.B, LV.U, LV.S, LV.nil, Nat.reduceEqDiff, Nat.reduceAdd, Nat.reduceMul, Nat.reduceSub, Nat.reduceLeDiff, Nat.reduceBEq, Nat.reduceDiv, Nat.reduceMod, Int.reduceToNat, Int.reduceLT, Int.reduceLE, Int.reduceAdd, Int.reduceSub, Int.reduceMul, Int.reduceEq, Int.reduceNeg, reduceCtorEq, resV, resAll, ARes.ev, LV.flat, ite_true, ite_false, exists_eq_left', exists_eq_left, keyOf, implies_true, fillC, capOf]
    refine memK_int bC2 (by omega) fun N3 l1 l2 l3 => ?_
    rw [← hCa] at l2
    have hk3 : ∀ w, w ≠ M.length + 2 → w ≠ M.length + 3 → w < M'.length → N3[w]? = M'[w]? := fun w w1 w2 w3 => by rw [l3 w w2 (by omega), hk2 w w1 w3]
    have hml := hpre.1
    simp (disch := omega) only [f1, f2, f9, f10, f11, f12, f13, f14, f33, f34, f35, ↓SXd, SXu, slBounds, ↓sop, ↓aop, ↓reduceIte, LV.cells, AOp.dst, LV.I, LV.B, LV.U, LV.S, LV.nil, Nat.reduceEqDiff, Nat.reduceAdd, Nat.reduceMul, Nat.reduceSub, Nat.reduceLeDiff, Nat.reduceBEq, Nat.reduceDiv, Nat.reduceMod, Int.reduceToNat, Int.reduceLT, Int.reduceLE, Int.reduceAdd, Int.reduceSub, Int.reduceMul, Int.reduceEq, Int.reduceNeg, reduceCtorEq, resV, resAll, ARes.ev, LV.flat, ite_true, ite_false, exists_eq_left', exists_eq_left, keyOf, implies_true, fillC, capOf]
    exact ⟨m - 1, by omega, q + 1, by omega, ⟨by omega, fun w hw => by rw [hk3 w (by omega) (by omega) (by omega)]; exact hpre.2 w hw⟩, Live.at b11 (hk3 _ (by omega) (by omega) hb1l), live_step k2 (by omega) l3, l2, f1, f2, f9, f10, f11, by rw [hSa, ← hsh]; rfl, f13, f14, f33, f34, eqI (natI _)⟩
  · have hoff := layT_off (x := x) (y := y) (z := z) (cs := cs.take q) hd hck
    rw [← hts] at hoff
    simp (disch := omega) only [f1, f2, f9, f10, f11, f12, f13, f14, f33, f34, f35, hcD, hck, ↓SXd, SXu, slBounds, ↓sop, ↓aop, ↓reduceIte, LV.cells, AOp.dst, LV.I, LV.B, LV.U, LV.S, LV.nil, Nat.reduceEqDiff, Nat.reduceAdd, Nat.reduceMul, Nat.reduceSub, Nat.reduceLeDiff, Nat.reduceBEq, Nat.reduceDiv, Nat.reduceMod, Int.reduceToNat, Int.reduceLT, Int.reduceLE, Int.reduceAdd, Int.reduceSub, Int.reduceMul, Int.reduceEq, Int.reduceNeg, reduceCtorEq, resV, resAll, ARes.ev, LV.flat, ite_true, ite_false, exists_eq_left', exists_eq_left, keyOf, implies_true, fillC, capOf]
    exact ⟨m - 1, by omega, q + 1, by omega, hpre.app', b11.app, by unfold rowsV; rw [hoff]; exact bR.app, by unfold colsV; rw [hoff]; exact bC.app, f1, f2, f9, f10, f11, by rw [hoff]; exact f12, f13, f14, f33, f34, eqI (natI _)⟩
end
end Go.Ab

/- The abstract code of some functions (written by a program of mine from the translation, by way of prepF). -/
namespace Go.Ab.C
open Go.Ab
end Go.Ab.C

/- That the program has this code. -/
namespace Go.Ab.K
open Go Go.Ab
end Go.Ab.K

/- The abstract code of some functions (written by a program of mine from the translation, by way of prepF). -/
namespace Go.Ab.C
open Go.Ab
end Go.Ab.C

/- That the program has this code. -/
namespace Go.Ab.K
open Go Go.Ab
end Go.Ab.K

/- The abstract code of some functions (written by a program of mine from the translation, by way of prepF). -/
namespace Go.Ab.C
open Go.Ab
end Go.Ab.C

/- That the program has this code. -/
namespace Go.Ab.K
open Go Go.Ab
end Go.Ab.K

/- The abstract code of some functions (written by a program of mine from the translation, by way of prepF). -/
namespace Go.Ab.C
open Go.Ab
end Go.Ab.C

/- That the program has this code. -/
namespace Go.Ab.K
open Go Go.Ab
end Go.Ab.K

/- Contracts: whether lists are those of sums; how many tables there are; both sides. -/
namespace Go.Ab
open Go
set_option linter.unusedSimpArgs false
set_option linter.unusedVariables false
set_option maxRecDepth 20000

def SumsOK (R D : List Int) : Prop := (1 ≤ R.length ∧ R.length ≤ 4) ∧ (1 ≤ D.length ∧ D.length ≤ 4) ∧ (∀ r ∈ R, 0 ≤ r ∧ r ≤ D.length) ∧ ∀ c ∈ D, 0 ≤ c ∧ c ≤ R.length
noncomputable instance (R D : List Int) : Decidable (SumsOK R D) := Classical.propDecidable _
section
variable {R D : List Int} {tr tc : Nat} {M : Mem} (hR : Live M tr (.row (intL R) true 1)) (hC : Live M tc (.row (intL D) true 1)) (hRn : R.length ≤ 1000) (hCn : D.length ≤ 1000)
include hR hC hRn hCn
end
end Go.Ab

/- Contracts: how many tables there are, and whether there is one; both sides. -/
namespace Go.Ab
open Go
set_option linter.unusedSimpArgs false
set_option linter.unusedVariables false
set_option maxRecDepth 20000

noncomputable def tabsO (R D : List Int) : List (List (List Int)) := if SumsOK R D then tabsL R D else []
section
variable {R D : List Int} {tr tc : Nat} {M : Mem} (hR : Live M tr (.row (intL R) true 1)) (hC : Live M tc (.row (intL D) true 1))
include hR hC
end
end Go.Ab

/- Contracts: the first table, both sides. -/
namespace Go.Ab
open Go
set_option linter.unusedSimpArgs false
set_option linter.unusedVariables false
set_option maxRecDepth 20000

section
variable {R D : List Int} {tr tc : Nat} {M : Mem} (hR : Live M tr (.row (intL R) true 1)) (hC : Live M tc (.row (intL D) true 1)) (hRn : R.length ≤ 1000) (hCn : D.length ≤ 1000)
include hR hC hRn hCn
end
end Go.Ab

/- Contracts: lines by their cubes, both sides. -/
namespace Go.Ab
open Go
set_option linter.unusedSimpArgs false
set_option linter.unusedVariables false
set_option maxRecDepth 20000

theorem line_cell {x y z : Int} {c e : Cell} {d : Nat} (hS : Sides x y z) (hc : c.inBox x y z) (he : e.inBox x y z) (hd : d < 3) (h1 : lineOf y z c d = lineOf y z e d) (h2 : c.at d = e.at d) : c = e := by
  obtain ⟨hx, hy, hz⟩ := hS
  obtain ⟨⟨_, _⟩, ⟨_, _⟩, ⟨_, _⟩⟩ := hc
  obtain ⟨⟨_, _⟩, ⟨_, _⟩, ⟨_, _⟩⟩ := he
  have e2 : y = 1 ∨ y = 2 ∨ y = 3 ∨ y = 4 := by omega
  have e3 : z = 1 ∨ z = 2 ∨ z = 3 ∨ z = 4 := by omega
  rw [cell_eq]
  rcases (show d = 0 ∨ d = 1 ∨ d = 2 by omega) with rfl | rfl | rfl <;> simp [Cell.at] at h2 <;> simp [lineOf] at h1 <;> rcases e2 with rfl | rfl | rfl | rfl <;> rcases e3 with rfl | rfl | rfl | rfl <;> omega
def wStep (l : List Int) (v : Int) : List Int := l.set v.toNat (l.getD v.toNat 0 + 1)
def withF (s : Nat) (V : List Int) : List Int := V.foldl wStep (List.replicate (s + 1) 0)
def WithR (M : Mem) (L : List Int) (v : LV) (N : Mem) : Prop := ∃ u, v = .ref u 0 L.length ∧ Live N u (.row (intL L) true 1) ∧ M.length ≤ u ∧ Pre M N
section
variable {x y z : Int} {t : Nat} {cs : List Cell} {M : Mem} (h : Tri M t 0 cs) (hH : HeapOK x y z cs)
include h hH
end
noncomputable def withOf (x y z : Int) (cs : List Cell) (d : Int) : List Int := by
  classical
  exact if HeapOK x y z cs ∧ Dir d then withF (sideOf x y z d).toNat (viewL x y z d.toNat cs) else []
noncomputable def fullOf (x y z : Int) (cs : List Cell) (d : Int) : Int := (withOf x y z cs d).getD (sideOf x y z d).toNat 0
section
variable {x y z d : Int} {t : Nat} {cs : List Cell} {M : Mem} (h : Tri M t 0 cs) (hn : cs.length ≤ 1000000000)
include h hn
end
end Go.Ab

/- Plain words: layers of heaps that look alike have the same sums. -/
namespace Go.Ab
open Go
set_option linter.unusedSimpArgs false
set_option linter.unusedVariables false
set_option maxRecDepth 20000

theorem sN_cells {f : Nat → Cell} (hf : ∀ i j, f i = f j → i = j) {n : Nat} : ∀ {cs : List Cell}, cs.Nodup → sN n (fun j => if f j ∈ cs then 1 else 0) = (cs.countP fun c => decide (∃ j, j < n ∧ c = f j) : Nat)
  | [], _ => by simp [sN_zero]
  | c :: cs, h => by
    rw [List.nodup_cons] at h
    have e : sN n (fun j => if f j ∈ c :: cs then 1 else 0) = sN n (fun j => (if f j = c then 1 else 0) + if f j ∈ cs then 1 else 0) := sN_congr fun j _ => by
      by_cases h1 : f j = c
      · rw [if_pos (by simp [h1]), if_pos h1, if_neg (by rw [h1]; exact h.1)]; rfl
      · by_cases h2 : f j ∈ cs
        · rw [if_pos (by simp [h2]), if_neg h1, if_pos h2]; rfl
        · rw [if_neg (by simp [h1, h2]), if_neg h1, if_neg h2]; rfl
    rw [e, sN_add, sN_cells hf h.2, List.countP_cons]
    by_cases hc : ∃ j, j < n ∧ c = f j
    · obtain ⟨j0, hj, rfl⟩ := hc
      have e2 : sN n (fun j => if f j = f j0 then (1 : Int) else 0) = sN n fun j => if j = j0 then 1 else 0 := sN_congr fun j _ => by
        by_cases q : j = j0
        · rw [if_pos (by rw [q]), if_pos q]
        · rw [if_neg (fun w => q (hf _ _ w)), if_neg q]
      rw [e2, sN_one, if_pos hj, if_pos (decide_eq_true ⟨j0, hj, rfl⟩)]
      omega
    · have e2 : sN n (fun j => if f j = c then (1 : Int) else 0) = sN n fun _ => 0 := sN_congr fun j hj => if_neg fun w => hc ⟨j, hj, w.symm⟩
      rw [e2, sN_zero, if_neg (by simpa using hc)]
      omega
section
variable {x y z : Int} {d : Nat} {k : Int} (hS : Sides x y z) (hd : d < 3) (hk : 0 ≤ k ∧ k < sideOf x y z (d : Nat))
include hS hd hk
theorem lyr_inB {i j : Nat} (hi : i < (sideOf x y z (dirA d)).toNat) (hj : j < (sideOf x y z (dirB d)).toNat) : (lyrC d k i j).inBox x y z := ((lyr_in hS hd hk).2 ⟨i, j, ⟨hi, hj⟩, rfl⟩).1
theorem row_view {cs : List Cell} (hH : HeapOK x y z cs) {i : Nat} (hi : i < (sideOf x y z (dirA d)).toNat) : sN (layN x y z d) (atT (layT x y z d cs k) i) = (viewL x y z (dirB d).toNat cs).getD (lineOf y z (lyrC d k i (0 : Nat)) (dirB d).toNat).toNat 0 := by
  have sB := sideOf_in hS (dirB d)
  have hB3 : (dirB d).toNat < 3 := by unfold dirB; split <;> omega
  have h0 := lyr_inB hS hd hk hi (j := 0) (by omega)
  have hl0 := lineOf_in hS h0 hB3
  rw [viewL_get (by omega)]
  have e : sN (layN x y z d) (atT (layT x y z d cs k) i) = sN (layN x y z d) fun j => if lyrC d k i j ∈ cs then 1 else 0 := sN_congr fun j hj => by
    unfold atT; rw [lyr_row_get hi hj]; rfl
  rw [e, sN_cells (fun a b h => (lyr_inj hd h).2) hH.nodup]
  congr 1
  refine List.countP_congr fun c hc => ?_
  have hcb := hH.mem hc
  have hlc := lineOf_in hS hcb hB3
  unfold onLine
  rw [decide_eq_true_iff, decide_eq_true_iff]
  have same : ∀ j : Int, lineOf y z (lyrC d k i j) (dirB d).toNat = lineOf y z (lyrC d k i (0 : Nat)) (dirB d).toNat := fun j => by
    rcases (show d = 0 ∨ d = 1 ∨ d = 2 by omega) with rfl | rfl | rfl <;> simp [lyrC, dirB, lineOf]
  constructor
  · rintro ⟨j, hj, rfl⟩
    rw [same]
  · intro h
    obtain ⟨b0, b1, b2⟩ := lyr_box hS hd hcb
    refine ⟨(c.at (dirB d)).toNat, by unfold layN; omega, ?_⟩
    have hcat : ((dirB d).toNat : Int) = dirB d := by unfold dirB; split <;> rfl
    refine line_cell hS hcb (lyr_inB hS hd hk hi (by omega)) hB3 (by rw [same]; omega) ?_
    rw [hcat, (lyr_at hd).2.2]
    omega
theorem col_view {cs : List Cell} (hH : HeapOK x y z cs) {j : Nat} (hj : j < layN x y z d) : sN (sideOf x y z (dirA d)).toNat (fun i => atT (layT x y z d cs k) i j) = (viewL x y z (dirA d).toNat cs).getD (lineOf y z (lyrC d k (0 : Nat) j) (dirA d).toNat).toNat 0 := by
  have sA := sideOf_in hS (dirA d)
  have hA3 : (dirA d).toNat < 3 := by unfold dirA; split <;> omega
  have h0 := lyr_inB hS hd hk (i := 0) (by omega) hj
  have hl0 := lineOf_in hS h0 hA3
  rw [viewL_get (by omega)]
  have e : sN (sideOf x y z (dirA d)).toNat (fun i => atT (layT x y z d cs k) i j) = sN (sideOf x y z (dirA d)).toNat fun (i : Nat) => if lyrC d k i j ∈ cs then 1 else 0 := sN_congr fun i hi => by
    unfold atT; rw [lyr_row_get hi hj]; rfl
  rw [e, sN_cells (f := fun (i : Nat) => lyrC d k i j) (fun a b h => (lyr_inj hd h).1) hH.nodup]
  congr 1
  refine List.countP_congr fun c hc => ?_
  have hcb := hH.mem hc
  have hlc := lineOf_in hS hcb hA3
  unfold onLine
  rw [decide_eq_true_iff, decide_eq_true_iff]
  have same : ∀ i : Int, lineOf y z (lyrC d k i j) (dirA d).toNat = lineOf y z (lyrC d k (0 : Nat) j) (dirA d).toNat := fun j => by
    rcases (show d = 0 ∨ d = 1 ∨ d = 2 by omega) with rfl | rfl | rfl <;> simp [lyrC, dirA, lineOf]
  constructor
  · rintro ⟨i, hi, rfl⟩
    rw [same]
  · intro h
    obtain ⟨b0, b1, b2⟩ := lyr_box hS hd hcb
    refine ⟨(c.at (dirA d)).toNat, by omega, ?_⟩
    have hcat : ((dirA d).toNat : Int) = dirA d := by unfold dirA; split <;> rfl
    refine line_cell hS hcb (lyr_inB hS hd hk (by omega) hj) hA3 (by rw [same]; omega) ?_
    rw [hcat, (lyr_at hd).2.1]
    omega
/-- The layers of two heaps that look alike from two sides. -/
theorem lay_same {cs ds : List Cell} (hH : HeapOK x y z cs) (hH' : HeapOK x y z ds) (hA : viewL x y z (dirA d).toNat cs = viewL x y z (dirA d).toNat ds) (hB : viewL x y z (dirB d).toNat cs = viewL x y z (dirB d).toNat ds) :
    SameS (sideOf x y z (dirA d)).toNat (layN x y z d) (layT x y z d cs k) (layT x y z d ds k) :=
  ⟨fun i hi => by rw [row_view hS hd hk hH hi, row_view hS hd hk hH' hi, hB], fun j hj => by rw [col_view hS hd hk hH hj, col_view hS hd hk hH' hj, hA]⟩
end
theorem layT_ok {x y z : Int} {d : Nat} {cs : List Cell} {k : Int} : TabOK (sideOf x y z (dirA d)).toNat (layN x y z d) (layT x y z d cs k) := ⟨layT_len, fun r hr => layT_01 r hr⟩
/-- The directions of two numbers and the third one. -/
theorem third_dirs {a b d : Nat} (ha : a < 3) (hb : b < 3) (hab : a ≠ b) (hd : d = 3 - a - b) {P : Nat → Prop} (h1 : P a) (h2 : P b) : P (dirA d).toNat ∧ P (dirB d).toNat := by
  subst hd
  have e : a = 0 ∧ b = 1 ∨ a = 0 ∧ b = 2 ∨ a = 1 ∧ b = 0 ∨ a = 1 ∧ b = 2 ∨ a = 2 ∧ b = 0 ∨ a = 2 ∧ b = 1 := by omega
  rcases e with ⟨rfl, rfl⟩ | ⟨rfl, rfl⟩ | ⟨rfl, rfl⟩ | ⟨rfl, rfl⟩ | ⟨rfl, rfl⟩ | ⟨rfl, rfl⟩ <;> simp [dirA, dirB, h1, h2]
end Go.Ab

/- The abstract code of some functions (written by a program of mine from the translation, by way of prepF). -/
namespace Go.Ab.C
open Go.Ab
def spec_l4Alike : AFn :=
 ⟨4, 25, [.tmp 8],
 .seq (.ops [(none, .box 4 (.t 0)),
 (none, .box 5 (.t 1)),
 (none, .mv 8 (.c (.B false)))])
 (.seq (.draw [⟨(none, .loadN 9 4 (.t 4)), [], []⟩,
 ⟨(none, .mv 10 (.t 2)), [], []⟩,
 ⟨(none, .loadN 12 4 (.t 5)), [], []⟩,
 ⟨(none, .mv 13 (.t 2)), [], []⟩,
 ⟨(none, .call (some 11) F.spec_l2View [(.t 9), (.t 10)]), [], [2, 3]⟩,
 ⟨(none, .call (some 14) F.spec_l2View [(.t 12), (.t 13)]), [], []⟩,
 ⟨(none, .call (some 15) F.spec_l1Same [(.t 11), (.t 14)]), [], []⟩,
 ⟨(none, .mv 16 (.t 15)), [], []⟩,
 ⟨(some (16, true), .loadN 17 4 (.t 4)), [], []⟩,
 ⟨(some (16, true), .mv 18 (.t 3)), [], []⟩,
 ⟨(some (16, true), .loadN 20 4 (.t 5)), [], []⟩,
 ⟨(some (16, true), .mv 21 (.t 3)), [], []⟩,
 ⟨(some (16, true), .call (some 19) F.spec_l2View [(.t 17), (.t 18)]), [], [10, 11]⟩,
 ⟨(some (16, true), .call (some 22) F.spec_l2View [(.t 20), (.t 21)]), [], []⟩,
 ⟨(some (16, true), .call (some 23) F.spec_l1Same [(.t 19), (.t 22)]), [], []⟩,
 ⟨(none, .pick 24 (.t 16) (.t 23) (.c (.B false))), [], []⟩,
 ⟨(none, .mv 8 (.t 24)), [], []⟩])
 (.ret))⟩
def impl_alike : AFn :=
 ⟨4, 19, [.tmp 8],
 .seq (.ops [(none, .box 4 (.t 0)),
 (none, .box 5 (.t 1)),
 (none, .mv 8 (.c (.B false)))])
 (.seq (.ops [(none, .mkf 10 F.impl_alike_1 [(.t 4), (.t 5)]),
 (none, .mv 9 (.t 10))])
 (.seq (.ops [(none, .mv 11 (.t 9)),
 (none, .mv 12 (.t 2)),
 (none, .callV (some 13) (.t 11) [(.t 12)]),
 (none, .mv 14 (.t 13)),
 (some (14, true), .mv 15 (.t 9)),
 (some (14, true), .mv 16 (.t 3)),
 (some (14, true), .callV (some 17) (.t 15) [(.t 16)]),
 (none, .pick 18 (.t 14) (.t 17) (.c (.B false))),
 (none, .mv 8 (.t 18))])
 (.ret)))⟩
def impl_alike_1 : AFn :=
 ⟨3, 18, [.tmp 4],
 .seq (.ops [(none, .mv 4 (.c (.B false)))])
 (.seq (.draw [⟨(none, .loadN 5 4 (.t 1)), [], []⟩,
 ⟨(none, .loadN 7 4 (.t 1)), [], []⟩,
 ⟨(none, .mv 9 (.t 0)), [], []⟩,
 ⟨(none, .loadN 11 4 (.t 2)), [], []⟩,
 ⟨(none, .loadN 13 4 (.t 2)), [], []⟩,
 ⟨(none, .mv 15 (.t 0)), [], []⟩,
 ⟨(none, .call (some 6) F.impl_Heap_box [(.t 5)]), [], [1, 2, 3, 4, 5]⟩,
 ⟨(none, .call (some 8) F.impl_Heap_cubes [(.t 7)]), [], [2, 3, 4, 5]⟩,
 ⟨(none, .call (some 10) F.impl_box_view [(.t 6), (.t 8), (.t 9)]), [], [3, 4, 5]⟩,
 ⟨(none, .call (some 12) F.impl_Heap_box [(.t 11)]), [], [4, 5]⟩,
 ⟨(none, .call (some 14) F.impl_Heap_cubes [(.t 13)]), [], [5]⟩,
 ⟨(none, .call (some 16) F.impl_box_view [(.t 12), (.t 14), (.t 15)]), [], []⟩,
 ⟨(none, .call (some 17) F.slices_Equal_Sint_int [(.t 10), (.t 16)]), [], []⟩,
 ⟨(none, .mv 4 (.t 17)), [], []⟩])
 (.ret))⟩
end Go.Ab.C

/- That the program has this code. -/
namespace Go.Ab.K
open Go Go.Ab
theorem spec_l4Alike : prepF Go.Proofs.Try.prog F.spec_l4Alike = some C.spec_l4Alike := by kernel_rfl
theorem impl_alike : prepF Go.Proofs.Try.prog F.impl_alike = some C.impl_alike := by kernel_rfl
theorem impl_alike_1 : prepF Go.Proofs.Try.prog F.impl_alike_1 = some C.impl_alike_1 := by kernel_rfl
end Go.Ab.K
