/- Parts of the proof of FnExactAreSameFormSaid: Tn C_Th K_Th Th Tp Tq LAreSameForm Ra Rb. -/
import Derived.Test.YtjpdjjeddagjlaaA5
import Derived.Test.YtjpdjjeddagjlaaA4
import Derived.Test.YtjpdjjeddagjlaaA7
import Derived.Test.YtjpdjjeddagjlaaA8
import Derived.Test.YtjpdjjeddagjlaaA3
import Derived.Test.YtjpdjjeddagjlaaProg
import Derived.KernelRfl
import Derived.Below
import Derived.Lib.SmallJoins
import Derived.Deep.Slices
import Derived.Laws.IdiomArrays
set_option linter.all false
/- Contracts: the program's positions and forms. -/
namespace Go.Ab
open Go
set_option linter.unusedSimpArgs false
set_option linter.unusedVariables false

/-- Heaps, as the elements of a slice; each with the block of its cells. -/
def hrow (p : Nat × Hp) : List LV := [.I p.2.x, .I p.2.y, .I p.2.z, .ref p.1 0 p.2.cs.length]
def hpL (l : List (Nat × Hp)) : List LV := l.flatMap hrow
theorem hpL_append (l m : List (Nat × Hp)) : hpL (l ++ m) = hpL l ++ hpL m := by simp [hpL]
theorem hpL_len (l : List (Nat × Hp)) : (hpL l).length = l.length * 4 := by
  induction l with
  | nil => rfl
  | cons t l ih => rw [show hpL (t :: l) = hrow t ++ hpL l from rfl, List.length_append, ih, List.length_cons]; simp [hrow]; omega
theorem hpL_at {l : List (Nat × Hp)} : ∀ {k : Nat}, (hk : k < l.length) → ((hpL l).drop (k * 4)).take 4 = hrow l[k] := by
  induction l with
  | nil => intro k hk; simp at hk
  | cons t l ih =>
    intro k hk
    have e : hpL (t :: l) = hrow t ++ hpL l := rfl
    have hr : (hrow t).length = 4 := rfl
    cases k with
    | zero => rw [e, Nat.zero_mul, List.drop_zero, List.take_append_of_le_length (by omega), List.take_of_length_le (by omega)]; rfl
    | succ k =>
      rw [e, List.drop_append, List.drop_eq_nil_of_le (by omega), List.nil_append, hr, show (k + 1) * 4 - 4 = k * 4 by omega, ih (by simpa using hk)]
      rfl
theorem Live.hp {N : Mem} {t k e : Nat} {w : Bool} {l : List (Nat × Hp)} (h : Live N t (.row (hpL l) w e)) (hk : k < l.length) : getCells N t (k * 4) 4 = some (hrow l[k]) := by
  rw [h.cells, if_pos (by rw [hpL_len]; omega), hpL_at hk]
/-- All these heaps' cells are there, behind M. -/
def HpsOK (M N : Mem) (l : List (Nat × Hp)) : Prop := ∀ p ∈ l, Live N p.1 (.row (triL p.2.cs) true 3) ∧ M.length ≤ p.1 ∧ p.2.cs.length ≤ 64
theorem HpsOK.pre {M N N' : Mem} {l : List (Nat × Hp)} (h : HpsOK M N l) (hp : Pre N N') : HpsOK M N' l := fun p hpl => ⟨(h p hpl).1.pre hp, (h p hpl).2⟩

def bestP (b : Nat × Hp) (l : List (Nat × Hp)) : Nat × Hp := l.foldl (fun b n => if lessHp n.2 b.2 then n else b) b
theorem bestP_mem : ∀ {l : List (Nat × Hp)} {b : Nat × Hp}, bestP b l ∈ b :: l
  | [], b => by simp [bestP]
  | a :: l, b => by
    have h := bestP_mem (l := l) (b := if lessHp a.2 b.2 then a else b)
    rw [show bestP b (a :: l) = bestP (if lessHp a.2 b.2 then a else b) l from rfl]
    rcases List.mem_cons.1 h with h | h
    · rw [h]; split <;> simp
    · simp [h]
theorem bestP_snd : ∀ {l : List (Nat × Hp)} {b : Nat × Hp}, (bestP b l).2 = bestH b.2 (l.map (·.2))
  | [], b => rfl
  | a :: l, b => by
    rw [show bestP b (a :: l) = bestP (if lessHp a.2 b.2 then a else b) l from rfl, bestP_snd, List.map_cons, show bestH b.2 (a.2 :: l.map (·.2)) = bestH (if lessHp a.2 b.2 then a.2 else b.2) (l.map (·.2)) from rfl]
    split <;> rfl

theorem g_MinFunc {p : Nat × Hp} {l : List (Nat × Hp)} {t : Nat} {w : Bool} {M0 M : Mem} (h : Live M t (.row (hpL (p :: l)) w 4)) (hok : HpsOK M0 M (p :: l)) (hn : l.length ≤ 1000) :
    CallsTo PG F.slices_MinFunc_Simpl_Heap_impl_Heap [.ref t 0 (l.length + 1), .clo F.impl_compareHeaps []] M (.agg (hrow (bestP p l))) M := by
  have ht := h.lt
  have g0 := h.hp (k := 0) (by simp)
  rw [Nat.zero_mul] at g0
  have hz : ¬ ((l.length : Int) + 1 < 1) := by omega
  have hlo : ∀ q ∈ p :: l, q.1 < M.length := fun q hq => (hok q hq).1.lt
  refine calls_run K.slices_MinFunc_Simpl_Heap_impl_Heap rfl ?_
  simp (disch := omega) only [C.slices_MinFunc_Simpl_Heap_impl_Heap, hz, (getCells_app ht), g0, hrow, splice, List.getElem_cons_zero, Nat.zero_mul, ↓SXd, SXu, slBounds, ↓sop, ↓aop, ↓reduceIte, LV.cells, AOp.dst, LV.I, LV.B, LV.U, LV.S, LV.nil, Nat.reduceEqDiff, Nat.reduceAdd, Nat.reduceMul, Nat.reduceSub, Nat.reduceLeDiff, Nat.reduceBEq, Nat.reduceDiv, Nat.reduceMod, Int.reduceToNat, Int.reduceLT, Int.reduceLE, Int.reduceAdd, Int.reduceSub, Int.reduceMul, Int.reduceEq, Int.reduceNeg, reduceCtorEq, resV, resAll, ARes.ev, LV.flat, ite_true, ite_false, exists_eq_left', exists_eq_left, keyOf, implies_true, fillC, capOf]
  have hbm : ∀ k, bestP p (l.take k) ∈ p :: l := fun k => by
    rcases List.mem_cons.1 (bestP_mem (l := l.take k) (b := p)) with h | h
    · rw [h]; simp
    · exact List.mem_cons.2 (.inr (List.mem_of_mem_take h))
  refine ev_loop (fun m fr M' => ∃ k : Nat, k + m = l.length ∧ Pre M M' ∧ Live M' M.length (.row [.I 0, .I 0, .I 0, .nil] true 0) ∧ Live M' (M.length + 1) (.row (hrow (bestP p (l.take k))) true 0) ∧
    fr 0 = .ref t 0 (l.length + 1) ∧ fr 1 = .clo F.impl_compareHeaps [] ∧ fr 4 = .ptr M.length 0 ∧ fr 5 = .ptr (M.length + 1) 0 ∧ fr 6 = .I (k + 1)) l.length
    ⟨0, by omega, Pre.app _ _, Live.new, Live.newj rfl, rfl, rfl, rfl, rfl, rfl⟩ ?_
  rintro m fr M' ⟨k, hk, hpre, b4, b5, f0, f1, f4, f5, f6⟩
  have hl5 := b5.lt
  by_cases hlt : (k : Int) + 1 < l.length + 1
  · have hkl : k < l.length := by omega
    have hc : (k : Int) + 1 < ((l.length + 1 : Nat) : Int) := by omega
    have hb := hok _ (hbm k)
    have hq := hok _ (List.mem_cons.2 (.inr (List.getElem_mem hkl)))
    have hg := (h.pre hpre).hp (k := k + 1) (by simp; omega)
    rw [List.getElem_cons_succ] at hg
    have hts : bestP p (l.take (k + 1)) = if lessHp l[k].2 (bestP p (l.take k)).2 then l[k] else bestP p (l.take k) := by
      rw [List.take_succ, List.getElem?_eq_getElem hkl]; unfold bestP; rw [Option.toList_some, List.foldl_append]; rfl
    have hkk : ((k : Int) + 1).toNat = k + 1 := by omega
    generalize l[k] = q at hq hg hts
    generalize bestP p (l.take k) = B at hb b5 hts
    have hlq := hq.1.lt
    have hlb := hb.1.lt
    simp (disch := omega) only [f0, f1, f4, f5, f6, hc, hkk, hg, b5.cells, hrow, List.map_nil, List.append_nil, ↓SXd, SXu, slBounds, ↓sop, ↓aop, ↓reduceIte, LV.cells, AOp.dst, LV.I, LV.B, LV.U, LV.S, LV.nil, Nat.reduceEqDiff, Nat.reduceAdd, Nat.reduceMul, Nat.reduceSub, Nat.reduceLeDiff, Nat.reduceBEq, Nat.reduceDiv, Nat.reduceMod, Int.reduceToNat, Int.reduceLT, Int.reduceLE, Int.reduceAdd, Int.reduceSub, Int.reduceMul, Int.reduceEq, Int.reduceNeg, reduceCtorEq, resV, resAll, ARes.ev, LV.flat, ite_true, ite_false, exists_eq_left', exists_eq_left, keyOf, implies_true, fillC, capOf]
    refine callK_of (g_compareHeaps (g := q.2) (h := B.2) (hq.1.pre hpre).has (hb.1.pre hpre).has (by omega) (by omega)) ?_
    simp (disch := omega) only [f0, f1, f4, f5, f6, ↓SXd, SXu, slBounds, ↓sop, ↓aop, ↓reduceIte, LV.cells, AOp.dst, LV.I, LV.B, LV.U, LV.S, LV.nil, Nat.reduceEqDiff, Nat.reduceAdd, Nat.reduceMul, Nat.reduceSub, Nat.reduceLeDiff, Nat.reduceBEq, Nat.reduceDiv, Nat.reduceMod, Int.reduceToNat, Int.reduceLT, Int.reduceLE, Int.reduceAdd, Int.reduceSub, Int.reduceMul, Int.reduceEq, Int.reduceNeg, reduceCtorEq, resV, resAll, ARes.ev, LV.flat, ite_true, ite_false, exists_eq_left', exists_eq_left, keyOf, implies_true, fillC, capOf]
    have hcl := cmpH_lt (g := q.2) (h := B.2)
    by_cases hls : lessHp q.2 B.2 = true
    · have hneg := hcl.2 hls
      rw [if_pos hls] at hts
      simp (disch := omega) only [f0, f1, f4, f5, f6, hneg, hkk, hg, hrow, ↓SXd, SXu, slBounds, ↓sop, ↓aop, ↓reduceIte, LV.cells, AOp.dst, LV.I, LV.B, LV.U, LV.S, LV.nil, Nat.reduceEqDiff, Nat.reduceAdd, Nat.reduceMul, Nat.reduceSub, Nat.reduceLeDiff, Nat.reduceBEq, Nat.reduceDiv, Nat.reduceMod, Int.reduceToNat, Int.reduceLT, Int.reduceLE, Int.reduceAdd, Int.reduceSub, Int.reduceMul, Int.reduceEq, Int.reduceNeg, reduceCtorEq, resV, resAll, ARes.ev, LV.flat, ite_true, ite_false, exists_eq_left', exists_eq_left, keyOf, implies_true, fillC, capOf]
      refine memK_box b5 (by simp [hrow]) fun N3 k1 k2 k3 => ?_
      simp (disch := omega) only [f0, f1, f4, f5, f6, ↓SXd, SXu, slBounds, ↓sop, ↓aop, ↓reduceIte, LV.cells, AOp.dst, LV.I, LV.B, LV.U, LV.S, LV.nil, Nat.reduceEqDiff, Nat.reduceAdd, Nat.reduceMul, Nat.reduceSub, Nat.reduceLeDiff, Nat.reduceBEq, Nat.reduceDiv, Nat.reduceMod, Int.reduceToNat, Int.reduceLT, Int.reduceLE, Int.reduceAdd, Int.reduceSub, Int.reduceMul, Int.reduceEq, Int.reduceNeg, reduceCtorEq, resV, resAll, ARes.ev, LV.flat, ite_true, ite_false, exists_eq_left', exists_eq_left, keyOf, implies_true, fillC, capOf]
      refine ⟨m - 1, by omega, k + 1, by omega, pre_step hpre (by omega) (j := 0) k1 k3, live_step b4 (by omega) k3, ?_, f0, f1, f4, f5, eqI (by omega)⟩
      rw [hts]; exact k2
    · have hneg : ¬ cmpH q.2 B.2 < 0 := fun h => hls (hcl.1 h)
      rw [if_neg hls] at hts
      simp (disch := omega) only [f0, f1, f4, f5, f6, hneg, ↓SXd, SXu, slBounds, ↓sop, ↓aop, ↓reduceIte, LV.cells, AOp.dst, LV.I, LV.B, LV.U, LV.S, LV.nil, Nat.reduceEqDiff, Nat.reduceAdd, Nat.reduceMul, Nat.reduceSub, Nat.reduceLeDiff, Nat.reduceBEq, Nat.reduceDiv, Nat.reduceMod, Int.reduceToNat, Int.reduceLT, Int.reduceLE, Int.reduceAdd, Int.reduceSub, Int.reduceMul, Int.reduceEq, Int.reduceNeg, reduceCtorEq, resV, resAll, ARes.ev, LV.flat, ite_true, ite_false, exists_eq_left', exists_eq_left, keyOf, implies_true, fillC, capOf]
      exact ⟨m - 1, by omega, k + 1, by omega, hpre, b4, by rw [hts]; exact b5, f0, f1, f4, f5, eqI (by omega)⟩
  · have hc : ¬ (k : Int) + 1 < ((l.length + 1 : Nat) : Int) := by omega
    have hkl : k = l.length := by omega
    subst hkl
    rw [List.take_length] at b5
    have hb := hok _ (by have := hbm l.length; rw [List.take_length] at this; exact this)
    have hlb := hb.1.lt
    simp (disch := omega) only [f0, f1, f4, f5, f6, hc, b5.cells, hrow, ↓SXd, SXu, slBounds, ↓sop, ↓aop, ↓reduceIte, LV.cells, AOp.dst, LV.I, LV.B, LV.U, LV.S, LV.nil, Nat.reduceEqDiff, Nat.reduceAdd, Nat.reduceMul, Nat.reduceSub, Nat.reduceLeDiff, Nat.reduceBEq, Nat.reduceDiv, Nat.reduceMod, Int.reduceToNat, Int.reduceLT, Int.reduceLE, Int.reduceAdd, Int.reduceSub, Int.reduceMul, Int.reduceEq, Int.reduceNeg, reduceCtorEq, resV, resAll, ARes.ev, LV.flat, ite_true, ite_false, exists_eq_left', exists_eq_left, keyOf, implies_true, fillC, capOf]
    refine memK_box b4 (by simp) fun N3 k1 k2 k3 => ?_
    simp (disch := omega) only [f0, f1, f4, f5, f6, k2.cells, ↓SXd, SXu, slBounds, ↓sop, ↓aop, ↓reduceIte, LV.cells, AOp.dst, LV.I, LV.B, LV.U, LV.S, LV.nil, Nat.reduceEqDiff, Nat.reduceAdd, Nat.reduceMul, Nat.reduceSub, Nat.reduceLeDiff, Nat.reduceBEq, Nat.reduceDiv, Nat.reduceMod, Int.reduceToNat, Int.reduceLT, Int.reduceLE, Int.reduceAdd, Int.reduceSub, Int.reduceMul, Int.reduceEq, Int.reduceNeg, reduceCtorEq, resV, resAll, ARes.ev, LV.flat, ite_true, ite_false, exists_eq_left', exists_eq_left, keyOf, implies_true, fillC, capOf]
    exact cmp_pre (pre_step hpre (by omega) (j := 0) k1 k3) (by simp [LV.lo, LV.lo1, hlb])

theorem appendK_1L {M L : Mem} {t n e b : Nat} {acc new : List LV} {A : LV → Mem → Prop} (ht : Live (M ++ L) t (.row acc true e)) (hn : acc.length = n * e) (hne : new.length = e) (he : 0 < e)
    (hb : (n + 1) * b ≤ 140737488355328) (hn' : n + 1 ≤ 9223372036854775807)
    (hA : ∀ M', M'.length = (M ++ L).length + 2 → Live M' (M.length + L.length + 1) (.row (acc ++ new) true e) → (∀ u, u ≠ t → u < (M ++ L).length → M'[u]? = (M ++ L)[u]?) → A (.ref (M.length + L.length + 1) 0 (n + 1)) M') :
    appendK e b (.ref t 0 n) (.ref (M.length + L.length) 0 1) (M ++ (L ++ [some (.row new true e)])) A := by
  rw [← List.append_assoc, ← List.length_append]
  refine appendK_1 ht hn hne he hb hn' ?_
  intro M' h1 h2 h3
  rw [List.length_append] at h2 ⊢
  exact hA M' h1 h2 h3
theorem g_positions {x y z : Int} {t : Nat} {w : Bool} {cs : List Cell} {M : Mem} (h : Live M t (.row (triL cs) w 3)) (hH : HeapOK x y z cs) (h0 : 0 < cs.length) :
    CallsR PG F.impl_Heap_positions [.agg [.I x, .I y, .I z, .ref t 0 cs.length]] M fun v N => ∃ (u : Nat) (l : List (Nat × Hp)), v = .ref u 0 24 ∧ l.map (·.2) = turns.map (posHp x y z cs) ∧ Live N u (.row (hpL l) true 4) ∧ HpsOK M N l ∧ Pre M N ∧ M.length ≤ u := by
  have ht := h.lt
  have hlen := hH.len
  have h24 := turns_len
  refine callsR_run K.impl_Heap_positions rfl ?_
  simp (disch := omega) only [C.impl_Heap_positions, ↓SXd, SXu, slBounds, ↓sop, ↓aop, ↓reduceIte, LV.cells, AOp.dst, LV.I, LV.B, LV.U, LV.S, LV.nil, Nat.reduceEqDiff, Nat.reduceAdd, Nat.reduceMul, Nat.reduceSub, Nat.reduceLeDiff, Nat.reduceBEq, Nat.reduceDiv, Nat.reduceMod, Int.reduceToNat, Int.reduceLT, Int.reduceLE, Int.reduceAdd, Int.reduceSub, Int.reduceMul, Int.reduceEq, Int.reduceNeg, reduceCtorEq, resV, resAll, ARes.ev, LV.flat, ite_true, ite_false, exists_eq_left', exists_eq_left, keyOf, implies_true, fillC, capOf]
  refine callK_of (g_turnings) ?_
  simp (disch := omega) only [↓SXd, SXu, slBounds, ↓sop, ↓aop, ↓reduceIte, LV.cells, AOp.dst, LV.I, LV.B, LV.U, LV.S, LV.nil, Nat.reduceEqDiff, Nat.reduceAdd, Nat.reduceMul, Nat.reduceSub, Nat.reduceLeDiff, Nat.reduceBEq, Nat.reduceDiv, Nat.reduceMod, Int.reduceToNat, Int.reduceLT, Int.reduceLE, Int.reduceAdd, Int.reduceSub, Int.reduceMul, Int.reduceEq, Int.reduceNeg, reduceCtorEq, resV, resAll, ARes.ev, LV.flat, ite_true, ite_false, exists_eq_left', exists_eq_left, keyOf, implies_true, fillC, capOf]
  rw [h24]
  refine ev_loop (fun m fr M' => ∃ (k u : Nat) (l : List (Nat × Hp)), k + m = 24 ∧ l.map (·.2) = (turns.map (posHp x y z cs)).take k ∧ l.length = k ∧ Pre M M' ∧ M.length ≤ u ∧ Live M' M.length (.row [.I x, .I y, .I z, .ref t 0 cs.length] true 0) ∧ Live M' (M.length + 2) (.row (sixL turns) true 6) ∧ Live M' u (.row (hpL l) true 4) ∧ HpsOK M M' l ∧
    fr 1 = .ptr M.length 0 ∧ fr 3 = .ref u 0 l.length ∧ fr 9 = .ref (M.length + 2) 0 24 ∧ fr 10 = .I 24 ∧ fr 11 = .I k) 24
    ⟨0, M.length + 1, [], rfl, rfl, rfl, Pre.app _ _, by omega, Live.new, Live.newj rfl, Live.newj rfl, (fun p hp => by cases hp), rfl, rfl, rfl, rfl, rfl⟩ ?_
  rintro m fr M' ⟨k, u, l, hk, hl, hlk, hpre, hu, b1, b9, bu, hok, f1, f3, f9, f10, f11⟩
  simp (disch := omega) only [f1, f3, f9, f10, f11, ↓SXd, SXu, slBounds, ↓sop, ↓aop, ↓reduceIte, LV.cells, AOp.dst, LV.I, LV.B, LV.U, LV.S, LV.nil, Nat.reduceEqDiff, Nat.reduceAdd, Nat.reduceMul, Nat.reduceSub, Nat.reduceLeDiff, Nat.reduceBEq, Nat.reduceDiv, Nat.reduceMod, Int.reduceToNat, Int.reduceLT, Int.reduceLE, Int.reduceAdd, Int.reduceSub, Int.reduceMul, Int.reduceEq, Int.reduceNeg, reduceCtorEq, resV, resAll, ARes.ev, LV.flat, ite_true, ite_false, exists_eq_left', exists_eq_left, keyOf, implies_true, fillC, capOf]
  refine condC_dec (fun hlt => ?_) (fun hlt => ?_)
  · have hk24 : k < turns.length := by omega
    have hT := turns_ok _ (List.getElem_mem hk24)
    have hsx := b9.six hk24
    have hts : (turns.map (posHp x y z cs)).take (k + 1) = (turns.map (posHp x y z cs)).take k ++ [posHp x y z cs turns[k]] := by
      rw [List.take_succ, List.getElem?_eq_getElem (by simpa using hk24)]; simp
    generalize turns[k] = T at hT hsx hts
    have hl9 := b9.lt
    have hlu := bu.lt
    have hH' := turnHp_ok hH T
    have hlen' := hH'.len
    simp (disch := omega) only [f1, f3, f9, f10, f11, hsx, Turn.row, Cell.row, List.cons_append, List.nil_append, splice, b1.app.cells, ↓SXd, SXu, slBounds, ↓sop, ↓aop, ↓reduceIte, LV.cells, AOp.dst, LV.I, LV.B, LV.U, LV.S, LV.nil, Nat.reduceEqDiff, Nat.reduceAdd, Nat.reduceMul, Nat.reduceSub, Nat.reduceLeDiff, Nat.reduceBEq, Nat.reduceDiv, Nat.reduceMod, Int.reduceToNat, Int.reduceLT, Int.reduceLE, Int.reduceAdd, Int.reduceSub, Int.reduceMul, Int.reduceEq, Int.reduceNeg, reduceCtorEq, resV, resAll, ARes.ev, LV.flat, ite_true, ite_false, exists_eq_left', exists_eq_left, keyOf, implies_true, fillC, capOf]
    refine callK_of (g_turning_of (h.pre (hpre.trans (Pre.app _ _))) hH hT) ?_
    simp (disch := omega) only [f1, f3, f9, f10, f11, ↓SXd, SXu, slBounds, ↓sop, ↓aop, ↓reduceIte, LV.cells, AOp.dst, LV.I, LV.B, LV.U, LV.S, LV.nil, Nat.reduceEqDiff, Nat.reduceAdd, Nat.reduceMul, Nat.reduceSub, Nat.reduceLeDiff, Nat.reduceBEq, Nat.reduceDiv, Nat.reduceMod, Int.reduceToNat, Int.reduceLT, Int.reduceLE, Int.reduceAdd, Int.reduceSub, Int.reduceMul, Int.reduceEq, Int.reduceNeg, reduceCtorEq, resV, resAll, ARes.ev, LV.flat, ite_true, ite_false, exists_eq_left', exists_eq_left, keyOf, implies_true, fillC, capOf]
    refine callK_of (g_CropHeap (Live.newj (M := M') (j := 1) (b := .row (triL (turnHp x y z T cs).cs) true 3) rfl) hH' (turnHp_pos hH h0 T)) ?_
    simp (disch := omega) only [f1, f3, f9, f10, f11, splice, ↓SXd, SXu, slBounds, ↓sop, ↓aop, ↓reduceIte, LV.cells, AOp.dst, LV.I, LV.B, LV.U, LV.S, LV.nil, Nat.reduceEqDiff, Nat.reduceAdd, Nat.reduceMul, Nat.reduceSub, Nat.reduceLeDiff, Nat.reduceBEq, Nat.reduceDiv, Nat.reduceMod, Int.reduceToNat, Int.reduceLT, Int.reduceLE, Int.reduceAdd, Int.reduceSub, Int.reduceMul, Int.reduceEq, Int.reduceNeg, reduceCtorEq, resV, resAll, ARes.ev, LV.flat, ite_true, ite_false, exists_eq_left', exists_eq_left, keyOf, implies_true, fillC, capOf]
    rw [show posHp x y z cs T = cropHp (turnHp x y z T cs).cs from rfl] at hts
    have hpl : (cropHp (turnHp x y z T cs).cs).cs.length ≤ 64 := by rw [cropHp_len]; exact hlen'
    generalize cropHp (turnHp x y z T cs).cs = P at hts hpl ⊢
    generalize (turnHp x y z T cs).cs = Q
    refine appendK_1L (e := 4) (b := 48) (acc := hpL l) (new := hrow (M'.length + 2, P)) (L := [some (.row [.I T.fr.a, .I T.fr.b, .I T.fr.c, .I T.fl.a, .I T.fl.b, .I T.fl.c] true 0), some (.row (triL Q) true 3), some (.row (triL P.cs) true 3), some (.row [.I P.x, .I P.y, .I P.z, .ref (M'.length + 2) 0 P.cs.length] true 0)]) bu.app (by rw [hpL_len]) rfl (by omega) (by omega) (by omega) fun N' l1 l2 l3 => ?_
    simp (disch := omega) only [f1, f3, f9, f10, f11, ↓SXd, SXu, slBounds, ↓sop, ↓aop, ↓reduceIte, LV.cells, AOp.dst, LV.I, LV.B, LV.U, LV.S, LV.nil, Nat.reduceEqDiff, Nat.reduceAdd, Nat.reduceMul, Nat.reduceSub, Nat.reduceLeDiff, Nat.reduceBEq, Nat.reduceDiv, Nat.reduceMod, Int.reduceToNat, Int.reduceLT, Int.reduceLE, Int.reduceAdd, Int.reduceSub, Int.reduceMul, Int.reduceEq, Int.reduceNeg, reduceCtorEq, resV, resAll, ARes.ev, LV.flat, ite_true, ite_false, exists_eq_left', exists_eq_left, keyOf, implies_true, fillC, capOf]
    have hP : Live (M' ++ [some (.row [.I T.fr.a, .I T.fr.b, .I T.fr.c, .I T.fl.a, .I T.fl.b, .I T.fl.c] true 0), some (.row (triL Q) true 3), some (.row (triL P.cs) true 3), some (.row [.I P.x, .I P.y, .I P.z, .ref (M'.length + 2) 0 P.cs.length] true 0)]) (M'.length + 2) (.row (triL P.cs) true 3) := Live.newj (j := 2) rfl
    have hM := hpre.1
    refine ⟨m - 1, by omega, k + 1, M'.length + 4 + 1, l ++ [(M'.length + 2, P)], by omega, ?_, by simp [hlk], pre_step (hpre.trans (Pre.app _ _)) hu l1 l3, by omega, live_step b1.app (b1.ne_esz bu (by decide)) l3, live_step b9.app (b9.ne_esz bu (by decide)) l3, ?_, fun p hp => ?_, f1, ?_, f9, f10, eqI (natI _)⟩
    · rw [List.map_append, hl, hts]; rfl
    · rw [hpL_append]; exact l2
    · rcases List.mem_append.1 hp with hp | hp
      · obtain ⟨q1, q2, q3⟩ := hok p hp
        exact ⟨live_step q1.app (q1.ne_esz bu (by decide)) l3, q2, q3⟩
      · rw [List.mem_singleton.1 hp]
        exact ⟨live_step hP (by simp only; omega) l3, by simp only; omega, hpl⟩
    · rw [List.length_append]; rfl
  · simp (disch := omega) only [f1, f3, f9, f10, f11, ↓SXd, SXu, slBounds, ↓sop, ↓aop, ↓reduceIte, LV.cells, AOp.dst, LV.I, LV.B, LV.U, LV.S, LV.nil, Nat.reduceEqDiff, Nat.reduceAdd, Nat.reduceMul, Nat.reduceSub, Nat.reduceLeDiff, Nat.reduceBEq, Nat.reduceDiv, Nat.reduceMod, Int.reduceToNat, Int.reduceLT, Int.reduceLE, Int.reduceAdd, Int.reduceSub, Int.reduceMul, Int.reduceEq, Int.reduceNeg, reduceCtorEq, resV, resAll, ARes.ev, LV.flat, ite_true, ite_false, exists_eq_left', exists_eq_left, keyOf, implies_true, fillC, capOf]
    have : k = 24 := by omega
    subst this
    rw [List.take_of_length_le (by simp [h24])] at hl
    exact ⟨u, l, by rw [hlk], hl, bu, hok, hpre, hu⟩

theorem form_best {x y z : Int} {cs : List Cell} (hH : HeapOK x y z cs) {p : Nat × Hp} {l : List (Nat × Hp)} (h : (p :: l).map (·.2) = turns.map (posHp x y z cs)) : (bestP p l).2 = formHp x y z cs ∧ p.2 = cropHp cs := by
  obtain ⟨T, h1, h2⟩ := turn0 hH
  obtain ⟨T', rest, ht⟩ : ∃ T' rest, turns = T' :: rest := by
    cases hh : turns with
    | nil => rw [hh] at h1; simp at h1
    | cons a b => exact ⟨a, b, rfl⟩
  rw [ht] at h1 h
  simp only [List.getElem?_cons_zero, Option.some.injEq] at h1
  subst h1
  rw [List.map_cons, List.map_cons, List.cons.injEq] at h
  obtain ⟨e1, e2⟩ := h
  have e3 : posHp x y z cs T' = cropHp cs := by unfold posHp; rw [h2]
  refine ⟨?_, by rw [e1, e3]⟩
  rw [bestP_snd, e1, e2, e3]
  unfold formHp
  rw [ht, List.map_cons, show bestH (cropHp cs) (posHp x y z cs T' :: rest.map (posHp x y z cs)) = bestH (if lessHp (posHp x y z cs T') (cropHp cs) then posHp x y z cs T' else cropHp cs) (rest.map (posHp x y z cs)) from rfl, e3]
  split <;> rfl

/-- A form as a value: its cells are in a block behind M. -/
def FormRes (M : Mem) (f : Hp) (v : LV) (N : Mem) : Prop := ∃ u : Nat, v = .agg [.I f.x, .I f.y, .I f.z, .ref u 0 f.cs.length] ∧ M.length ≤ u ∧ Live N u (.row (triL f.cs) true 3) ∧ Pre M N
theorem g_form {x y z : Int} {t : Nat} {w : Bool} {cs : List Cell} {M : Mem} (h : Live M t (.row (triL cs) w 3)) (hH : HeapOK x y z cs) (h0 : 0 < cs.length) :
    CallsR PG F.impl_Heap_form [.agg [.I x, .I y, .I z, .ref t 0 cs.length]] M (FormRes M (formHp x y z cs)) := by
  have ht := h.lt
  have h24 := turns_len
  refine callsR_run K.impl_Heap_form rfl ?_
  simp (disch := omega) only [C.impl_Heap_form, ↓SXd, SXu, slBounds, ↓sop, ↓aop, ↓reduceIte, LV.cells, AOp.dst, LV.I, LV.B, LV.U, LV.S, LV.nil, Nat.reduceEqDiff, Nat.reduceAdd, Nat.reduceMul, Nat.reduceSub, Nat.reduceLeDiff, Nat.reduceBEq, Nat.reduceDiv, Nat.reduceMod, Int.reduceToNat, Int.reduceLT, Int.reduceLE, Int.reduceAdd, Int.reduceSub, Int.reduceMul, Int.reduceEq, Int.reduceNeg, reduceCtorEq, resV, resAll, ARes.ev, LV.flat, ite_true, ite_false, exists_eq_left', exists_eq_left, keyOf, implies_true, fillC, capOf]
  refine callR_of (g_positions h.app hH h0) ?_
  rintro _ N ⟨u, l, rfl, hl, hu, hok, hp, hul⟩
  have hll : l.length = 24 := by
    have := congrArg List.length hl
    simpa [h24] using this
  obtain ⟨p, r, rfl⟩ : ∃ p r, l = p :: r := by
    cases l with
    | nil => simp at hll
    | cons a b => exact ⟨a, b, rfl⟩
  have hr : r.length = 23 := by simpa using hll
  have hmf := g_MinFunc hu hok (by omega)
  rw [hr] at hmf
  obtain ⟨hb, _⟩ := form_best hH hl
  have hm := hok _ (bestP_mem (l := r) (b := p))
  rw [show hrow (bestP p r) = [.I (bestP p r).2.x, .I (bestP p r).2.y, .I (bestP p r).2.z, .ref (bestP p r).1 0 (bestP p r).2.cs.length] from rfl] at hmf
  rw [hb] at hm hmf
  generalize (bestP p r).1 = ub at hm hmf
  generalize formHp x y z cs = f at hm hmf ⊢
  obtain ⟨q1, q2, q3⟩ := hm
  simp only [List.length_append, List.length_cons, List.length_nil] at q2 hul
  simp (disch := omega) only [↓SXd, SXu, slBounds, ↓sop, ↓aop, ↓reduceIte, LV.cells, AOp.dst, LV.I, LV.B, LV.U, LV.S, LV.nil, Nat.reduceEqDiff, Nat.reduceAdd, Nat.reduceMul, Nat.reduceSub, Nat.reduceLeDiff, Nat.reduceBEq, Nat.reduceDiv, Nat.reduceMod, Int.reduceToNat, Int.reduceLT, Int.reduceLE, Int.reduceAdd, Int.reduceSub, Int.reduceMul, Int.reduceEq, Int.reduceNeg, reduceCtorEq, resV, resAll, ARes.ev, LV.flat, ite_true, ite_false, exists_eq_left', exists_eq_left, keyOf, implies_true, fillC, capOf]
  refine callK_of (hmf) ?_
  simp (disch := omega) only [↓SXd, SXu, slBounds, ↓sop, ↓aop, ↓reduceIte, LV.cells, AOp.dst, LV.I, LV.B, LV.U, LV.S, LV.nil, Nat.reduceEqDiff, Nat.reduceAdd, Nat.reduceMul, Nat.reduceSub, Nat.reduceLeDiff, Nat.reduceBEq, Nat.reduceDiv, Nat.reduceMod, Int.reduceToNat, Int.reduceLT, Int.reduceLE, Int.reduceAdd, Int.reduceSub, Int.reduceMul, Int.reduceEq, Int.reduceNeg, reduceCtorEq, resV, resAll, ARes.ev, LV.flat, ite_true, ite_false, exists_eq_left', exists_eq_left, keyOf, implies_true, fillC, capOf]
  have b2 : Live N (M.length + 1) (.row [.I 0, .I 0, .I 0, .nil] true 0) := (Live.newj (j := 1) rfl).pre hp
  have hlq := q1.lt
  refine memK_box b2 (by simp) fun N3 k1 k2 k3 => ?_
  simp (disch := omega) only [k2.cells, ↓SXd, SXu, slBounds, ↓sop, ↓aop, ↓reduceIte, LV.cells, AOp.dst, LV.I, LV.B, LV.U, LV.S, LV.nil, Nat.reduceEqDiff, Nat.reduceAdd, Nat.reduceMul, Nat.reduceSub, Nat.reduceLeDiff, Nat.reduceBEq, Nat.reduceDiv, Nat.reduceMod, Int.reduceToNat, Int.reduceLT, Int.reduceLE, Int.reduceAdd, Int.reduceSub, Int.reduceMul, Int.reduceEq, Int.reduceNeg, reduceCtorEq, resV, resAll, ARes.ev, LV.flat, ite_true, ite_false, exists_eq_left', exists_eq_left, keyOf, implies_true, fillC, capOf]
  exact ⟨ub, rfl, by omega, live_step q1 (by omega) k3, pre_step ((Pre.app _ _).trans hp) (by omega) (j := 0) k1 k3⟩
end Go.Ab

/- The abstract code of some functions (written by a program of mine from the translation, by way of prepF). -/
namespace Go.Ab.C
open Go.Ab
def spec_l2Mirrored : AFn :=
  ⟨2, 41, [.cellN 4 4],
    .seq (.ops [(none, .box 2 (.t 0)),
       (none, .alloc 4 [(.I 0), (.I 0), (.I 0), .nil])])
    (.seq (.ops [(none, .fieldAddr 8 (.t 2) 0),
        (none, .load1 9 (.t 8)),
        (none, .fieldAddr 10 (.t 2) 1),
        (none, .load1 11 (.t 10)),
        (none, .fieldAddr 12 (.t 2) 2),
        (none, .load1 13 (.t 12)),
        (none, .call (some 14) F.spec_l2Empty [(.t 9), (.t 11), (.t 13)]),
        (none, .alloc 5 [(.I 0), (.I 0), (.I 0), .nil]),
        (none, .store 4 (.t 5) (.t 14))])
     (.seq (.seq (.ops [(none, .mv 6 (.c (.I 0)))])
       (.block 0 (.loop (.seq (.seq (.ops [(none, .mv 15 (.t 6)),
              (none, .fieldAddr 16 (.t 2) 3),
              (none, .load1 17 (.t 16)),
              (none, .len 18 (.t 17)),
              (none, .bin 19 .lss (.t 15) (.t 18))])
           (.cond (.t 19) (.skip)
            (.exit 0)))
          (.seq (.block 1 (.seq (.ops [(none, .fieldAddr 22 (.t 2) 3),
                (none, .load1 23 (.t 22)),
                (none, .mv 24 (.t 6)),
                (none, .idxS 25 3 (.t 23) (.t 24)),
                (none, .loadN 26 3 (.t 25)),
                (none, .alloc 7 [(.I 0), (.I 0), (.I 0)]),
                (none, .store 3 (.t 7) (.t 26))])
             (.seq (.draw [⟨(none, .mv 27 (.t 1)), [], []⟩,
                 ⟨(none, .loadN 28 4 (.t 2)), [], []⟩,
                 ⟨(none, .mv 29 (.t 1)), [], []⟩,
                 ⟨(none, .mv 32 (.t 1)), [], []⟩,
                 ⟨(none, .idxA 33 3 1 (.t 7) (.t 32)), [], []⟩,
                 ⟨(none, .load1 34 (.t 33)), [], []⟩,
                 ⟨(none, .call (some 30) F.spec_l2Long [(.t 28), (.t 29)]), [], [0, 3, 4, 5]⟩,
                 ⟨(none, .bin 31 .sub (.t 30) (.c (.I 1))), [], []⟩,
                 ⟨(none, .bin 35 .sub (.t 31) (.t 34)), [], []⟩,
                 ⟨(none, .idxA 36 3 1 (.t 7) (.t 27)), [], []⟩,
                 ⟨(none, .store 1 (.t 36) (.t 35)), [], []⟩])
              (.ops [(none, .loadN 37 4 (.t 5)),
                 (none, .loadN 38 3 (.t 7)),
                 (none, .call (some 39) F.spec_l2With [(.t 37), (.t 38)]),
                 (none, .store 4 (.t 5) (.t 39))]))))
           (.ops [(none, .mv 20 (.t 6)),
              (none, .bin 21 .add (.t 20) (.c (.I 1))),
              (none, .mv 6 (.t 21))]))))))
      (.seq (.ops [(none, .loadN 40 4 (.t 5)),
          (none, .store 4 (.t 4) (.t 40))])
       (.ret))))⟩
def spec_l8Handed : AFn :=
  ⟨1, 10, [.tmp 2],
    .seq (.ops [(none, .box 1 (.t 0)),
       (none, .mv 2 (.c (.B false)))])
    (.seq (.draw [⟨(none, .loadN 3 4 (.t 1)), [], []⟩,
        ⟨(none, .loadN 6 4 (.t 1)), [], []⟩,
        ⟨(none, .call (some 4) F.spec_l2Mirrored [(.t 3), (.c (.I 0))]), [], [1]⟩,
        ⟨(none, .call (some 5) F.spec_l8First [(.t 4)]), [], [1]⟩,
        ⟨(none, .call (some 7) F.spec_l8First [(.t 6)]), [], []⟩,
        ⟨(none, .call (some 8) F.spec_l8Same [(.t 5), (.t 7)]), [], []⟩,
        ⟨(none, .un 9 .not (.t 8)), [], []⟩,
        ⟨(none, .mv 2 (.t 9)), [], []⟩])
     (.ret))⟩
def spec_IsHanded : AFn :=
  ⟨1, 9, [.tmp 2, .tmp 3],
    .seq (.ops [(none, .box 1 (.t 0)),
       (none, .mv 2 (.c (.B false))),
       (none, .mv 3 (.c (.B false)))])
    (.seq (.seq (.ops [(none, .loadN 4 4 (.t 1)),
         (none, .call (some 5) F.spec_l8Some [(.t 4)]),
         (none, .un 6 .not (.t 5))])
      (.cond (.t 6) (.seq (.ops [(none, .mv 2 (.c (.B false))),
           (none, .mv 3 (.c (.B false)))])
        (.ret))
       (.skip)))
     (.seq (.ops [(none, .loadN 7 4 (.t 1)),
         (none, .call (some 8) F.spec_l8Handed [(.t 7)]),
         (none, .mv 2 (.t 8)),
         (none, .mv 3 (.c (.B true)))])
      (.ret)))⟩
def spec_AreSameForm : AFn :=
  ⟨2, 19, [.tmp 4, .tmp 5],
    .seq (.ops [(none, .box 2 (.t 0)),
       (none, .box 3 (.t 1)),
       (none, .mv 4 (.c (.B false))),
       (none, .mv 5 (.c (.B false)))])
    (.seq (.seq (.ops [(none, .loadN 6 4 (.t 2)),
         (none, .call (some 7) F.spec_l8Some [(.t 6)]),
         (none, .un 8 .not (.t 7)),
         (none, .mv 9 (.t 8)),
         (some (9, false), .loadN 10 4 (.t 3)),
         (some (9, false), .call (some 11) F.spec_l8Some [(.t 10)]),
         (some (9, false), .un 12 .not (.t 11)),
         (none, .pick 13 (.t 9) (.c (.B true)) (.t 12))])
      (.cond (.t 13) (.seq (.ops [(none, .mv 4 (.c (.B false))),
           (none, .mv 5 (.c (.B false)))])
        (.ret))
       (.skip)))
     (.seq (.draw [⟨(none, .loadN 14 4 (.t 2)), [], []⟩,
         ⟨(none, .loadN 16 4 (.t 3)), [], []⟩,
         ⟨(none, .call (some 15) F.spec_l8First [(.t 14)]), [], [1]⟩,
         ⟨(none, .call (some 17) F.spec_l8First [(.t 16)]), [], []⟩,
         ⟨(none, .call (some 18) F.spec_l8Same [(.t 15), (.t 17)]), [], []⟩,
         ⟨(none, .mv 4 (.t 18)), [], []⟩,
         ⟨(none, .mv 5 (.c (.B true))), [], []⟩])
      (.ret)))⟩
end Go.Ab.C

/- That the program has this code. -/
namespace Go.Ab.K
open Go Go.Ab
theorem spec_l2Mirrored : prepF Go.Proofs.Try.prog F.spec_l2Mirrored = some C.spec_l2Mirrored := by kernel_rfl
theorem spec_l8Handed : prepF Go.Proofs.Try.prog F.spec_l8Handed = some C.spec_l8Handed := by kernel_rfl
theorem spec_IsHanded : prepF Go.Proofs.Try.prog F.spec_IsHanded = some C.spec_IsHanded := by kernel_rfl
theorem spec_AreSameForm : prepF Go.Proofs.Try.prog F.spec_AreSameForm = some C.spec_AreSameForm := by kernel_rfl
end Go.Ab.K

/- Contracts: the reference's mirrored heaps; IsHanded, AreSameForm. -/
namespace Go.Ab
open Go
set_option linter.unusedSimpArgs false
set_option linter.unusedVariables false

def mirC (x : Int) (c : Cell) : Cell := ⟨x - 1 - c.a, c.b, c.c⟩
def mirHp (x y z : Int) (cs : List Cell) : List Cell := pick x y z fun d => decide (d ∈ cs.map (mirC x))
theorem mirC_in {x y z : Int} {c : Cell} (hc : c.inBox x y z) : (mirC x c).inBox x y z := by
  obtain ⟨⟨_, _⟩, h2, h3⟩ := hc
  exact ⟨⟨by unfold mirC; simp only; omega, by unfold mirC; simp only; omega⟩, h2, h3⟩
theorem mir_ok {x y z : Int} {cs : List Cell} (hS : Sides x y z) : HeapOK x y z (mirHp x y z cs) := pick_ok hS _
theorem mir_pos {x y z : Int} {cs : List Cell} (hH : HeapOK x y z cs) (h0 : 0 < cs.length) : 0 < (mirHp x y z cs).length := by
  have hm : mirC x (cs.getD 0 default) ∈ mirHp x y z cs := (mem_pick hH.1).2 ⟨mirC_in (hH.mem (getD_mem' h0)), decide_eq_true (List.mem_map_of_mem (getD_mem' h0))⟩
  exact List.length_pos_of_mem hm

theorem h_l2Mirrored {x y z : Int} {t : Nat} {w : Bool} {cs : List Cell} {M : Mem} (h : Live M t (.row (triL cs) w 3)) (hH : HeapOK x y z cs) :
    CallsTo PG F.spec_l2Mirrored [.agg [.I x, .I y, .I z, .ref t 0 cs.length], .I 0] M (.agg [.I x, .I y, .I z, .ref M.length 0 (mirHp x y z cs).length]) (M ++ [some (.row (triL (mirHp x y z cs)) true 3)]) := by
  have hS := hH.1
  have hlen := hH.len
  have ht := h.lt
  obtain ⟨⟨_, _⟩, ⟨_, _⟩, ⟨_, _⟩⟩ := id hS
  refine calls_run K.spec_l2Mirrored rfl ?_
  simp (disch := omega) only [C.spec_l2Mirrored, ↓SXd, SXu, slBounds, ↓sop, ↓aop, ↓reduceIte, LV.cells, AOp.dst, LV.I, LV.B, LV.U, LV.S, LV.nil, Nat.reduceEqDiff, Nat.reduceAdd, Nat.reduceMul, Nat.reduceSub, Nat.reduceLeDiff, Nat.reduceBEq, Nat.reduceDiv, Nat.reduceMod, Int.reduceToNat, Int.reduceLT, Int.reduceLE, Int.reduceAdd, Int.reduceSub, Int.reduceMul, Int.reduceEq, Int.reduceNeg, reduceCtorEq, resV, resAll, ARes.ev, LV.flat, ite_true, ite_false, exists_eq_left', exists_eq_left, keyOf, implies_true, fillC, capOf]
  refine callK_of (h_l2Empty) ?_
  simp (disch := omega) only [splice, ↓SXd, SXu, slBounds, ↓sop, ↓aop, ↓reduceIte, LV.cells, AOp.dst, LV.I, LV.B, LV.U, LV.S, LV.nil, Nat.reduceEqDiff, Nat.reduceAdd, Nat.reduceMul, Nat.reduceSub, Nat.reduceLeDiff, Nat.reduceBEq, Nat.reduceDiv, Nat.reduceMod, Int.reduceToNat, Int.reduceLT, Int.reduceLE, Int.reduceAdd, Int.reduceSub, Int.reduceMul, Int.reduceEq, Int.reduceNeg, reduceCtorEq, resV, resAll, ARes.ev, LV.flat, ite_true, ite_false, exists_eq_left', exists_eq_left, keyOf, implies_true, fillC, capOf]
  unfold mirHp
  have hLl : (cs.map (mirC x)).length = cs.length := List.length_map ..
  have hLg : ∀ i, i < cs.length → (cs.map (mirC x)).getD i default = mirC x (cs.getD i default) := fun i hi => by simp [hi]
  generalize cs.map (mirC x) = L at hLl hLg ⊢
  refine ev_loop (fun m fr M' => ∃ i u : Nat, i + m = cs.length ∧ Pre M M' ∧ Live M' M.length (.row [.I x, .I y, .I z, .ref t 0 cs.length] true 0) ∧ Live M' (M.length + 1) (.row [.I 0, .I 0, .I 0, .nil] true 0) ∧
    Live M' (M.length + 3) (.row [.I x, .I y, .I z, .ref u 0 (pick x y z fun d => decide (d ∈ L.take i)).length] true 0) ∧ Live M' u (.row (triL (pick x y z fun d => decide (d ∈ L.take i))) true 3) ∧ M.length ≤ u ∧
    fr 1 = .I 0 ∧ fr 2 = .ptr M.length 0 ∧ fr 4 = .ptr (M.length + 1) 0 ∧ fr 5 = .ptr (M.length + 3) 0 ∧ fr 6 = .I i) cs.length
    ⟨0, M.length + 2, by omega, Pre.app _ _, Live.new, Live.newj rfl, ?_, ?_, by omega, rfl, rfl, rfl, rfl, rfl⟩ ?_
  · rw [show (pick x y z fun d => decide (d ∈ L.take 0)) = [] by unfold pick; rw [List.filter_eq_nil_iff]; simp]; exact Live.newj rfl
  · rw [show (pick x y z fun d => decide (d ∈ L.take 0)) = [] by unfold pick; rw [List.filter_eq_nil_iff]; simp]; exact Live.newj rfl
  rintro m fr M' ⟨i, u, hi, hpre, b2, b4, b5, bu, hu, f1, f2, f4, f5, f6⟩
  simp (disch := omega) only [f1, f2, f4, f5, f6, b2.cell, ↓SXd, SXu, slBounds, ↓sop, ↓aop, ↓reduceIte, LV.cells, AOp.dst, LV.I, LV.B, LV.U, LV.S, LV.nil, Nat.reduceEqDiff, Nat.reduceAdd, Nat.reduceMul, Nat.reduceSub, Nat.reduceLeDiff, Nat.reduceBEq, Nat.reduceDiv, Nat.reduceMod, Int.reduceToNat, Int.reduceLT, Int.reduceLE, Int.reduceAdd, Int.reduceSub, Int.reduceMul, Int.reduceEq, Int.reduceNeg, reduceCtorEq, resV, resAll, ARes.ev, LV.flat, ite_true, ite_false, exists_eq_left', exists_eq_left, keyOf, implies_true, fillC, capOf]
  refine condC_dec (fun hlt => ?_) (fun hlt => ?_)
  · have hil : i < cs.length := by omega
    have hg := Tri.get (h.pre hpre).has hil
    have hci := hH.mem (getD_mem' (d := default) hil)
    have hmi := mirC_in hci
    have hLi := hLg i hil
    rw [Nat.zero_add] at hg
    generalize cs.getD i default = c at hg hci hmi hLi
    obtain ⟨⟨_, _⟩, ⟨_, _⟩, ⟨_, _⟩⟩ := id hci
    have hlb := b5.lt
    simp (disch := omega) only [f1, f2, f4, f5, f6, b2.cell, hg, Cell.row, splice, b2.app.cells, List.getElem?_append_left, ↓SXd, SXu, slBounds, ↓sop, ↓aop, ↓reduceIte, LV.cells, AOp.dst, LV.I, LV.B, LV.U, LV.S, LV.nil, Nat.reduceEqDiff, Nat.reduceAdd, Nat.reduceMul, Nat.reduceSub, Nat.reduceLeDiff, Nat.reduceBEq, Nat.reduceDiv, Nat.reduceMod, Int.reduceToNat, Int.reduceLT, Int.reduceLE, Int.reduceAdd, Int.reduceSub, Int.reduceMul, Int.reduceEq, Int.reduceNeg, reduceCtorEq, resV, resAll, ARes.ev, LV.flat, ite_true, ite_false, exists_eq_left', exists_eq_left, keyOf, implies_true, fillC, capOf]
    refine callK_of (h_l2Long (.inl rfl)) ?_
    simp (disch := omega) only [f1, f2, f4, f5, f6, splice, sideOf, if_true, List.getElem?_append_left, b5.app.cells, ↓SXd, SXu, slBounds, ↓sop, ↓aop, ↓reduceIte, LV.cells, AOp.dst, LV.I, LV.B, LV.U, LV.S, LV.nil, Nat.reduceEqDiff, Nat.reduceAdd, Nat.reduceMul, Nat.reduceSub, Nat.reduceLeDiff, Nat.reduceBEq, Nat.reduceDiv, Nat.reduceMod, Int.reduceToNat, Int.reduceLT, Int.reduceLE, Int.reduceAdd, Int.reduceSub, Int.reduceMul, Int.reduceEq, Int.reduceNeg, reduceCtorEq, resV, resAll, ARes.ev, LV.flat, ite_true, ite_false, exists_eq_left', exists_eq_left, keyOf, implies_true, fillC, capOf]
    refine callH_of (h_l2With (c := mirC x c) bu.app (pick_ok hS _) hmi) ?_
    intro sn N2 hsn hp3 hsr
    rw [← hLi, pick_take_step hS (by omega)] at hsr ⊢
    have hN2 := hp3.1
    simp only [List.length_append, List.length_singleton] at hsn hN2
    simp (disch := omega) only [f1, f2, f4, f5, f6, ↓SXd, SXu, slBounds, ↓sop, ↓aop, ↓reduceIte, LV.cells, AOp.dst, LV.I, LV.B, LV.U, LV.S, LV.nil, Nat.reduceEqDiff, Nat.reduceAdd, Nat.reduceMul, Nat.reduceSub, Nat.reduceLeDiff, Nat.reduceBEq, Nat.reduceDiv, Nat.reduceMod, Int.reduceToNat, Int.reduceLT, Int.reduceLE, Int.reduceAdd, Int.reduceSub, Int.reduceMul, Int.reduceEq, Int.reduceNeg, reduceCtorEq, resV, resAll, ARes.ev, LV.flat, ite_true, ite_false, exists_eq_left', exists_eq_left, keyOf, implies_true, fillC, capOf]
    refine memK_box (b5.app.pre hp3) (by simp) fun N3 k1 k2 k3 => ?_
    simp (disch := omega) only [f1, f2, f4, f5, f6, ↓SXd, SXu, slBounds, ↓sop, ↓aop, ↓reduceIte, LV.cells, AOp.dst, LV.I, LV.B, LV.U, LV.S, LV.nil, Nat.reduceEqDiff, Nat.reduceAdd, Nat.reduceMul, Nat.reduceSub, Nat.reduceLeDiff, Nat.reduceBEq, Nat.reduceDiv, Nat.reduceMod, Int.reduceToNat, Int.reduceLT, Int.reduceLE, Int.reduceAdd, Int.reduceSub, Int.reduceMul, Int.reduceEq, Int.reduceNeg, reduceCtorEq, resV, resAll, ARes.ev, LV.flat, ite_true, ite_false, exists_eq_left', exists_eq_left, keyOf, implies_true, fillC, capOf]
    exact ⟨m - 1, by omega, i + 1, sn, by omega, pre_step ((hpre.trans (Pre.app _ _)).trans hp3) (by omega) (j := 0) k1 k3, live_step (b2.app.pre hp3) (by omega) k3, live_step (b4.app.pre hp3) (by omega) k3, k2, live_step hsr (by omega) k3, by have := hpre.1; omega, f1, f2, f4, f5, eqI (natI _)⟩
  · have : i = cs.length := by omega
    subst this
    rw [← hLl, List.take_length] at b5 bu
    have hl5 := b5.lt
    simp (disch := omega) only [f1, f2, f4, f5, f6, b5.cells, ↓SXd, SXu, slBounds, ↓sop, ↓aop, ↓reduceIte, LV.cells, AOp.dst, LV.I, LV.B, LV.U, LV.S, LV.nil, Nat.reduceEqDiff, Nat.reduceAdd, Nat.reduceMul, Nat.reduceSub, Nat.reduceLeDiff, Nat.reduceBEq, Nat.reduceDiv, Nat.reduceMod, Int.reduceToNat, Int.reduceLT, Int.reduceLE, Int.reduceAdd, Int.reduceSub, Int.reduceMul, Int.reduceEq, Int.reduceNeg, reduceCtorEq, resV, resAll, ARes.ev, LV.flat, ite_true, ite_false, exists_eq_left', exists_eq_left, keyOf, implies_true, fillC, capOf]
    refine memK_box b4 (by simp) fun N3 k1 k2 k3 => ?_
    simp (disch := omega) only [f1, f2, f4, f5, f6, k2.cells, ↓SXd, SXu, slBounds, ↓sop, ↓aop, ↓reduceIte, LV.cells, AOp.dst, LV.I, LV.B, LV.U, LV.S, LV.nil, Nat.reduceEqDiff, Nat.reduceAdd, Nat.reduceMul, Nat.reduceSub, Nat.reduceLeDiff, Nat.reduceBEq, Nat.reduceDiv, Nat.reduceMod, Int.reduceToNat, Int.reduceLT, Int.reduceLE, Int.reduceAdd, Int.reduceSub, Int.reduceMul, Int.reduceEq, Int.reduceNeg, reduceCtorEq, resV, resAll, ARes.ev, LV.flat, ite_true, ite_false, exists_eq_left', exists_eq_left, keyOf, implies_true, fillC, capOf]
    exact cmp_keepL (pre_step hpre (by omega) (j := 0) k1 k3) hu (live_step bu (bu.ne_esz b4 (by decide)) k3) (triL_lo _) (by simp [rn, rn0, rn1])

def handB (x y z : Int) (cs : List Cell) : Bool := !(!lessHp (formHp x y z (mirHp x y z cs)) (formHp x y z cs) && !lessHp (formHp x y z cs) (formHp x y z (mirHp x y z cs)))
theorem h_l8Handed {x y z : Int} {t : Nat} {w : Bool} {cs : List Cell} {M : Mem} (h : Live M t (.row (triL cs) w 3)) (hH : HeapOK x y z cs) (h0 : 0 < cs.length) :
    CallsTo PG F.spec_l8Handed [.agg [.I x, .I y, .I z, .ref t 0 cs.length]] M (.B (handB x y z cs)) M := by
  have ht := h.lt
  have l1 := formHp_len hH
  have l2 := formHp_len (mir_ok (cs := cs) hH.1)
  have hfm := fun (M : Mem) (u : Nat) (hu : Live M u (.row (triL (mirHp x y z cs)) true 3)) => h_l8First hu (mir_ok hH.1) (mir_pos hH h0)
  have hff := fun (M : Mem) (hu : Live M t (.row (triL cs) w 3)) => h_l8First hu hH h0
  unfold handB
  generalize formHp x y z (mirHp x y z cs) = A at l2 hfm ⊢
  generalize formHp x y z cs = B at l1 hff ⊢
  refine calls_run K.spec_l8Handed rfl ?_
  simp (disch := omega) only [C.spec_l8Handed, ↓SXd, SXu, slBounds, ↓sop, ↓aop, ↓reduceIte, LV.cells, AOp.dst, LV.I, LV.B, LV.U, LV.S, LV.nil, Nat.reduceEqDiff, Nat.reduceAdd, Nat.reduceMul, Nat.reduceSub, Nat.reduceLeDiff, Nat.reduceBEq, Nat.reduceDiv, Nat.reduceMod, Int.reduceToNat, Int.reduceLT, Int.reduceLE, Int.reduceAdd, Int.reduceSub, Int.reduceMul, Int.reduceEq, Int.reduceNeg, reduceCtorEq, resV, resAll, ARes.ev, LV.flat, ite_true, ite_false, exists_eq_left', exists_eq_left, keyOf, implies_true, fillC, capOf]
  refine callK_of (h_l2Mirrored h.app hH) ?_
  simp (disch := omega) only [↓SXd, SXu, slBounds, ↓sop, ↓aop, ↓reduceIte, LV.cells, AOp.dst, LV.I, LV.B, LV.U, LV.S, LV.nil, Nat.reduceEqDiff, Nat.reduceAdd, Nat.reduceMul, Nat.reduceSub, Nat.reduceLeDiff, Nat.reduceBEq, Nat.reduceDiv, Nat.reduceMod, Int.reduceToNat, Int.reduceLT, Int.reduceLE, Int.reduceAdd, Int.reduceSub, Int.reduceMul, Int.reduceEq, Int.reduceNeg, reduceCtorEq, resV, resAll, ARes.ev, LV.flat, ite_true, ite_false, exists_eq_left', exists_eq_left, keyOf, implies_true, fillC, capOf]
  refine callK_of (hfm _ _ (Live.newj (M := M) (j := 1) (b := .row (triL (mirHp x y z cs)) true 3) rfl)) ?_
  simp (disch := omega) only [↓SXd, SXu, slBounds, ↓sop, ↓aop, ↓reduceIte, LV.cells, AOp.dst, LV.I, LV.B, LV.U, LV.S, LV.nil, Nat.reduceEqDiff, Nat.reduceAdd, Nat.reduceMul, Nat.reduceSub, Nat.reduceLeDiff, Nat.reduceBEq, Nat.reduceDiv, Nat.reduceMod, Int.reduceToNat, Int.reduceLT, Int.reduceLE, Int.reduceAdd, Int.reduceSub, Int.reduceMul, Int.reduceEq, Int.reduceNeg, reduceCtorEq, resV, resAll, ARes.ev, LV.flat, ite_true, ite_false, exists_eq_left', exists_eq_left, keyOf, implies_true, fillC, capOf]
  refine callK_of (hff _ h.app) ?_
  simp (disch := omega) only [↓SXd, SXu, slBounds, ↓sop, ↓aop, ↓reduceIte, LV.cells, AOp.dst, LV.I, LV.B, LV.U, LV.S, LV.nil, Nat.reduceEqDiff, Nat.reduceAdd, Nat.reduceMul, Nat.reduceSub, Nat.reduceLeDiff, Nat.reduceBEq, Nat.reduceDiv, Nat.reduceMod, Int.reduceToNat, Int.reduceLT, Int.reduceLE, Int.reduceAdd, Int.reduceSub, Int.reduceMul, Int.reduceEq, Int.reduceNeg, reduceCtorEq, resV, resAll, ARes.ev, LV.flat, ite_true, ite_false, exists_eq_left', exists_eq_left, keyOf, implies_true, fillC, capOf]
  have eA : Live (M ++ [some (.row [.I x, .I y, .I z, .ref t 0 cs.length] true 0), some (.row (triL (mirHp x y z cs)) true 3), some (.row (triL A.cs) true 3), some (.row (triL B.cs) true 3)]) (M.length + 2) (.row (triL A.cs) true 3) := Live.newj rfl
  have eB : Live (M ++ [some (.row [.I x, .I y, .I z, .ref t 0 cs.length] true 0), some (.row (triL (mirHp x y z cs)) true 3), some (.row (triL A.cs) true 3), some (.row (triL B.cs) true 3)]) (M.length + 3) (.row (triL B.cs) true 3) := Live.newj rfl
  refine callK_of (h_l8Same (g := A) (h := B) eA.has eB.has (by omega) (by omega)) ?_
  simp (disch := omega) only [↓SXd, SXu, slBounds, ↓sop, ↓aop, ↓reduceIte, LV.cells, AOp.dst, LV.I, LV.B, LV.U, LV.S, LV.nil, Nat.reduceEqDiff, Nat.reduceAdd, Nat.reduceMul, Nat.reduceSub, Nat.reduceLeDiff, Nat.reduceBEq, Nat.reduceDiv, Nat.reduceMod, Int.reduceToNat, Int.reduceLT, Int.reduceLE, Int.reduceAdd, Int.reduceSub, Int.reduceMul, Int.reduceEq, Int.reduceNeg, reduceCtorEq, resV, resAll, ARes.ev, LV.flat, ite_true, ite_false, exists_eq_left', exists_eq_left, keyOf, implies_true, fillC, capOf]
  exact cmp_pre (Pre.app _ _) rfl

theorem h_sIsHanded {x y z : Int} {t : Nat} {w : Bool} {cs : List Cell} {M : Mem} (h : Live M t (.row (triL cs) w 3)) (hn : cs.length ≤ 1000000000) :
    CallsTo PG F.spec_IsHanded [.agg [.I x, .I y, .I z, .ref t 0 cs.length]] M (.tup [.B (decide (Filled x y z cs) && handB x y z cs), .B (decide (Filled x y z cs))]) M := by
  refine calls_run K.spec_IsHanded rfl ?_
  simp (disch := omega) only [C.spec_IsHanded, ↓SXd, SXu, slBounds, ↓sop, ↓aop, ↓reduceIte, LV.cells, AOp.dst, LV.I, LV.B, LV.U, LV.S, LV.nil, Nat.reduceEqDiff, Nat.reduceAdd, Nat.reduceMul, Nat.reduceSub, Nat.reduceLeDiff, Nat.reduceBEq, Nat.reduceDiv, Nat.reduceMod, Int.reduceToNat, Int.reduceLT, Int.reduceLE, Int.reduceAdd, Int.reduceSub, Int.reduceMul, Int.reduceEq, Int.reduceNeg, reduceCtorEq, resV, resAll, ARes.ev, LV.flat, ite_true, ite_false, exists_eq_left', exists_eq_left, keyOf, implies_true, fillC, capOf]
  refine callK_of (h_l8Some (Has.app h.has) hn) ?_
  simp (disch := omega) only [↓SXd, SXu, slBounds, ↓sop, ↓aop, ↓reduceIte, LV.cells, AOp.dst, LV.I, LV.B, LV.U, LV.S, LV.nil, Nat.reduceEqDiff, Nat.reduceAdd, Nat.reduceMul, Nat.reduceSub, Nat.reduceLeDiff, Nat.reduceBEq, Nat.reduceDiv, Nat.reduceMod, Int.reduceToNat, Int.reduceLT, Int.reduceLE, Int.reduceAdd, Int.reduceSub, Int.reduceMul, Int.reduceEq, Int.reduceNeg, reduceCtorEq, resV, resAll, ARes.ev, LV.flat, ite_true, ite_false, exists_eq_left', exists_eq_left, keyOf, implies_true, fillC, capOf]
  by_cases hF : Filled x y z cs
  · simp (disch := omega) only [hF, ↓SXd, SXu, slBounds, ↓sop, ↓aop, ↓reduceIte, LV.cells, AOp.dst, LV.I, LV.B, LV.U, LV.S, LV.nil, Nat.reduceEqDiff, Nat.reduceAdd, Nat.reduceMul, Nat.reduceSub, Nat.reduceLeDiff, Nat.reduceBEq, Nat.reduceDiv, Nat.reduceMod, Int.reduceToNat, Int.reduceLT, Int.reduceLE, Int.reduceAdd, Int.reduceSub, Int.reduceMul, Int.reduceEq, Int.reduceNeg, reduceCtorEq, resV, resAll, ARes.ev, LV.flat, ite_true, ite_false, exists_eq_left', exists_eq_left, keyOf, implies_true, fillC, capOf]
    have hff := h_l8Handed (Live.app (L := [some (.row [.I x, .I y, .I z, .ref t 0 cs.length] true 0)]) h) hF.1 hF.2
    generalize handB x y z cs = b at hff ⊢
    refine callK_of (hff) ?_
    simp (disch := omega) only [Bool.true_and, ↓SXd, SXu, slBounds, ↓sop, ↓aop, ↓reduceIte, LV.cells, AOp.dst, LV.I, LV.B, LV.U, LV.S, LV.nil, Nat.reduceEqDiff, Nat.reduceAdd, Nat.reduceMul, Nat.reduceSub, Nat.reduceLeDiff, Nat.reduceBEq, Nat.reduceDiv, Nat.reduceMod, Int.reduceToNat, Int.reduceLT, Int.reduceLE, Int.reduceAdd, Int.reduceSub, Int.reduceMul, Int.reduceEq, Int.reduceNeg, reduceCtorEq, resV, resAll, ARes.ev, LV.flat, ite_true, ite_false, exists_eq_left', exists_eq_left, keyOf, implies_true, fillC, capOf]
    exact cmp_drop rfl
  · simp (disch := omega) only [hF, Bool.false_and, ↓SXd, SXu, slBounds, ↓sop, ↓aop, ↓reduceIte, LV.cells, AOp.dst, LV.I, LV.B, LV.U, LV.S, LV.nil, Nat.reduceEqDiff, Nat.reduceAdd, Nat.reduceMul, Nat.reduceSub, Nat.reduceLeDiff, Nat.reduceBEq, Nat.reduceDiv, Nat.reduceMod, Int.reduceToNat, Int.reduceLT, Int.reduceLE, Int.reduceAdd, Int.reduceSub, Int.reduceMul, Int.reduceEq, Int.reduceNeg, reduceCtorEq, resV, resAll, ARes.ev, LV.flat, ite_true, ite_false, exists_eq_left', exists_eq_left, keyOf, implies_true, fillC, capOf]
    exact cmp_drop rfl
noncomputable def sameForm (x y z : Int) (cs : List Cell) (x' y' z' : Int) (ds : List Cell) : Bool := !lessHp (formHp x y z cs) (formHp x' y' z' ds) && !lessHp (formHp x' y' z' ds) (formHp x y z cs)
theorem h_sAreSameForm {x y z x' y' z' : Int} {t t' : Nat} {w w' : Bool} {cs ds : List Cell} {M : Mem} (h : Live M t (.row (triL cs) w 3)) (hn : cs.length ≤ 1000000000) (h' : Live M t' (.row (triL ds) w' 3)) (hn' : ds.length ≤ 1000000000) :
    CallsTo PG F.spec_AreSameForm [.agg [.I x, .I y, .I z, .ref t 0 cs.length], .agg [.I x', .I y', .I z', .ref t' 0 ds.length]] M (.tup [.B (decide (Filled x y z cs ∧ Filled x' y' z' ds) && sameForm x y z cs x' y' z' ds), .B (decide (Filled x y z cs ∧ Filled x' y' z' ds))]) M := by
  have ht := h.lt
  have ht' := h'.lt
  refine calls_run K.spec_AreSameForm rfl ?_
  simp (disch := omega) only [C.spec_AreSameForm, ↓SXd, SXu, slBounds, ↓sop, ↓aop, ↓reduceIte, LV.cells, AOp.dst, LV.I, LV.B, LV.U, LV.S, LV.nil, Nat.reduceEqDiff, Nat.reduceAdd, Nat.reduceMul, Nat.reduceSub, Nat.reduceLeDiff, Nat.reduceBEq, Nat.reduceDiv, Nat.reduceMod, Int.reduceToNat, Int.reduceLT, Int.reduceLE, Int.reduceAdd, Int.reduceSub, Int.reduceMul, Int.reduceEq, Int.reduceNeg, reduceCtorEq, resV, resAll, ARes.ev, LV.flat, ite_true, ite_false, exists_eq_left', exists_eq_left, keyOf, implies_true, fillC, capOf]
  refine callK_of (h_l8Some (Has.app h.has) hn) ?_
  simp (disch := omega) only [↓SXd, SXu, slBounds, ↓sop, ↓aop, ↓reduceIte, LV.cells, AOp.dst, LV.I, LV.B, LV.U, LV.S, LV.nil, Nat.reduceEqDiff, Nat.reduceAdd, Nat.reduceMul, Nat.reduceSub, Nat.reduceLeDiff, Nat.reduceBEq, Nat.reduceDiv, Nat.reduceMod, Int.reduceToNat, Int.reduceLT, Int.reduceLE, Int.reduceAdd, Int.reduceSub, Int.reduceMul, Int.reduceEq, Int.reduceNeg, reduceCtorEq, resV, resAll, ARes.ev, LV.flat, ite_true, ite_false, exists_eq_left', exists_eq_left, keyOf, implies_true, fillC, capOf]
  by_cases hF : Filled x y z cs
  · simp (disch := omega) only [hF, ↓SXd, SXu, slBounds, ↓sop, ↓aop, ↓reduceIte, LV.cells, AOp.dst, LV.I, LV.B, LV.U, LV.S, LV.nil, Nat.reduceEqDiff, Nat.reduceAdd, Nat.reduceMul, Nat.reduceSub, Nat.reduceLeDiff, Nat.reduceBEq, Nat.reduceDiv, Nat.reduceMod, Int.reduceToNat, Int.reduceLT, Int.reduceLE, Int.reduceAdd, Int.reduceSub, Int.reduceMul, Int.reduceEq, Int.reduceNeg, reduceCtorEq, resV, resAll, ARes.ev, LV.flat, ite_true, ite_false, exists_eq_left', exists_eq_left, keyOf, implies_true, fillC, capOf]
    refine callK_of (h_l8Some (Has.app h'.has) hn') ?_
    simp (disch := omega) only [true_and, ↓SXd, SXu, slBounds, ↓sop, ↓aop, ↓reduceIte, LV.cells, AOp.dst, LV.I, LV.B, LV.U, LV.S, LV.nil, Nat.reduceEqDiff, Nat.reduceAdd, Nat.reduceMul, Nat.reduceSub, Nat.reduceLeDiff, Nat.reduceBEq, Nat.reduceDiv, Nat.reduceMod, Int.reduceToNat, Int.reduceLT, Int.reduceLE, Int.reduceAdd, Int.reduceSub, Int.reduceMul, Int.reduceEq, Int.reduceNeg, reduceCtorEq, resV, resAll, ARes.ev, LV.flat, ite_true, ite_false, exists_eq_left', exists_eq_left, keyOf, implies_true, fillC, capOf]
    by_cases hG : Filled x' y' z' ds
    · have l1 := formHp_len hF.1
      have l2 := formHp_len hG.1
      have hfm := fun (M : Mem) (hu : Live M t (.row (triL cs) w 3)) => h_l8First hu hF.1 hF.2
      have hff := fun (M : Mem) (hu : Live M t' (.row (triL ds) w' 3)) => h_l8First hu hG.1 hG.2
      unfold sameForm
      generalize formHp x y z cs = A at l1 hfm ⊢
      generalize formHp x' y' z' ds = B at l2 hff ⊢
      simp (disch := omega) only [hG, Bool.true_and, ↓SXd, SXu, slBounds, ↓sop, ↓aop, ↓reduceIte, LV.cells, AOp.dst, LV.I, LV.B, LV.U, LV.S, LV.nil, Nat.reduceEqDiff, Nat.reduceAdd, Nat.reduceMul, Nat.reduceSub, Nat.reduceLeDiff, Nat.reduceBEq, Nat.reduceDiv, Nat.reduceMod, Int.reduceToNat, Int.reduceLT, Int.reduceLE, Int.reduceAdd, Int.reduceSub, Int.reduceMul, Int.reduceEq, Int.reduceNeg, reduceCtorEq, resV, resAll, ARes.ev, LV.flat, ite_true, ite_false, exists_eq_left', exists_eq_left, keyOf, implies_true, fillC, capOf]
      refine callK_of (hfm _ h.app) ?_
      simp (disch := omega) only [↓SXd, SXu, slBounds, ↓sop, ↓aop, ↓reduceIte, LV.cells, AOp.dst, LV.I, LV.B, LV.U, LV.S, LV.nil, Nat.reduceEqDiff, Nat.reduceAdd, Nat.reduceMul, Nat.reduceSub, Nat.reduceLeDiff, Nat.reduceBEq, Nat.reduceDiv, Nat.reduceMod, Int.reduceToNat, Int.reduceLT, Int.reduceLE, Int.reduceAdd, Int.reduceSub, Int.reduceMul, Int.reduceEq, Int.reduceNeg, reduceCtorEq, resV, resAll, ARes.ev, LV.flat, ite_true, ite_false, exists_eq_left', exists_eq_left, keyOf, implies_true, fillC, capOf]
      refine callK_of (hff _ h'.app) ?_
      simp (disch := omega) only [↓SXd, SXu, slBounds, ↓sop, ↓aop, ↓reduceIte, LV.cells, AOp.dst, LV.I, LV.B, LV.U, LV.S, LV.nil, Nat.reduceEqDiff, Nat.reduceAdd, Nat.reduceMul, Nat.reduceSub, Nat.reduceLeDiff, Nat.reduceBEq, Nat.reduceDiv, Nat.reduceMod, Int.reduceToNat, Int.reduceLT, Int.reduceLE, Int.reduceAdd, Int.reduceSub, Int.reduceMul, Int.reduceEq, Int.reduceNeg, reduceCtorEq, resV, resAll, ARes.ev, LV.flat, ite_true, ite_false, exists_eq_left', exists_eq_left, keyOf, implies_true, fillC, capOf]
      have eA : Live (M ++ [some (.row [.I x, .I y, .I z, .ref t 0 cs.length] true 0), some (.row [.I x', .I y', .I z', .ref t' 0 ds.length] true 0), some (.row (triL A.cs) true 3), some (.row (triL B.cs) true 3)]) (M.length + 2) (.row (triL A.cs) true 3) := Live.newj rfl
      have eB : Live (M ++ [some (.row [.I x, .I y, .I z, .ref t 0 cs.length] true 0), some (.row [.I x', .I y', .I z', .ref t' 0 ds.length] true 0), some (.row (triL A.cs) true 3), some (.row (triL B.cs) true 3)]) (M.length + 3) (.row (triL B.cs) true 3) := Live.newj rfl
      refine callK_of (h_l8Same (g := A) (h := B) eA.has eB.has (by omega) (by omega)) ?_
      simp (disch := omega) only [↓SXd, SXu, slBounds, ↓sop, ↓aop, ↓reduceIte, LV.cells, AOp.dst, LV.I, LV.B, LV.U, LV.S, LV.nil, Nat.reduceEqDiff, Nat.reduceAdd, Nat.reduceMul, Nat.reduceSub, Nat.reduceLeDiff, Nat.reduceBEq, Nat.reduceDiv, Nat.reduceMod, Int.reduceToNat, Int.reduceLT, Int.reduceLE, Int.reduceAdd, Int.reduceSub, Int.reduceMul, Int.reduceEq, Int.reduceNeg, reduceCtorEq, resV, resAll, ARes.ev, LV.flat, ite_true, ite_false, exists_eq_left', exists_eq_left, keyOf, implies_true, fillC, capOf]
      exact cmp_pre (Pre.app _ _) rfl
    · simp (disch := omega) only [hG, Bool.false_and, ↓SXd, SXu, slBounds, ↓sop, ↓aop, ↓reduceIte, LV.cells, AOp.dst, LV.I, LV.B, LV.U, LV.S, LV.nil, Nat.reduceEqDiff, Nat.reduceAdd, Nat.reduceMul, Nat.reduceSub, Nat.reduceLeDiff, Nat.reduceBEq, Nat.reduceDiv, Nat.reduceMod, Int.reduceToNat, Int.reduceLT, Int.reduceLE, Int.reduceAdd, Int.reduceSub, Int.reduceMul, Int.reduceEq, Int.reduceNeg, reduceCtorEq, resV, resAll, ARes.ev, LV.flat, ite_true, ite_false, exists_eq_left', exists_eq_left, keyOf, implies_true, fillC, capOf]
      exact cmp_drop rfl
  · simp (disch := omega) only [hF, false_and, Bool.false_and, ↓SXd, SXu, slBounds, ↓sop, ↓aop, ↓reduceIte, LV.cells, AOp.dst, LV.I, LV.B, LV.U, LV.S, LV.nil, Nat.reduceEqDiff, Nat.reduceAdd, Nat.reduceMul, Nat.reduceSub, Nat.reduceLeDiff, Nat.reduceBEq, Nat.reduceDiv, Nat.reduceMod, Int.reduceToNat, Int.reduceLT, Int.reduceLE, Int.reduceAdd, Int.reduceSub, Int.reduceMul, Int.reduceEq, Int.reduceNeg, reduceCtorEq, resV, resAll, ARes.ev, LV.flat, ite_true, ite_false, exists_eq_left', exists_eq_left, keyOf, implies_true, fillC, capOf]
    exact cmp_drop rfl
end Go.Ab

/- Contracts: the program's statements on forms. -/
namespace Go.Ab
open Go
set_option linter.unusedSimpArgs false
set_option linter.unusedVariables false

theorem g_isFilled {x y z : Int} {t o : Nat} {cs : List Cell} {M : Mem} (h : Tri M t o cs) (hn : cs.length ≤ 1000000000) :
    CallsTo PG F.impl_isFilled [.agg [.I x, .I y, .I z, .ref t o cs.length]] M (.B (decide (Filled x y z cs))) M := by
  refine calls_run K.impl_isFilled rfl ?_
  simp (disch := omega) only [C.impl_isFilled, ↓SXd, SXu, slBounds, ↓sop, ↓aop, ↓reduceIte, LV.cells, AOp.dst, LV.I, LV.B, LV.U, LV.S, LV.nil, Nat.reduceEqDiff, Nat.reduceAdd, Nat.reduceMul, Nat.reduceSub, Nat.reduceLeDiff, Nat.reduceBEq, Nat.reduceDiv, Nat.reduceMod, Int.reduceToNat, Int.reduceLT, Int.reduceLE, Int.reduceAdd, Int.reduceSub, Int.reduceMul, Int.reduceEq, Int.reduceNeg, reduceCtorEq, resV, resAll, ARes.ev, LV.flat, ite_true, ite_false, exists_eq_left', exists_eq_left, keyOf, implies_true, fillC, capOf]
  refine callK_of (g_IsHeap h.app hn) ?_
  simp (disch := omega) only [↓SXd, SXu, slBounds, ↓sop, ↓aop, ↓reduceIte, LV.cells, AOp.dst, LV.I, LV.B, LV.U, LV.S, LV.nil, Nat.reduceEqDiff, Nat.reduceAdd, Nat.reduceMul, Nat.reduceSub, Nat.reduceLeDiff, Nat.reduceBEq, Nat.reduceDiv, Nat.reduceMod, Int.reduceToNat, Int.reduceLT, Int.reduceLE, Int.reduceAdd, Int.reduceSub, Int.reduceMul, Int.reduceEq, Int.reduceNeg, reduceCtorEq, resV, resAll, ARes.ev, LV.flat, ite_true, ite_false, exists_eq_left', exists_eq_left, keyOf, implies_true, fillC, capOf]
  by_cases hH : HeapOK x y z cs
  · simp (disch := omega) only [hH, ↓SXd, SXu, slBounds, ↓sop, ↓aop, ↓reduceIte, LV.cells, AOp.dst, LV.I, LV.B, LV.U, LV.S, LV.nil, Nat.reduceEqDiff, Nat.reduceAdd, Nat.reduceMul, Nat.reduceSub, Nat.reduceLeDiff, Nat.reduceBEq, Nat.reduceDiv, Nat.reduceMod, Int.reduceToNat, Int.reduceLT, Int.reduceLE, Int.reduceAdd, Int.reduceSub, Int.reduceMul, Int.reduceEq, Int.reduceNeg, reduceCtorEq, resV, resAll, ARes.ev, LV.flat, ite_true, ite_false, exists_eq_left', exists_eq_left, keyOf, implies_true, fillC, capOf]
    rw [show decide ((0 : Int) < (cs.length : Nat)) = decide (Filled x y z cs) from decide_eq_decide.2 ⟨fun h => ⟨hH, by omega⟩, fun h => by have := h.2; omega⟩]
    exact cmp_drop rfl
  · simp (disch := omega) only [hH, ↓SXd, SXu, slBounds, ↓sop, ↓aop, ↓reduceIte, LV.cells, AOp.dst, LV.I, LV.B, LV.U, LV.S, LV.nil, Nat.reduceEqDiff, Nat.reduceAdd, Nat.reduceMul, Nat.reduceSub, Nat.reduceLeDiff, Nat.reduceBEq, Nat.reduceDiv, Nat.reduceMod, Int.reduceToNat, Int.reduceLT, Int.reduceLE, Int.reduceAdd, Int.reduceSub, Int.reduceMul, Int.reduceEq, Int.reduceNeg, reduceCtorEq, resV, resAll, ARes.ev, LV.flat, ite_true, ite_false, exists_eq_left', exists_eq_left, keyOf, implies_true, fillC, capOf]
    rw [show decide (Filled x y z cs) = false from decide_eq_false fun h => hH h.1]
    exact cmp_drop rfl

theorem g_FirstForm {x y z : Int} {t : Nat} {w : Bool} {cs : List Cell} {M : Mem} (h : Live M t (.row (triL cs) w 3)) (hn : cs.length ≤ 1000000000) :
    CallsR PG F.impl_FirstForm [.agg [.I x, .I y, .I z, .ref t 0 cs.length]] M (HeapRes M (formOf x y z cs) []) := by
  refine callsR_run K.impl_FirstForm rfl ?_
  simp (disch := omega) only [C.impl_FirstForm, ↓SXd, SXu, slBounds, ↓sop, ↓aop, ↓reduceIte, LV.cells, AOp.dst, LV.I, LV.B, LV.U, LV.S, LV.nil, Nat.reduceEqDiff, Nat.reduceAdd, Nat.reduceMul, Nat.reduceSub, Nat.reduceLeDiff, Nat.reduceBEq, Nat.reduceDiv, Nat.reduceMod, Int.reduceToNat, Int.reduceLT, Int.reduceLE, Int.reduceAdd, Int.reduceSub, Int.reduceMul, Int.reduceEq, Int.reduceNeg, reduceCtorEq, resV, resAll, ARes.ev, LV.flat, ite_true, ite_false, exists_eq_left', exists_eq_left, keyOf, implies_true, fillC, capOf]
  refine callK_of (g_isFilled (Has.app h.has) hn) ?_
  simp (disch := omega) only [↓SXd, SXu, slBounds, ↓sop, ↓aop, ↓reduceIte, LV.cells, AOp.dst, LV.I, LV.B, LV.U, LV.S, LV.nil, Nat.reduceEqDiff, Nat.reduceAdd, Nat.reduceMul, Nat.reduceSub, Nat.reduceLeDiff, Nat.reduceBEq, Nat.reduceDiv, Nat.reduceMod, Int.reduceToNat, Int.reduceLT, Int.reduceLE, Int.reduceAdd, Int.reduceSub, Int.reduceMul, Int.reduceEq, Int.reduceNeg, reduceCtorEq, resV, resAll, ARes.ev, LV.flat, ite_true, ite_false, exists_eq_left', exists_eq_left, keyOf, implies_true, fillC, capOf]
  unfold formOf
  by_cases hF : Filled x y z cs
  · rw [if_pos hF]
    simp (disch := omega) only [hF, ↓SXd, SXu, slBounds, ↓sop, ↓aop, ↓reduceIte, LV.cells, AOp.dst, LV.I, LV.B, LV.U, LV.S, LV.nil, Nat.reduceEqDiff, Nat.reduceAdd, Nat.reduceMul, Nat.reduceSub, Nat.reduceLeDiff, Nat.reduceBEq, Nat.reduceDiv, Nat.reduceMod, Int.reduceToNat, Int.reduceLT, Int.reduceLE, Int.reduceAdd, Int.reduceSub, Int.reduceMul, Int.reduceEq, Int.reduceNeg, reduceCtorEq, resV, resAll, ARes.ev, LV.flat, ite_true, ite_false, exists_eq_left', exists_eq_left, keyOf, implies_true, fillC, capOf]
    have hff := g_form (Live.app (L := [some (.row [.I x, .I y, .I z, .ref t 0 cs.length] true 0), some (.row [.I 0, .I 0, .I 0, .nil] true 0)]) h) hF.1 hF.2
    generalize formHp x y z cs = f at hff ⊢
    refine callR_of hff ?_
    rintro _ N2 ⟨tn, rfl, htn, hnr, hp2⟩
    simp (disch := omega) only [↓SXd, SXu, slBounds, ↓sop, ↓aop, ↓reduceIte, LV.cells, AOp.dst, LV.I, LV.B, LV.U, LV.S, LV.nil, Nat.reduceEqDiff, Nat.reduceAdd, Nat.reduceMul, Nat.reduceSub, Nat.reduceLeDiff, Nat.reduceBEq, Nat.reduceDiv, Nat.reduceMod, Int.reduceToNat, Int.reduceLT, Int.reduceLE, Int.reduceAdd, Int.reduceSub, Int.reduceMul, Int.reduceEq, Int.reduceNeg, reduceCtorEq, resV, resAll, ARes.ev, LV.flat, ite_true, ite_false, exists_eq_left', exists_eq_left, keyOf, implies_true, fillC, capOf]
    simp only [List.length_append, List.length_cons, List.length_nil] at htn
    have hN := hp2.1
    refine memK_box ((Live.newj (j := 1) rfl).pre hp2) (by simp) fun N3 k1 k2 k3 => ?_
    simp (disch := omega) only [k2.cells, ↓SXd, SXu, slBounds, ↓sop, ↓aop, ↓reduceIte, LV.cells, AOp.dst, LV.I, LV.B, LV.U, LV.S, LV.nil, Nat.reduceEqDiff, Nat.reduceAdd, Nat.reduceMul, Nat.reduceSub, Nat.reduceLeDiff, Nat.reduceBEq, Nat.reduceDiv, Nat.reduceMod, Int.reduceToNat, Int.reduceLT, Int.reduceLE, Int.reduceAdd, Int.reduceSub, Int.reduceMul, Int.reduceEq, Int.reduceNeg, reduceCtorEq, resV, resAll, ARes.ev, LV.flat, ite_true, ite_false, exists_eq_left', exists_eq_left, keyOf, implies_true, fillC, capOf]
    exact ⟨_, rfl, SlC.of (live_step hnr (by omega) k3), Newer.of (by omega), pre_step ((Pre.app _ _).trans hp2) (by omega) (j := 0) k1 k3⟩
  · rw [if_neg hF]
    simp (disch := omega) only [hF, fillC, splice, ↓SXd, SXu, slBounds, ↓sop, ↓aop, ↓reduceIte, LV.cells, AOp.dst, LV.I, LV.B, LV.U, LV.S, LV.nil, Nat.reduceEqDiff, Nat.reduceAdd, Nat.reduceMul, Nat.reduceSub, Nat.reduceLeDiff, Nat.reduceBEq, Nat.reduceDiv, Nat.reduceMod, Int.reduceToNat, Int.reduceLT, Int.reduceLE, Int.reduceAdd, Int.reduceSub, Int.reduceMul, Int.reduceEq, Int.reduceNeg, reduceCtorEq, resV, resAll, ARes.ev, LV.flat, ite_true, ite_false, exists_eq_left', exists_eq_left, keyOf, implies_true, fillC, capOf]
    exact ⟨_, rfl, SlC.nil, Newer.nil, Pre.app _ _⟩

theorem sym_at {x y z : Int} {cs : List Cell} {l : List (Nat × Hp)} (hl : l.map (·.2) = turns.map (posHp x y z cs)) {k : Nat} (hk : k < l.length) : symAt x y z cs k = (!lessHp l[k].2 (cropHp cs) && !lessHp (cropHp cs) l[k].2) := by
  have hkt : k < turns.length := by have := congrArg List.length hl; simp at this; omega
  unfold symAt
  rw [List.getElem?_eq_getElem hkt]
  show symB x y z cs turns[k] = _
  unfold symB
  have : l[k].2 = posHp x y z cs turns[k] := by
    have h1 : (l.map (·.2))[k]'(by simpa using hk) = (turns.map (posHp x y z cs))[k]'(by simpa using hkt) := by simp only [hl]
    simpa using h1
  rw [this]

theorem g_SymmetriesOf {x y z : Int} {t : Nat} {w : Bool} {cs : List Cell} {M : Mem} (h : Live M t (.row (triL cs) w 3)) (hn : cs.length ≤ 1000000000) :
    CallsR PG F.impl_SymmetriesOf [.agg [.I x, .I y, .I z, .ref t 0 cs.length]] M (IntsRes M (symsOf x y z cs)) := by
  have ht := h.lt
  refine callsR_run K.impl_SymmetriesOf rfl ?_
  simp (disch := omega) only [C.impl_SymmetriesOf, ↓SXd, SXu, slBounds, ↓sop, ↓aop, ↓reduceIte, LV.cells, AOp.dst, LV.I, LV.B, LV.U, LV.S, LV.nil, Nat.reduceEqDiff, Nat.reduceAdd, Nat.reduceMul, Nat.reduceSub, Nat.reduceLeDiff, Nat.reduceBEq, Nat.reduceDiv, Nat.reduceMod, Int.reduceToNat, Int.reduceLT, Int.reduceLE, Int.reduceAdd, Int.reduceSub, Int.reduceMul, Int.reduceEq, Int.reduceNeg, reduceCtorEq, resV, resAll, ARes.ev, LV.flat, ite_true, ite_false, exists_eq_left', exists_eq_left, keyOf, implies_true, fillC, capOf]
  refine callK_of (g_isFilled (Has.app h.has) hn) ?_
  simp (disch := omega) only [↓SXd, SXu, slBounds, ↓sop, ↓aop, ↓reduceIte, LV.cells, AOp.dst, LV.I, LV.B, LV.U, LV.S, LV.nil, Nat.reduceEqDiff, Nat.reduceAdd, Nat.reduceMul, Nat.reduceSub, Nat.reduceLeDiff, Nat.reduceBEq, Nat.reduceDiv, Nat.reduceMod, Int.reduceToNat, Int.reduceLT, Int.reduceLE, Int.reduceAdd, Int.reduceSub, Int.reduceMul, Int.reduceEq, Int.reduceNeg, reduceCtorEq, resV, resAll, ARes.ev, LV.flat, ite_true, ite_false, exists_eq_left', exists_eq_left, keyOf, implies_true, fillC, capOf]
  unfold symsOf
  by_cases hF : Filled x y z cs
  · rw [if_pos hF]
    simp (disch := omega) only [hF, ↓SXd, SXu, slBounds, ↓sop, ↓aop, ↓reduceIte, LV.cells, AOp.dst, LV.I, LV.B, LV.U, LV.S, LV.nil, Nat.reduceEqDiff, Nat.reduceAdd, Nat.reduceMul, Nat.reduceSub, Nat.reduceLeDiff, Nat.reduceBEq, Nat.reduceDiv, Nat.reduceMod, Int.reduceToNat, Int.reduceLT, Int.reduceLE, Int.reduceAdd, Int.reduceSub, Int.reduceMul, Int.reduceEq, Int.reduceNeg, reduceCtorEq, resV, resAll, ARes.ev, LV.flat, ite_true, ite_false, exists_eq_left', exists_eq_left, keyOf, implies_true, fillC, capOf]
    refine callR_of (g_positions h.app hF.1 hF.2) ?_
    rintro _ N ⟨up, l, rfl, hl, hup, hok, hp, hul⟩
    have h24 := turns_len
    have hll : l.length = 24 := by
      have := congrArg List.length hl
      simpa [h24] using this
    simp only [List.length_append, List.length_cons, List.length_nil] at hul
    obtain ⟨p, r, rfl⟩ : ∃ p r, l = p :: r := by
      cases l with
      | nil => simp at hll
      | cons a b => exact ⟨a, b, rfl⟩
    have hsa := fun k hk => sym_at (x := x) (y := y) (z := z) hl (k := k) hk
    obtain ⟨_, hp0⟩ := form_best hF.1 hl
    rw [← hp0] at hsa
    have b1 : Live N (M.length + 1) (.row [] true 1) := (Live.newj (j := 1) rfl).pre hp
    have hpM : Pre M N := (Pre.app _ _).trans hp
    simp (disch := omega) only [↓SXd, SXu, slBounds, ↓sop, ↓aop, ↓reduceIte, LV.cells, AOp.dst, LV.I, LV.B, LV.U, LV.S, LV.nil, Nat.reduceEqDiff, Nat.reduceAdd, Nat.reduceMul, Nat.reduceSub, Nat.reduceLeDiff, Nat.reduceBEq, Nat.reduceDiv, Nat.reduceMod, Int.reduceToNat, Int.reduceLT, Int.reduceLE, Int.reduceAdd, Int.reduceSub, Int.reduceMul, Int.reduceEq, Int.reduceNeg, reduceCtorEq, resV, resAll, ARes.ev, LV.flat, ite_true, ite_false, exists_eq_left', exists_eq_left, keyOf, implies_true, fillC, capOf]
    refine ev_loop (fun m fr M' => ∃ k u : Nat, k + m = 24 ∧ Pre M M' ∧ M.length ≤ u ∧ Live M' u (.row (intL (symsK x y z cs k)) true 1) ∧ Live M' up (.row (hpL (p :: r)) true 4) ∧ HpsOK M M' (p :: r) ∧
      fr 4 = .ref u 0 (symsK x y z cs k).length ∧ fr 5 = .ref up 0 24 ∧ fr 14 = .ref up 0 24 ∧ fr 15 = .I 24 ∧ fr 16 = .I k) 24
      ⟨0, M.length + 1, rfl, hpM, by omega, b1, hup, fun q hq => ⟨(hok q hq).1, by have := (hok q hq).2.1; simp at this; omega, (hok q hq).2.2⟩, rfl, rfl, rfl, rfl, rfl⟩ ?_
    clear hok hp hup b1
    rintro m fr M' ⟨k, u, hk, hpre, hu, bu, bp, hok, f4, f5, f14, f15, f16⟩
    simp (disch := omega) only [f4, f5, f14, f15, f16, ↓SXd, SXu, slBounds, ↓sop, ↓aop, ↓reduceIte, LV.cells, AOp.dst, LV.I, LV.B, LV.U, LV.S, LV.nil, Nat.reduceEqDiff, Nat.reduceAdd, Nat.reduceMul, Nat.reduceSub, Nat.reduceLeDiff, Nat.reduceBEq, Nat.reduceDiv, Nat.reduceMod, Int.reduceToNat, Int.reduceLT, Int.reduceLE, Int.reduceAdd, Int.reduceSub, Int.reduceMul, Int.reduceEq, Int.reduceNeg, reduceCtorEq, resV, resAll, ARes.ev, LV.flat, ite_true, ite_false, exists_eq_left', exists_eq_left, keyOf, implies_true, fillC, capOf]
    refine condC_dec (fun hlt => ?_) (fun hlt => ?_)
    · have hk24 : k < (p :: r).length := by omega
      have hg := bp.hp hk24
      have hg0 := bp.hp (k := 0) (by simp)
      rw [Nat.zero_mul, List.getElem_cons_zero] at hg0
      have hss := symsK_succ (x := x) (y := y) (z := z) (cs := cs) (k := k)
      rw [hsa k hk24] at hss
      have hq := hok _ (List.getElem_mem hk24)
      have hp1 := hok p (by simp)
      have hsl := symsK_len (x := x) (y := y) (z := z) (cs := cs) (k := k)
      generalize (p :: r)[k] = q at hg hss hq
      have hlup := bp.lt
      have hlu := bu.lt
      have hlq := hq.1.lt
      have hlp := hp1.1.lt
      simp (disch := omega) only [f4, f5, f14, f15, f16, hg, hg0, hrow, splice, (getCells_app hlup), Nat.zero_mul, ↓SXd, SXu, slBounds, ↓sop, ↓aop, ↓reduceIte, LV.cells, AOp.dst, LV.I, LV.B, LV.U, LV.S, LV.nil, Nat.reduceEqDiff, Nat.reduceAdd, Nat.reduceMul, Nat.reduceSub, Nat.reduceLeDiff, Nat.reduceBEq, Nat.reduceDiv, Nat.reduceMod, Int.reduceToNat, Int.reduceLT, Int.reduceLE, Int.reduceAdd, Int.reduceSub, Int.reduceMul, Int.reduceEq, Int.reduceNeg, reduceCtorEq, resV, resAll, ARes.ev, LV.flat, ite_true, ite_false, exists_eq_left', exists_eq_left, keyOf, implies_true, fillC, capOf]
      have hc := g_same (M := M' ++ [some (.row [.I q.2.x, .I q.2.y, .I q.2.z, .ref q.1 0 q.2.cs.length] true 0)]) (g := q.2) (h := p.2) hq.1.app.has hp1.1.app.has (by omega) (by omega)
      rw [same_iff] at hc
      generalize (!lessHp q.2 p.2 && !lessHp p.2 q.2) = B at hc hss
      refine callK_of (hc) ?_
      simp (disch := omega) only [f4, f5, f14, f15, f16, ↓SXd, SXu, slBounds, ↓sop, ↓aop, ↓reduceIte, LV.cells, AOp.dst, LV.I, LV.B, LV.U, LV.S, LV.nil, Nat.reduceEqDiff, Nat.reduceAdd, Nat.reduceMul, Nat.reduceSub, Nat.reduceLeDiff, Nat.reduceBEq, Nat.reduceDiv, Nat.reduceMod, Int.reduceToNat, Int.reduceLT, Int.reduceLE, Int.reduceAdd, Int.reduceSub, Int.reduceMul, Int.reduceEq, Int.reduceNeg, reduceCtorEq, resV, resAll, ARes.ev, LV.flat, ite_true, ite_false, exists_eq_left', exists_eq_left, keyOf, implies_true, fillC, capOf]
      cases B with
      | true =>
        rw [if_pos rfl] at hss
        have e6 : Pre M' (M' ++ [some (.row [.I q.2.x, .I q.2.y, .I q.2.z, .ref q.1 0 q.2.cs.length] true 0)]) := Pre.app _ _
        generalize M' ++ [some (.row [.I q.2.x, .I q.2.y, .I q.2.z, .ref q.1 0 q.2.cs.length] true 0)] = N1 at e6 ⊢
        have hN1 := e6.1
        simp (disch := omega) only [f4, f5, f14, f15, f16, ↓SXd, SXu, slBounds, ↓sop, ↓aop, ↓reduceIte, LV.cells, AOp.dst, LV.I, LV.B, LV.U, LV.S, LV.nil, Nat.reduceEqDiff, Nat.reduceAdd, Nat.reduceMul, Nat.reduceSub, Nat.reduceLeDiff, Nat.reduceBEq, Nat.reduceDiv, Nat.reduceMod, Int.reduceToNat, Int.reduceLT, Int.reduceLE, Int.reduceAdd, Int.reduceSub, Int.reduceMul, Int.reduceEq, Int.reduceNeg, reduceCtorEq, resV, resAll, ARes.ev, LV.flat, ite_true, ite_false, exists_eq_left', exists_eq_left, keyOf, implies_true, fillC, capOf]
        refine appendK_int (bu.pre e6) (by omega) fun N3 k1 k2 k3 => ?_
        simp (disch := omega) only [f4, f5, f14, f15, f16, ↓SXd, SXu, slBounds, ↓sop, ↓aop, ↓reduceIte, LV.cells, AOp.dst, LV.I, LV.B, LV.U, LV.S, LV.nil, Nat.reduceEqDiff, Nat.reduceAdd, Nat.reduceMul, Nat.reduceSub, Nat.reduceLeDiff, Nat.reduceBEq, Nat.reduceDiv, Nat.reduceMod, Int.reduceToNat, Int.reduceLT, Int.reduceLE, Int.reduceAdd, Int.reduceSub, Int.reduceMul, Int.reduceEq, Int.reduceNeg, reduceCtorEq, resV, resAll, ARes.ev, LV.flat, ite_true, ite_false, exists_eq_left', exists_eq_left, keyOf, implies_true, fillC, capOf]
        rw [← hss] at k2 ⊢
        exact ⟨m - 1, by omega, k + 1, N1.length + 1, by omega, pre_step (hpre.trans e6) hu k1 k3, by have := hpre.1; omega, k2, live_step (bp.pre e6) (bp.ne_esz bu (by decide)) k3, fun s hs => ⟨live_step ((hok s hs).1.pre e6) ((hok s hs).1.ne_esz bu (by decide)) k3, (hok s hs).2⟩, rfl, f5, f14, f15, eqI (natI _)⟩
      | false =>
        rw [if_neg (by simp), List.append_nil] at hss
        simp (disch := omega) only [f4, f5, f14, f15, f16, ↓SXd, SXu, slBounds, ↓sop, ↓aop, ↓reduceIte, LV.cells, AOp.dst, LV.I, LV.B, LV.U, LV.S, LV.nil, Nat.reduceEqDiff, Nat.reduceAdd, Nat.reduceMul, Nat.reduceSub, Nat.reduceLeDiff, Nat.reduceBEq, Nat.reduceDiv, Nat.reduceMod, Int.reduceToNat, Int.reduceLT, Int.reduceLE, Int.reduceAdd, Int.reduceSub, Int.reduceMul, Int.reduceEq, Int.reduceNeg, reduceCtorEq, resV, resAll, ARes.ev, LV.flat, ite_true, ite_false, exists_eq_left', exists_eq_left, keyOf, implies_true, fillC, capOf]
        rw [← hss] at bu f4
        exact ⟨m - 1, by omega, k + 1, u, by omega, hpre.trans (Pre.app _ _), hu, bu.app, bp.app, hok.pre (Pre.app _ _), f4, f5, f14, f15, eqI (natI _)⟩
    · simp (disch := omega) only [f4, f5, f14, f15, f16, ↓SXd, SXu, slBounds, ↓sop, ↓aop, ↓reduceIte, LV.cells, AOp.dst, LV.I, LV.B, LV.U, LV.S, LV.nil, Nat.reduceEqDiff, Nat.reduceAdd, Nat.reduceMul, Nat.reduceSub, Nat.reduceLeDiff, Nat.reduceBEq, Nat.reduceDiv, Nat.reduceMod, Int.reduceToNat, Int.reduceLT, Int.reduceLE, Int.reduceAdd, Int.reduceSub, Int.reduceMul, Int.reduceEq, Int.reduceNeg, reduceCtorEq, resV, resAll, ARes.ev, LV.flat, ite_true, ite_false, exists_eq_left', exists_eq_left, keyOf, implies_true, fillC, capOf]
      have : k = 24 := by omega
      subst this
      exact ⟨_, rfl, SlI.of bu, Newer.of hu, hpre⟩
  · rw [if_neg hF]
    simp (disch := omega) only [hF, ↓SXd, SXu, slBounds, ↓sop, ↓aop, ↓reduceIte, LV.cells, AOp.dst, LV.I, LV.B, LV.U, LV.S, LV.nil, Nat.reduceEqDiff, Nat.reduceAdd, Nat.reduceMul, Nat.reduceSub, Nat.reduceLeDiff, Nat.reduceBEq, Nat.reduceDiv, Nat.reduceMod, Int.reduceToNat, Int.reduceLT, Int.reduceLE, Int.reduceAdd, Int.reduceSub, Int.reduceMul, Int.reduceEq, Int.reduceNeg, reduceCtorEq, resV, resAll, ARes.ev, LV.flat, ite_true, ite_false, exists_eq_left', exists_eq_left, keyOf, implies_true, fillC, capOf]
    exact ⟨_, rfl, SlI.nil, Newer.nil, Pre.app _ _⟩
theorem formOf_len {x y z : Int} {cs : List Cell} : ((formOf x y z cs).getD Hp.none).cs.length ≤ 1000000000 := by
  unfold formOf
  split
  · rename_i h
    have := formHp_len h.1
    simp only [Option.getD_some]; omega
  · simp [Hp.none]
theorem symsOf_len {x y z : Int} {cs : List Cell} : ((symsOf x y z cs).getD []).length ≤ 1000000000 := by
  unfold symsOf
  split
  · have := symsK_len (x := x) (y := y) (z := z) (cs := cs) (k := 24)
    simp only [Option.getD_some]; omega
  · simp
end Go.Ab

/- Contracts: the program's PositionsOf, AreSameForm, IsHanded. -/
namespace Go.Ab
open Go
set_option linter.unusedSimpArgs false
set_option linter.unusedVariables false

theorem SlI.lenV {N : Mem} {v : LV} {l : List Int} (h : SlI N v l) : lenV v = some (l.length : Int) := by
  rcases h with ⟨rfl, rfl⟩ | ⟨t, ex, rfl, _⟩ <;> rfl
theorem g_PositionsOf {x y z : Int} {t : Nat} {w : Bool} {cs : List Cell} {M : Mem} (h : Live M t (.row (triL cs) w 3)) (hn : cs.length ≤ 1000000000) :
    CallsR PG F.impl_PositionsOf [.agg [.I x, .I y, .I z, .ref t 0 cs.length]] M fun v N => v = .tup [.I (posOf x y z cs), .B (decide (Filled x y z cs))] ∧ Pre M N := by
  refine callsR_run K.impl_PositionsOf rfl ?_
  simp (disch := omega) only [C.impl_PositionsOf, ↓SXd, SXu, slBounds, ↓sop, ↓aop, ↓reduceIte, LV.cells, AOp.dst, LV.I, LV.B, LV.U, LV.S, LV.nil, Nat.reduceEqDiff, Nat.reduceAdd, Nat.reduceMul, Nat.reduceSub, Nat.reduceLeDiff, Nat.reduceBEq, Nat.reduceDiv, Nat.reduceMod, Int.reduceToNat, Int.reduceLT, Int.reduceLE, Int.reduceAdd, Int.reduceSub, Int.reduceMul, Int.reduceEq, Int.reduceNeg, reduceCtorEq, resV, resAll, ARes.ev, LV.flat, ite_true, ite_false, exists_eq_left', exists_eq_left, keyOf, implies_true, fillC, capOf]
  refine callR_of (g_SymmetriesOf h.app hn) ?_
  rintro _ N ⟨v, rfl, hv, _, hp⟩
  have hl := hv.lenV
  unfold posOf
  unfold symsOf at hl hv ⊢
  by_cases hF : Filled x y z cs
  · rw [if_pos hF] at hl hv ⊢
    have hsp := syms_pos hF.1
    have hsl := symsK_len (x := x) (y := y) (z := z) (cs := cs) (k := 24)
    simp only [Option.getD_some] at hl hv
    generalize symsK x y z cs 24 = l at hl hv hsp hsl ⊢
    have hz : ¬ (((l.length : Nat) : Int) = 0) := by omega
    have hb1 : 0 ≤ (24 : Int).tdiv ((l.length : Nat) : Int) := Int.tdiv_nonneg (by omega) (by omega)
    have hb2 : (24 : Int).tdiv ((l.length : Nat) : Int) ≤ 24 := by
      rw [Int.tdiv_eq_ediv_of_nonneg (by omega)]; exact Int.ediv_le_self _ (by omega)
    simp (disch := omega) only [hF, hl, ne_eq, not_false_eq_true, hz, Option.isSome_some, ↓SXd, SXu, slBounds, ↓sop, ↓aop, ↓reduceIte, LV.cells, AOp.dst, LV.I, LV.B, LV.U, LV.S, LV.nil, Nat.reduceEqDiff, Nat.reduceAdd, Nat.reduceMul, Nat.reduceSub, Nat.reduceLeDiff, Nat.reduceBEq, Nat.reduceDiv, Nat.reduceMod, Int.reduceToNat, Int.reduceLT, Int.reduceLE, Int.reduceAdd, Int.reduceSub, Int.reduceMul, Int.reduceEq, Int.reduceNeg, reduceCtorEq, resV, resAll, ARes.ev, LV.flat, ite_true, ite_false, exists_eq_left', exists_eq_left, keyOf, implies_true, fillC, capOf]
    exact ⟨rfl, (Pre.app _ _).trans hp⟩
  · rw [if_neg hF] at hl hv ⊢
    simp (disch := omega) only [hF, hl, Option.isSome_none, ↓SXd, SXu, slBounds, ↓sop, ↓aop, ↓reduceIte, LV.cells, AOp.dst, LV.I, LV.B, LV.U, LV.S, LV.nil, Nat.reduceEqDiff, Nat.reduceAdd, Nat.reduceMul, Nat.reduceSub, Nat.reduceLeDiff, Nat.reduceBEq, Nat.reduceDiv, Nat.reduceMod, Int.reduceToNat, Int.reduceLT, Int.reduceLE, Int.reduceAdd, Int.reduceSub, Int.reduceMul, Int.reduceEq, Int.reduceNeg, reduceCtorEq, resV, resAll, ARes.ev, LV.flat, ite_true, ite_false, exists_eq_left', exists_eq_left, keyOf, implies_true, fillC, capOf]
    exact ⟨rfl, (Pre.app _ _).trans hp⟩

theorem g_AreSameForm {x y z x' y' z' : Int} {t t' : Nat} {w w' : Bool} {cs ds : List Cell} {M : Mem} (h : Live M t (.row (triL cs) w 3)) (hn : cs.length ≤ 1000000000) (h' : Live M t' (.row (triL ds) w' 3)) (hn' : ds.length ≤ 1000000000) :
    CallsR PG F.impl_AreSameForm [.agg [.I x, .I y, .I z, .ref t 0 cs.length], .agg [.I x', .I y', .I z', .ref t' 0 ds.length]] M fun v N => v = .tup [.B (decide (Filled x y z cs ∧ Filled x' y' z' ds) && sameForm x y z cs x' y' z' ds), .B (decide (Filled x y z cs ∧ Filled x' y' z' ds))] ∧ Pre M N := by
  have ht := h.lt
  have ht' := h'.lt
  refine callsR_run K.impl_AreSameForm rfl ?_
  simp (disch := omega) only [C.impl_AreSameForm, ↓SXd, SXu, slBounds, ↓sop, ↓aop, ↓reduceIte, LV.cells, AOp.dst, LV.I, LV.B, LV.U, LV.S, LV.nil, Nat.reduceEqDiff, Nat.reduceAdd, Nat.reduceMul, Nat.reduceSub, Nat.reduceLeDiff, Nat.reduceBEq, Nat.reduceDiv, Nat.reduceMod, Int.reduceToNat, Int.reduceLT, Int.reduceLE, Int.reduceAdd, Int.reduceSub, Int.reduceMul, Int.reduceEq, Int.reduceNeg, reduceCtorEq, resV, resAll, ARes.ev, LV.flat, ite_true, ite_false, exists_eq_left', exists_eq_left, keyOf, implies_true, fillC, capOf]
  refine callK_of (g_isFilled (Has.app h.has) hn) ?_
  simp (disch := omega) only [↓SXd, SXu, slBounds, ↓sop, ↓aop, ↓reduceIte, LV.cells, AOp.dst, LV.I, LV.B, LV.U, LV.S, LV.nil, Nat.reduceEqDiff, Nat.reduceAdd, Nat.reduceMul, Nat.reduceSub, Nat.reduceLeDiff, Nat.reduceBEq, Nat.reduceDiv, Nat.reduceMod, Int.reduceToNat, Int.reduceLT, Int.reduceLE, Int.reduceAdd, Int.reduceSub, Int.reduceMul, Int.reduceEq, Int.reduceNeg, reduceCtorEq, resV, resAll, ARes.ev, LV.flat, ite_true, ite_false, exists_eq_left', exists_eq_left, keyOf, implies_true, fillC, capOf]
  by_cases hF : Filled x y z cs
  · simp (disch := omega) only [hF, ↓SXd, SXu, slBounds, ↓sop, ↓aop, ↓reduceIte, LV.cells, AOp.dst, LV.I, LV.B, LV.U, LV.S, LV.nil, Nat.reduceEqDiff, Nat.reduceAdd, Nat.reduceMul, Nat.reduceSub, Nat.reduceLeDiff, Nat.reduceBEq, Nat.reduceDiv, Nat.reduceMod, Int.reduceToNat, Int.reduceLT, Int.reduceLE, Int.reduceAdd, Int.reduceSub, Int.reduceMul, Int.reduceEq, Int.reduceNeg, reduceCtorEq, resV, resAll, ARes.ev, LV.flat, ite_true, ite_false, exists_eq_left', exists_eq_left, keyOf, implies_true, fillC, capOf]
    refine callK_of (g_isFilled (Has.app h'.has) hn') ?_
    simp (disch := omega) only [true_and, ↓SXd, SXu, slBounds, ↓sop, ↓aop, ↓reduceIte, LV.cells, AOp.dst, LV.I, LV.B, LV.U, LV.S, LV.nil, Nat.reduceEqDiff, Nat.reduceAdd, Nat.reduceMul, Nat.reduceSub, Nat.reduceLeDiff, Nat.reduceBEq, Nat.reduceDiv, Nat.reduceMod, Int.reduceToNat, Int.reduceLT, Int.reduceLE, Int.reduceAdd, Int.reduceSub, Int.reduceMul, Int.reduceEq, Int.reduceNeg, reduceCtorEq, resV, resAll, ARes.ev, LV.flat, ite_true, ite_false, exists_eq_left', exists_eq_left, keyOf, implies_true, fillC, capOf]
    by_cases hG : Filled x' y' z' ds
    · have l1 := formHp_len hF.1
      have l2 := formHp_len hG.1
      have hfm := fun (M : Mem) (hu : Live M t (.row (triL cs) w 3)) => g_form hu hF.1 hF.2
      have hff := fun (M : Mem) (hu : Live M t' (.row (triL ds) w' 3)) => g_form hu hG.1 hG.2
      unfold sameForm
      generalize formHp x y z cs = A at l1 hfm ⊢
      generalize formHp x' y' z' ds = B at l2 hff ⊢
      simp (disch := omega) only [hG, Bool.true_and, ↓SXd, SXu, slBounds, ↓sop, ↓aop, ↓reduceIte, LV.cells, AOp.dst, LV.I, LV.B, LV.U, LV.S, LV.nil, Nat.reduceEqDiff, Nat.reduceAdd, Nat.reduceMul, Nat.reduceSub, Nat.reduceLeDiff, Nat.reduceBEq, Nat.reduceDiv, Nat.reduceMod, Int.reduceToNat, Int.reduceLT, Int.reduceLE, Int.reduceAdd, Int.reduceSub, Int.reduceMul, Int.reduceEq, Int.reduceNeg, reduceCtorEq, resV, resAll, ARes.ev, LV.flat, ite_true, ite_false, exists_eq_left', exists_eq_left, keyOf, implies_true, fillC, capOf]
      refine callR_of (hfm _ h.app) ?_
      rintro _ N1 ⟨u1, rfl, hu1, hL1, hp1⟩
      have e1 : N1[M.length + 1]? = some (some (.row [.I x', .I y', .I z', .ref t' 0 ds.length] true 0)) := (Live.newj (j := 1) rfl).pre hp1
      have e0 : N1[M.length]? = some (some (.row [.I x, .I y, .I z, .ref t 0 cs.length] true 0)) := (Live.newj (j := 0) rfl).pre hp1
      simp (disch := omega) only [e1, e0, ↓SXd, SXu, slBounds, ↓sop, ↓aop, ↓reduceIte, LV.cells, AOp.dst, LV.I, LV.B, LV.U, LV.S, LV.nil, Nat.reduceEqDiff, Nat.reduceAdd, Nat.reduceMul, Nat.reduceSub, Nat.reduceLeDiff, Nat.reduceBEq, Nat.reduceDiv, Nat.reduceMod, Int.reduceToNat, Int.reduceLT, Int.reduceLE, Int.reduceAdd, Int.reduceSub, Int.reduceMul, Int.reduceEq, Int.reduceNeg, reduceCtorEq, resV, resAll, ARes.ev, LV.flat, ite_true, ite_false, exists_eq_left', exists_eq_left, keyOf, implies_true, fillC, capOf]
      refine callR_of (hff _ (h'.app.pre hp1)) ?_
      rintro _ N2 ⟨u2, rfl, hu2, hL2, hp2⟩
      simp (disch := omega) only [↓SXd, SXu, slBounds, ↓sop, ↓aop, ↓reduceIte, LV.cells, AOp.dst, LV.I, LV.B, LV.U, LV.S, LV.nil, Nat.reduceEqDiff, Nat.reduceAdd, Nat.reduceMul, Nat.reduceSub, Nat.reduceLeDiff, Nat.reduceBEq, Nat.reduceDiv, Nat.reduceMod, Int.reduceToNat, Int.reduceLT, Int.reduceLE, Int.reduceAdd, Int.reduceSub, Int.reduceMul, Int.reduceEq, Int.reduceNeg, reduceCtorEq, resV, resAll, ARes.ev, LV.flat, ite_true, ite_false, exists_eq_left', exists_eq_left, keyOf, implies_true, fillC, capOf]
      have hc := g_same (g := A) (h := B) (hL1.pre hp2).has hL2.has (by omega) (by omega)
      rw [same_iff] at hc
      refine callK_of (hc) ?_
      simp (disch := omega) only [↓SXd, SXu, slBounds, ↓sop, ↓aop, ↓reduceIte, LV.cells, AOp.dst, LV.I, LV.B, LV.U, LV.S, LV.nil, Nat.reduceEqDiff, Nat.reduceAdd, Nat.reduceMul, Nat.reduceSub, Nat.reduceLeDiff, Nat.reduceBEq, Nat.reduceDiv, Nat.reduceMod, Int.reduceToNat, Int.reduceLT, Int.reduceLE, Int.reduceAdd, Int.reduceSub, Int.reduceMul, Int.reduceEq, Int.reduceNeg, reduceCtorEq, resV, resAll, ARes.ev, LV.flat, ite_true, ite_false, exists_eq_left', exists_eq_left, keyOf, implies_true, fillC, capOf]
      exact ⟨rfl, ((Pre.app _ _).trans hp1).trans hp2⟩
    · simp (disch := omega) only [hG, Bool.false_and, ↓SXd, SXu, slBounds, ↓sop, ↓aop, ↓reduceIte, LV.cells, AOp.dst, LV.I, LV.B, LV.U, LV.S, LV.nil, Nat.reduceEqDiff, Nat.reduceAdd, Nat.reduceMul, Nat.reduceSub, Nat.reduceLeDiff, Nat.reduceBEq, Nat.reduceDiv, Nat.reduceMod, Int.reduceToNat, Int.reduceLT, Int.reduceLE, Int.reduceAdd, Int.reduceSub, Int.reduceMul, Int.reduceEq, Int.reduceNeg, reduceCtorEq, resV, resAll, ARes.ev, LV.flat, ite_true, ite_false, exists_eq_left', exists_eq_left, keyOf, implies_true, fillC, capOf]
      exact ⟨rfl, Pre.app _ _⟩
  · simp (disch := omega) only [hF, false_and, Bool.false_and, ↓SXd, SXu, slBounds, ↓sop, ↓aop, ↓reduceIte, LV.cells, AOp.dst, LV.I, LV.B, LV.U, LV.S, LV.nil, Nat.reduceEqDiff, Nat.reduceAdd, Nat.reduceMul, Nat.reduceSub, Nat.reduceLeDiff, Nat.reduceBEq, Nat.reduceDiv, Nat.reduceMod, Int.reduceToNat, Int.reduceLT, Int.reduceLE, Int.reduceAdd, Int.reduceSub, Int.reduceMul, Int.reduceEq, Int.reduceNeg, reduceCtorEq, resV, resAll, ARes.ev, LV.flat, ite_true, ite_false, exists_eq_left', exists_eq_left, keyOf, implies_true, fillC, capOf]
    exact ⟨rfl, Pre.app _ _⟩
end Go.Ab

/- The law of AreSameForm. -/
namespace Go.Ab
open Go
set_option linter.unusedSimpArgs false
set_option linter.unusedVariables false
set_option maxRecDepth 20000

theorem l_AreSameForm {x y z x' y' z' : Int} {t o t' o' : Nat} {cs ds : List Cell} {M : Mem} (h : Tri M t o cs) (hn0 : cs.length ≤ 9223372036854775807) (h' : Tri M t' o' ds) (hn0' : ds.length ≤ 9223372036854775807) :
    CallsR PG F.laws_FnExactAreSameForm [.agg [.I x, .I y, .I z, .ref t o cs.length], .agg [.I x', .I y', .I z', .ref t' o' ds.length]] M fun v _ => v = .B true := by
  have ht := h.lt
  have ht' := h'.lt
  refine callsR_run K.laws_FnExactAreSameForm rfl ?_
  simp (disch := omega) only [C.laws_FnExactAreSameForm, ↓SXd, SXu, slBounds, ↓sop, ↓aop, ↓reduceIte, LV.cells, AOp.dst, LV.I, LV.B, LV.U, LV.S, LV.nil, Nat.reduceEqDiff, Nat.reduceAdd, Nat.reduceMul, Nat.reduceSub, Nat.reduceLeDiff, Nat.reduceBEq, Nat.reduceDiv, Nat.reduceMod, Int.reduceToNat, Int.reduceLT, Int.reduceLE, Int.reduceAdd, Int.reduceSub, Int.reduceMul, Int.reduceEq, Int.reduceNeg, reduceCtorEq, resV, resAll, ARes.ev, LV.flat, ite_true, ite_false, exists_eq_left', exists_eq_left, keyOf, implies_true, fillC, capOf]
  refine callK_of (h_szHeap (by omega) (by omega) (by omega)) ?_
  simp (disch := omega) only [↓SXd, SXu, slBounds, ↓sop, ↓aop, ↓reduceIte, LV.cells, AOp.dst, LV.I, LV.B, LV.U, LV.S, LV.nil, Nat.reduceEqDiff, Nat.reduceAdd, Nat.reduceMul, Nat.reduceSub, Nat.reduceLeDiff, Nat.reduceBEq, Nat.reduceDiv, Nat.reduceMod, Int.reduceToNat, Int.reduceLT, Int.reduceLE, Int.reduceAdd, Int.reduceSub, Int.reduceMul, Int.reduceEq, Int.reduceNeg, reduceCtorEq, resV, resAll, ARes.ev, LV.flat, ite_true, ite_false, exists_eq_left', exists_eq_left, keyOf, implies_true, fillC, capOf]
  by_cases hl : (1048576 : Int) < (cs.length : Nat)
  · rw [if_pos hl]
    simp (disch := omega) only [Int.reduceLT, ↓SXd, SXu, slBounds, ↓sop, ↓aop, ↓reduceIte, LV.cells, AOp.dst, LV.I, LV.B, LV.U, LV.S, LV.nil, Nat.reduceEqDiff, Nat.reduceAdd, Nat.reduceMul, Nat.reduceSub, Nat.reduceLeDiff, Nat.reduceBEq, Nat.reduceDiv, Nat.reduceMod, Int.reduceToNat, Int.reduceLT, Int.reduceLE, Int.reduceAdd, Int.reduceSub, Int.reduceMul, Int.reduceEq, Int.reduceNeg, reduceCtorEq, resV, resAll, ARes.ev, LV.flat, ite_true, ite_false, exists_eq_left', exists_eq_left, keyOf, implies_true, fillC, capOf]
    rfl
  · rw [if_neg hl]
    have hn : cs.length ≤ 1000000000 := by omega
    simp (disch := omega) only [↓SXd, SXu, slBounds, ↓sop, ↓aop, ↓reduceIte, LV.cells, AOp.dst, LV.I, LV.B, LV.U, LV.S, LV.nil, Nat.reduceEqDiff, Nat.reduceAdd, Nat.reduceMul, Nat.reduceSub, Nat.reduceLeDiff, Nat.reduceBEq, Nat.reduceDiv, Nat.reduceMod, Int.reduceToNat, Int.reduceLT, Int.reduceLE, Int.reduceAdd, Int.reduceSub, Int.reduceMul, Int.reduceEq, Int.reduceNeg, reduceCtorEq, resV, resAll, ARes.ev, LV.flat, ite_true, ite_false, exists_eq_left', exists_eq_left, keyOf, implies_true, fillC, capOf]
    refine callK_of (h_szHeap (by omega) (by omega) (by omega)) ?_
    simp (disch := omega) only [↓SXd, SXu, slBounds, ↓sop, ↓aop, ↓reduceIte, LV.cells, AOp.dst, LV.I, LV.B, LV.U, LV.S, LV.nil, Nat.reduceEqDiff, Nat.reduceAdd, Nat.reduceMul, Nat.reduceSub, Nat.reduceLeDiff, Nat.reduceBEq, Nat.reduceDiv, Nat.reduceMod, Int.reduceToNat, Int.reduceLT, Int.reduceLE, Int.reduceAdd, Int.reduceSub, Int.reduceMul, Int.reduceEq, Int.reduceNeg, reduceCtorEq, resV, resAll, ARes.ev, LV.flat, ite_true, ite_false, exists_eq_left', exists_eq_left, keyOf, implies_true, fillC, capOf]
    by_cases hl' : (1048576 : Int) - (cs.length : Nat) < (ds.length : Nat)
    · rw [if_pos hl']
      simp (disch := omega) only [Int.reduceLT, ↓SXd, SXu, slBounds, ↓sop, ↓aop, ↓reduceIte, LV.cells, AOp.dst, LV.I, LV.B, LV.U, LV.S, LV.nil, Nat.reduceEqDiff, Nat.reduceAdd, Nat.reduceMul, Nat.reduceSub, Nat.reduceLeDiff, Nat.reduceBEq, Nat.reduceDiv, Nat.reduceMod, Int.reduceToNat, Int.reduceLT, Int.reduceLE, Int.reduceAdd, Int.reduceSub, Int.reduceMul, Int.reduceEq, Int.reduceNeg, reduceCtorEq, resV, resAll, ARes.ev, LV.flat, ite_true, ite_false, exists_eq_left', exists_eq_left, keyOf, implies_true, fillC, capOf]
      rfl
    · rw [if_neg hl']
      have hn' : ds.length ≤ 1000000000 := by omega
      simp (disch := omega) only [↓SXd, SXu, slBounds, ↓sop, ↓aop, ↓reduceIte, LV.cells, AOp.dst, LV.I, LV.B, LV.U, LV.S, LV.nil, Nat.reduceEqDiff, Nat.reduceAdd, Nat.reduceMul, Nat.reduceSub, Nat.reduceLeDiff, Nat.reduceBEq, Nat.reduceDiv, Nat.reduceMod, Int.reduceToNat, Int.reduceLT, Int.reduceLE, Int.reduceAdd, Int.reduceSub, Int.reduceMul, Int.reduceEq, Int.reduceNeg, reduceCtorEq, resV, resAll, ARes.ev, LV.flat, ite_true, ite_false, exists_eq_left', exists_eq_left, keyOf, implies_true, fillC, capOf]
      refine callK_of (h_toHeap h.app hn) ?_
      simp (disch := omega) only [↓SXd, SXu, slBounds, ↓sop, ↓aop, ↓reduceIte, LV.cells, AOp.dst, LV.I, LV.B, LV.U, LV.S, LV.nil, Nat.reduceEqDiff, Nat.reduceAdd, Nat.reduceMul, Nat.reduceSub, Nat.reduceLeDiff, Nat.reduceBEq, Nat.reduceDiv, Nat.reduceMod, Int.reduceToNat, Int.reduceLT, Int.reduceLE, Int.reduceAdd, Int.reduceSub, Int.reduceMul, Int.reduceEq, Int.reduceNeg, reduceCtorEq, resV, resAll, ARes.ev, LV.flat, ite_true, ite_false, exists_eq_left', exists_eq_left, keyOf, implies_true, fillC, capOf]
      refine callK_of (h_toHeap h'.app hn') ?_
      simp (disch := omega) only [↓SXd, SXu, slBounds, ↓sop, ↓aop, ↓reduceIte, LV.cells, AOp.dst, LV.I, LV.B, LV.U, LV.S, LV.nil, Nat.reduceEqDiff, Nat.reduceAdd, Nat.reduceMul, Nat.reduceSub, Nat.reduceLeDiff, Nat.reduceBEq, Nat.reduceDiv, Nat.reduceMod, Int.reduceToNat, Int.reduceLT, Int.reduceLE, Int.reduceAdd, Int.reduceSub, Int.reduceMul, Int.reduceEq, Int.reduceNeg, reduceCtorEq, resV, resAll, ARes.ev, LV.flat, ite_true, ite_false, exists_eq_left', exists_eq_left, keyOf, implies_true, fillC, capOf]
      refine callK_of (h_sAreSameForm (Live.newj (j := 2) (b := .row (triL cs) true 3) rfl) hn (Live.newj (j := 3) (b := .row (triL ds) true 3) rfl) hn') ?_
      simp (disch := omega) only [↓SXd, SXu, slBounds, ↓sop, ↓aop, ↓reduceIte, LV.cells, AOp.dst, LV.I, LV.B, LV.U, LV.S, LV.nil, Nat.reduceEqDiff, Nat.reduceAdd, Nat.reduceMul, Nat.reduceSub, Nat.reduceLeDiff, Nat.reduceBEq, Nat.reduceDiv, Nat.reduceMod, Int.reduceToNat, Int.reduceLT, Int.reduceLE, Int.reduceAdd, Int.reduceSub, Int.reduceMul, Int.reduceEq, Int.reduceNeg, reduceCtorEq, resV, resAll, ARes.ev, LV.flat, ite_true, ite_false, exists_eq_left', exists_eq_left, keyOf, implies_true, fillC, capOf]
      refine callK_of (h_toHeap h.app hn) ?_
      simp (disch := omega) only [↓SXd, SXu, slBounds, ↓sop, ↓aop, ↓reduceIte, LV.cells, AOp.dst, LV.I, LV.B, LV.U, LV.S, LV.nil, Nat.reduceEqDiff, Nat.reduceAdd, Nat.reduceMul, Nat.reduceSub, Nat.reduceLeDiff, Nat.reduceBEq, Nat.reduceDiv, Nat.reduceMod, Int.reduceToNat, Int.reduceLT, Int.reduceLE, Int.reduceAdd, Int.reduceSub, Int.reduceMul, Int.reduceEq, Int.reduceNeg, reduceCtorEq, resV, resAll, ARes.ev, LV.flat, ite_true, ite_false, exists_eq_left', exists_eq_left, keyOf, implies_true, fillC, capOf]
      refine callK_of (h_toHeap h'.app hn') ?_
      simp (disch := omega) only [↓SXd, SXu, slBounds, ↓sop, ↓aop, ↓reduceIte, LV.cells, AOp.dst, LV.I, LV.B, LV.U, LV.S, LV.nil, Nat.reduceEqDiff, Nat.reduceAdd, Nat.reduceMul, Nat.reduceSub, Nat.reduceLeDiff, Nat.reduceBEq, Nat.reduceDiv, Nat.reduceMod, Int.reduceToNat, Int.reduceLT, Int.reduceLE, Int.reduceAdd, Int.reduceSub, Int.reduceMul, Int.reduceEq, Int.reduceNeg, reduceCtorEq, resV, resAll, ARes.ev, LV.flat, ite_true, ite_false, exists_eq_left', exists_eq_left, keyOf, implies_true, fillC, capOf]
      refine callR_of (g_AreSameForm (Live.newj (j := 4) (b := .row (triL cs) true 3) rfl) hn (Live.newj (j := 6) (b := .row (triL ds) true 3) rfl) hn') ?_
      rintro _ N ⟨rfl, hp⟩
      have b1 : Live N M.length (.row [.I x, .I y, .I z, .ref t o cs.length] true 0) := (Live.newj (j := 0) rfl).pre hp
      have b2 : Live N (M.length + 1) (.row [.I x', .I y', .I z', .ref t' o' ds.length] true 0) := (Live.newj (j := 1) rfl).pre hp
      have r1 : Live N (M.length + 4) (.row (triL cs) true 3) := (Live.newj (j := 4) rfl).pre hp
      have x1 : Live N (M.length + 5) (.row [.I x, .I y, .I z, .ref (M.length + 4) 0 cs.length] true 0) := (Live.newj (j := 5) rfl).pre hp
      have r2 : Live N (M.length + 6) (.row (triL ds) true 3) := (Live.newj (j := 6) rfl).pre hp
      have x2 : Live N (M.length + 7) (.row [.I x', .I y', .I z', .ref (M.length + 6) 0 ds.length] true 0) := (Live.newj (j := 7) rfl).pre hp
      have hM : Pre M N := (Pre.app _ _).trans hp
      simp (disch := omega) only [b1.cells, x1.cells, ↓SXd, SXu, slBounds, ↓sop, ↓aop, ↓reduceIte, LV.cells, AOp.dst, LV.I, LV.B, LV.U, LV.S, LV.nil, Nat.reduceEqDiff, Nat.reduceAdd, Nat.reduceMul, Nat.reduceSub, Nat.reduceLeDiff, Nat.reduceBEq, Nat.reduceDiv, Nat.reduceMod, Int.reduceToNat, Int.reduceLT, Int.reduceLE, Int.reduceAdd, Int.reduceSub, Int.reduceMul, Int.reduceEq, Int.reduceNeg, reduceCtorEq, resV, resAll, ARes.ev, LV.flat, ite_true, ite_false, exists_eq_left', exists_eq_left, keyOf, implies_true, fillC, capOf]
      refine callK_of (h_toHeap (h.pre hM) hn) ?_
      simp (disch := omega) only [b1.cells, x1.cells, ↓SXd, SXu, slBounds, ↓sop, ↓aop, ↓reduceIte, LV.cells, AOp.dst, LV.I, LV.B, LV.U, LV.S, LV.nil, Nat.reduceEqDiff, Nat.reduceAdd, Nat.reduceMul, Nat.reduceSub, Nat.reduceLeDiff, Nat.reduceBEq, Nat.reduceDiv, Nat.reduceMod, Int.reduceToNat, Int.reduceLT, Int.reduceLE, Int.reduceAdd, Int.reduceSub, Int.reduceMul, Int.reduceEq, Int.reduceNeg, reduceCtorEq, resV, resAll, ARes.ev, LV.flat, ite_true, ite_false, exists_eq_left', exists_eq_left, keyOf, implies_true, fillC, capOf]
      have he := h_eqHeap (x := x) (y := y) (z := z) (x' := x) (y' := y) (z' := z) (M := N ++ [some (.row (triL cs) true 3)]) (Live.app r1).has (Live.newj (M := N) (L := [some (.row (triL cs) true 3)]) (j := 0) rfl).has hn hn
      rw [decide_eq_true (by simp)] at he
      refine callK_of he ?_
      simp (disch := omega) only [b2.app.cells, x2.app.cells, ↓SXd, SXu, slBounds, ↓sop, ↓aop, ↓reduceIte, LV.cells, AOp.dst, LV.I, LV.B, LV.U, LV.S, LV.nil, Nat.reduceEqDiff, Nat.reduceAdd, Nat.reduceMul, Nat.reduceSub, Nat.reduceLeDiff, Nat.reduceBEq, Nat.reduceDiv, Nat.reduceMod, Int.reduceToNat, Int.reduceLT, Int.reduceLE, Int.reduceAdd, Int.reduceSub, Int.reduceMul, Int.reduceEq, Int.reduceNeg, reduceCtorEq, resV, resAll, ARes.ev, LV.flat, ite_true, ite_false, exists_eq_left', exists_eq_left, keyOf, implies_true, fillC, capOf]
      refine callK_of (h_toHeap (h'.pre (hM.trans (Pre.app _ _))) hn') ?_
      have hlx := x2.lt
      simp (disch := omega) only [b2.app.cells, x2.app.cells, List.getElem?_append_left, ↓SXd, SXu, slBounds, ↓sop, ↓aop, ↓reduceIte, LV.cells, AOp.dst, LV.I, LV.B, LV.U, LV.S, LV.nil, Nat.reduceEqDiff, Nat.reduceAdd, Nat.reduceMul, Nat.reduceSub, Nat.reduceLeDiff, Nat.reduceBEq, Nat.reduceDiv, Nat.reduceMod, Int.reduceToNat, Int.reduceLT, Int.reduceLE, Int.reduceAdd, Int.reduceSub, Int.reduceMul, Int.reduceEq, Int.reduceNeg, reduceCtorEq, resV, resAll, ARes.ev, LV.flat, ite_true, ite_false, exists_eq_left', exists_eq_left, keyOf, implies_true, fillC, capOf]
      have hg := h_eqHeap (x := x') (y := y') (z := z') (x' := x') (y' := y') (z' := z') (M := N ++ [some (.row (triL cs) true 3), some (.row (triL ds) true 3)]) (Live.app r2).has (Live.newj (M := N) (L := [some (.row (triL cs) true 3), some (.row (triL ds) true 3)]) (j := 1) rfl).has hn' hn'
      rw [decide_eq_true (by simp)] at hg
      refine callK_of hg ?_
      simp (disch := omega) only [↓SXd, SXu, slBounds, ↓sop, ↓aop, ↓reduceIte, LV.cells, AOp.dst, LV.I, LV.B, LV.U, LV.S, LV.nil, Nat.reduceEqDiff, Nat.reduceAdd, Nat.reduceMul, Nat.reduceSub, Nat.reduceLeDiff, Nat.reduceBEq, Nat.reduceDiv, Nat.reduceMod, Int.reduceToNat, Int.reduceLT, Int.reduceLE, Int.reduceAdd, Int.reduceSub, Int.reduceMul, Int.reduceEq, Int.reduceNeg, reduceCtorEq, resV, resAll, ARes.ev, LV.flat, ite_true, ite_false, exists_eq_left', exists_eq_left, keyOf, implies_true, fillC, capOf]
      rfl
end Go.Ab

/- From the abstract machine to a row: a law that is called with what came in. -/
namespace Go.Ab
open Go Go.RowKit

/-- A memory of which nothing is ours. -/
def NoOwn (M : Mem) : Prop := ∀ t b, Live M t b → b.isOwn = false

theorem law_calls {P : Program} {f : FuncId} {args : List LV} {M N : Mem} {b : Bool} {G : Gh} {w : World} {xs : List Value} (hc : CallsTo P f args M (.B b) N) (hi : Inv G M w) (hn : NoOwn M) (hx : All2 (VR G) args xs) :
    Calls P f xs.toArray w fun e w' => e = .returned (.bool b) ∧ Below w.heap.size w w' := by
  refine (hc.2 G w xs hi hx).mono ?_
  rintro e w' ⟨v, N, x, G', ⟨rfl, rfl⟩, rfl, h1, h2, h3⟩
  refine ⟨by rw [(vr_val h1).1], h3.os, h3.tape, h3.output, h3.size, fun k hk => h3.keep k hk ?_⟩
  rintro ⟨t, blk, β, hl, ho, _⟩
  rw [hn t blk hl] at ho; cases ho

theorem law_callsR {P : Program} {f : FuncId} {args : List LV} {M : Mem} {b : Bool} {G : Gh} {w : World} {xs : List Value} (hc : CallsR P f args M fun v _ => v = .B b) (hi : Inv G M w) (hn : NoOwn M) (hx : All2 (VR G) args xs) :
    Calls P f xs.toArray w fun e w' => e = .returned (.bool b) ∧ Below w.heap.size w w' := by
  refine (hc.2 G w xs hi hx).mono ?_
  rintro e w' ⟨v, N, x, G', rfl, rfl, h1, h2, h3⟩
  refine ⟨by rw [(vr_val h1).1], h3.os, h3.tape, h3.output, h3.size, fun k hk => h3.keep k hk ?_⟩
  rintro ⟨t, blk, β, hl, ho, _⟩
  rw [hn t blk hl] at ho; cases ho
end Go.Ab

/- A heap that came in, opened. -/
namespace Go.Ab
open Go Go.RowKit

section
variable {H : Type} {enc : TypeId × Value → H} {P : Program} {w : World} {held : Bool}

/-- What the abstract machine is told of a slice of cells that came in. -/
def RowOf (w : World) (a : Option Addr) (len cap : Nat) (cs : List Cell) : Prop :=
  cs.length = len ∧ len ≤ cap ∧ cap ≤ maxLen ∧ (cap = 0 ∨ ∃ b o c e fz, a = some ⟨b, o, none⟩ ∧ w.heap[b]? = some (.cells c e fz) ∧ ∀ i, i < len → ∀ j v, (cs.getD i default).row[j]? = some (.I v) → c[o + (i * 3 + j)]? = some (.int .i64 v))

theorem cell_heap {a : Addr} {v : Value} (h : w.cell? a = some v) : ∃ b o c e fz, a = ⟨b, o, none⟩ ∧ w.heap[b]? = some (.cells c e fz) ∧ c[o]? = some v := by
  unfold World.cell? at h
  split at h
  · rename_i c e fz hh
    split at h
    · cases h
    · rename_i hs
      obtain ⟨b, o, s⟩ := a
      cases s with
      | some s => simp at hs
      | none => exact ⟨b, o, c, e, fz, rfl, hh, h⟩
  · cases h

theorem open_cells {ts ta ti : TypeId} {fuel : Nat} {cs : List Value} {x : DataW H × List MemPlace} (hts : P.underlying ts = some (.slice ta)) (hta : P.underlying ta = some (.array 3 ti)) (hti : P.underlying ti = some (.int .i64)) (hca : P.cellsOf ta = 3) (hci : P.cellsOf ti = 1)
    (h : DataW.trod enc P w 0 (fun _ => true) held fuel ts cs = some x) : ∃ a len cap ds, cs = [.slice a len cap] ∧ RowOf w a len cap ds := by
  rcases Go.Deep.open_slice hts h with ⟨rfl, _⟩ | ⟨a, len, cap, m, n, D, Pl, rfl, _, hl, hm, hme, _, hel⟩
  · exact ⟨none, 0, 0, [], rfl, rfl, Nat.le_refl _, Nat.zero_le _, .inl rfl⟩
  · have hmc : m = cap := by simpa using hme
    subst hmc
    have hel' : ∀ i, i < m → ∃ z : Cell, ∀ j v, z.row[j]? = some (.I v) → w.cell? (a.add (i * 3 + j)) = some (.int .i64 v) := fun i hi => by
      obtain ⟨cs', h1, h2⟩ := hel i hi
      rw [hca] at h1
      have r3 : List.range 3 = [0, 1, 2] := rfl
      simp only [World.cells?, Nat.zero_le, if_true, r3, List.mapM_cons, List.mapM_nil, Option.bind_eq_bind, Option.bind_eq_some_iff, Option.pure_def, Option.some.injEq] at h1
      obtain ⟨c0, e0, r, ⟨c1, e1, r', ⟨c2, e2, r'', rfl, rfl⟩, rfl⟩, rfl⟩ := h1
      obtain ⟨y0, y1, y2, n', _, k0, k1, k2⟩ := Go.ChangeShapes.trod_array3 hta hci h2
      obtain ⟨z0, q0, _, _⟩ := DataW.trod_int hti k0
      obtain ⟨z1, q1, _, _⟩ := DataW.trod_int hti k1
      obtain ⟨z2, q2, _, _⟩ := DataW.trod_int hti k2
      simp only [List.cons.injEq, and_true] at q0 q1 q2
      subst q0; subst q1; subst q2
      simp only [Go.Deep.add_add] at e0 e1 e2
      refine ⟨⟨z0, z1, z2⟩, fun j v hj => ?_⟩
      match j with
      | 0 => cases hj; exact e0
      | 1 => cases hj; exact e1
      | 2 => cases hj; exact e2
      | j + 3 => cases hj
    obtain ⟨f, hf⟩ : ∃ f : Nat → Cell, ∀ i, i < m → ∀ j v, (f i).row[j]? = some (.I v) → w.cell? (a.add (i * 3 + j)) = some (.int .i64 v) :=
      ⟨fun i => if h : i < m then Classical.choose (hel' i h) else default, fun i hi => by simp only [hi, dif_pos]; exact Classical.choose_spec (hel' i hi)⟩
    refine ⟨some a, len, m, (List.range len).map f, rfl, by simp, hl, hm, ?_⟩
    rcases Nat.eq_zero_or_pos m with h0 | h0
    · exact .inl h0
    · refine .inr ?_
      have hc0 := hf 0 h0 0 (f 0).a rfl
      obtain ⟨b, o, c, e, fz, ha, hh, _⟩ := cell_heap hc0
      have ha' : a = ⟨b, o, none⟩ := by simpa [Addr.add] using ha
      subst ha'
      refine ⟨b, o, c, e, fz, rfl, hh, fun i hi j v hj => ?_⟩
      have hg : ((List.range len).map f).getD i default = f i := by simp [hi]
      rw [hg] at hj
      have hcell := hf i (by omega) j v hj
      have hadd : (⟨b, o, none⟩ : Addr).add (i * 3 + j) = ⟨b, o + (i * 3 + j), none⟩ := addr_add _ _ _
      rw [hadd] at hcell
      unfold World.cell? at hcell
      simp only [hh] at hcell
      simpa using hcell
end

/-- A row that came in is laid into the abstract memory, to be read. -/
theorem Inv.addRow {G : Gh} {M : Mem} {w : World} (hi : Inv G M w) (hno : NoOwn M) {a : Option Addr} {len cap esz : Nat} {ls : List LV} (hl : len ≤ cap) (hll : ls.length ≤ cap * esz)
    (h : (cap = 0 ∧ ls = []) ∨ ∃ b o c e fz, a = some ⟨b, o, none⟩ ∧ w.heap[b]? = some (.cells c e fz) ∧ ∀ j l, ls[j]? = some l → ∃ x, c[o + j]? = some x ∧ VR1 G l x) :
    ∃ G', Ext G G' ∧ Inv G' (M ++ [some (.row ls false esz)]) w ∧ NoOwn (M ++ [some (.row ls false esz)]) ∧ VR1 G' (.ref M.length 0 len) (.slice a len cap) := by
  obtain ⟨β, hβ, hv⟩ : ∃ β : Base, (∀ G' : Gh, Ext G G' → EmbB G' w (.row ls false esz) β) ∧ (∀ G' : Gh, G' M.length = some β → VR1 G' (.ref M.length 0 len) (.slice a len cap)) := by
    rcases h with ⟨rfl, rfl⟩ | ⟨b, o, c, e, fz, rfl, hh, hc⟩
    · refine ⟨⟨0, 0, esz, 0, true⟩, fun G' _ => ⟨rfl, .inl ⟨rfl, rfl⟩⟩, fun G' hg => ⟨_, hg, a, 0, rfl, .inl ⟨by omega, rfl⟩⟩⟩
    · refine ⟨⟨b, o, esz, cap * esz, false⟩, fun G' hx => ⟨rfl, .inr ⟨rfl, c, e, fz, hh, (fun h => by cases h), hll, fun j l hj => ?_⟩⟩, fun G' hg => ⟨_, hg, _, cap, rfl, .inr ⟨rfl, rfl, hl, by simp⟩⟩⟩
      obtain ⟨x, h1, h2⟩ := hc j l hj
      exact ⟨x, h1, h2.ext hx⟩
  have hx : Ext G (G.put M.length β) := Gh.put_ext (hi.top _ (Nat.le_refl _))
  have hat : (G.put M.length β) M.length = some β := by simp [Gh.put]
  have hno' : NoOwn (M ++ [some (.row ls false esz)]) := fun t b hb => by
    rcases live_push hb with ⟨_, h1⟩ | ⟨_, rfl⟩
    · exact hno t b h1
    · rfl
  refine ⟨G.put M.length β, hx, ⟨fun t b hb => ?_, fun t t' b b' γ γ' _ hb _ ho => ?_, fun t ht => ?_⟩, hno', hv _ hat⟩
  · rcases live_push hb with ⟨hlt, h1⟩ | ⟨rfl, rfl⟩
    · obtain ⟨γ, hg, he⟩ := hi.emb t b h1
      exact ⟨γ, hx _ _ hg, he.ext hx fun _ => rfl⟩
    · exact ⟨β, hat, hβ _ hx⟩
  · rw [hno' t b hb] at ho; cases ho
  · simp at ht
    unfold Gh.put
    rw [if_neg (by omega)]
    exact hi.top t (by omega)

theorem Inv.none (w : World) : Inv (fun _ => Option.none) [] w := ⟨fun t b h => by unfold Live at h; simp at h, fun t t' b b' _ _ _ h => by unfold Live at h; simp at h, fun _ _ => rfl⟩
theorem NoOwn.none : NoOwn [] := fun t b h => by unfold Live at h; simp at h

theorem Inv.addCells {G : Gh} {M : Mem} {w : World} (hi : Inv G M w) (hno : NoOwn M) {a : Option Addr} {len cap : Nat} {cs : List Cell} (h : RowOf w a len cap cs) :
    ∃ G', Ext G G' ∧ Inv G' (M ++ [some (.row (triL cs) false 3)]) w ∧ NoOwn (M ++ [some (.row (triL cs) false 3)]) ∧ VR1 G' (.ref M.length 0 len) (.slice a len cap) := by
  obtain ⟨h1, h2, h3, h4⟩ := h
  refine hi.addRow hno h2 (by rw [triL_len]; omega) ?_
  rcases h4 with h0 | ⟨b, o, c, e, fz, ha, hh, hc⟩
  · refine .inl ⟨h0, ?_⟩
    have : cs = [] := List.eq_nil_of_length_eq_zero (by omega)
    rw [this]; rfl
  · refine .inr ⟨b, o, c, e, fz, ha, hh, fun j l hj => ?_⟩
    have hjl : j < cs.length * 3 := by
      rw [← triL_len]
      rcases Nat.lt_or_ge j (triL cs).length with h | h
      · exact h
      · rw [List.getElem?_eq_none h] at hj; cases hj
    have hat := triL_at (cs := cs) (k := j / 3) (by omega)
    have hrow : (cs.getD (j / 3) default).row[j % 3]? = some l := by
      rw [← hat, List.getElem?_take, if_pos (Nat.mod_lt _ (by omega)), List.getElem?_drop]
      rw [show j / 3 * 3 + j % 3 = j by omega]; exact hj
    have hI : ∃ v, l = .I v := by
      have hm : j % 3 < 3 := Nat.mod_lt _ (by omega)
      generalize j % 3 = r at hrow hm
      match r with
      | 0 => cases hrow; exact ⟨_, rfl⟩
      | 1 => cases hrow; exact ⟨_, rfl⟩
      | 2 => cases hrow; exact ⟨_, rfl⟩
    obtain ⟨v, rfl⟩ := hI
    refine ⟨.int .i64 v, ?_, rfl, rfl⟩
    have := hc (j / 3) (by omega) (j % 3) v hrow
    rwa [show j / 3 * 3 + j % 3 = j by omega] at this
end Go.Ab
