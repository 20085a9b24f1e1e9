/- Parts of the proof of FnExactSpareCellsSaid: Td Ui Uj C_Uf K_Uf Uf Uk Ul Um C_Pb K_Pb Pa C_Nc K_Nc Nc Pb. -/
import Derived.Test.YtjpdjjeddagjlaaA8
import Derived.Test.YtjpdjjeddagjlaaA4
import Derived.Test.YtjpdjjeddagjlaaA7
import Derived.Test.YtjpdjjeddagjlaaA3
import Derived.Test.YtjpdjjeddagjlaaProg
import Derived.KernelRfl
import Derived.Test.YtjpdjjeddagjlaaA5
import Derived.Test.YtjpdjjeddagjlaaA6
set_option linter.all false
/- Contracts: the reference's least boxes. -/
namespace Go.Ab
open Go
set_option linter.unusedSimpArgs false
set_option linter.unusedVariables false

def Small (c : Cell) : Prop := (-100 ≤ c.a ∧ c.a ≤ 100) ∧ (-100 ≤ c.b ∧ c.b ≤ 100) ∧ (-100 ≤ c.c ∧ c.c ≤ 100)
def shift (p c : Cell) : Cell := ⟨c.a + p.a, c.b + p.b, c.c + p.c⟩
def loC (c d : Cell) : Cell := ⟨min c.a d.a, min c.b d.b, min c.c d.c⟩
def hiC (c d : Cell) : Cell := ⟨max c.a d.a, max c.b d.b, max c.c d.c⟩
def lowOf (cs : List Cell) : Cell := cs.foldl loC (cs.getD 0 default)
def highOf (cs : List Cell) : Cell := cs.foldl hiC (cs.getD 0 default)
def cropHp (cs : List Cell) : Hp := ⟨(highOf cs).a - (lowOf cs).a + 1, (highOf cs).b - (lowOf cs).b + 1, (highOf cs).c - (lowOf cs).c + 1, cs.map (shift ⟨0 - (lowOf cs).a, 0 - (lowOf cs).b, 0 - (lowOf cs).c⟩)⟩
/-- The first d coordinates of one cell, the others of another one. -/
def mixC (c e : Cell) (d : Nat) : Cell := ⟨if 0 < d then e.a else c.a, if 1 < d then e.b else c.b, if 2 < d then e.c else c.c⟩
theorem mixC_set {c e : Cell} {d : Nat} (hd : d < 3) : (mixC c e d).row.set d (.I (e.at d)) = (mixC c e (d + 1)).row := by
  rcases (show d = 0 ∨ d = 1 ∨ d = 2 by omega) with rfl | rfl | rfl <;> simp [mixC, Cell.row, Cell.at]
theorem mixC_at {c e : Cell} {d : Nat} (hd : d < 3) : (mixC c e d).at d = c.at d := by
  rcases (show d = 0 ∨ d = 1 ∨ d = 2 by omega) with rfl | rfl | rfl <;> simp [mixC, Cell.at]
theorem loC_at {c e : Cell} {d : Nat} (hd : d < 3) : (loC c e).at d = min (c.at d) (e.at d) := by
  rcases (show d = 0 ∨ d = 1 ∨ d = 2 by omega) with rfl | rfl | rfl <;> rfl
theorem hiC_at {c e : Cell} {d : Nat} (hd : d < 3) : (hiC c e).at d = max (c.at d) (e.at d) := by
  rcases (show d = 0 ∨ d = 1 ∨ d = 2 by omega) with rfl | rfl | rfl <;> rfl
theorem fold_small {f : Cell → Cell → Cell} (hf : ∀ c d, Small c → Small d → Small (f c d)) : ∀ {l : List Cell} {c : Cell}, Small c → (∀ d ∈ l, Small d) → Small (l.foldl f c)
  | [], _, h, _ => h
  | d :: l, c, h, hl => by rw [List.foldl_cons]; exact fold_small hf (hf c d h (hl d (by simp))) fun e he => hl e (by simp [he])
theorem loC_small (c d : Cell) (h : Small c) (k : Small d) : Small (loC c d) := by
  obtain ⟨⟨_, _⟩, ⟨_, _⟩, ⟨_, _⟩⟩ := h
  obtain ⟨⟨_, _⟩, ⟨_, _⟩, ⟨_, _⟩⟩ := k
  unfold loC Small; simp only; omega
theorem hiC_small (c d : Cell) (h : Small c) (k : Small d) : Small (hiC c d) := by
  obtain ⟨⟨_, _⟩, ⟨_, _⟩, ⟨_, _⟩⟩ := h
  obtain ⟨⟨_, _⟩, ⟨_, _⟩, ⟨_, _⟩⟩ := k
  unfold hiC Small; simp only; omega

theorem h_l1Least {a b : Int} {M : Mem} : CallsTo PG F.spec_l1Least [.I a, .I b] M (.I (min a b)) M := by
  refine calls_run K.spec_l1Least rfl ?_
  simp (disch := omega) only [C.spec_l1Least, ↓SXd, SXu, slBounds, ↓sop, ↓aop, ↓reduceIte, LV.cells, AOp.dst, LV.I, LV.B, LV.U, LV.S, LV.nil, Nat.reduceEqDiff, Nat.reduceAdd, Nat.reduceMul, Nat.reduceSub, Nat.reduceLeDiff, Nat.reduceBEq, Nat.reduceDiv, Nat.reduceMod, Int.reduceToNat, Int.reduceLT, Int.reduceLE, Int.reduceAdd, Int.reduceSub, Int.reduceMul, Int.reduceEq, Int.reduceNeg, reduceCtorEq, resV, resAll, ARes.ev, LV.flat, ite_true, ite_false, exists_eq_left', exists_eq_left, keyOf, implies_true, fillC, capOf]
  refine condC_dec (fun h => ?_) (fun h => ?_)
  all_goals
    simp (disch := omega) only [↓SXd, SXu, slBounds, ↓sop, ↓aop, ↓reduceIte, LV.cells, AOp.dst, LV.I, LV.B, LV.U, LV.S, LV.nil, Nat.reduceEqDiff, Nat.reduceAdd, Nat.reduceMul, Nat.reduceSub, Nat.reduceLeDiff, Nat.reduceBEq, Nat.reduceDiv, Nat.reduceMod, Int.reduceToNat, Int.reduceLT, Int.reduceLE, Int.reduceAdd, Int.reduceSub, Int.reduceMul, Int.reduceEq, Int.reduceNeg, reduceCtorEq, resV, resAll, ARes.ev, LV.flat, ite_true, ite_false, exists_eq_left', exists_eq_left, keyOf, implies_true, fillC, capOf]
  · rw [show min a b = a by omega]; exact cmp_drop0 rfl
  · rw [show min a b = b by omega]; exact cmp_drop0 rfl

theorem appendK_cellL {M L : Mem} {t : Nat} {acc : List Cell} {x y z : Int} {A : LV → Mem → Prop} (ht : Live (M ++ L) t (.row (triL acc) true 3)) (hl : acc.length ≤ 1000000000)
    (hA : ∀ M', M'.length = M.length + L.length + 2 → Live M' (M.length + L.length + 1) (.row (triL (acc ++ [⟨x, y, z⟩])) true 3) → (∀ u, u ≠ t → u < M.length + L.length → M'[u]? = (M ++ L)[u]?) → A (.ref (M.length + L.length + 1) 0 (acc ++ [(⟨x, y, z⟩ : Cell)]).length) M') :
    appendK 3 24 (.ref t 0 acc.length) (.ref (M.length + L.length) 0 1) (M ++ (L ++ [some (.row [LV.val (.int .i64 x), LV.val (.int .i64 y), LV.val (.int .i64 z)] true 3)])) A := by
  rw [← List.append_assoc, ← List.length_append]
  refine appendK_cell ht hl ?_
  rw [List.length_append]
  exact hA

theorem h_l2Moved {x y z : Int} {p : Cell} {t o : Nat} {cs : List Cell} {M : Mem} (h : Tri M t o cs) (hn : cs.length ≤ 1000000) (hp : Small p) (hc : ∀ c ∈ cs, Small c) :
    CallsTo PG F.spec_l2Moved [.agg [.I x, .I y, .I z, .ref t o cs.length], .agg [.I p.a, .I p.b, .I p.c]] M (.ref M.length 0 (cs.map (shift p)).length) (M ++ [some (.row (triL (cs.map (shift p))) true 3)]) := by
  obtain ⟨⟨_, _⟩, ⟨_, _⟩, ⟨_, _⟩⟩ := hp
  have ht := h.lt
  refine calls_run K.spec_l2Moved rfl ?_
  simp (disch := omega) only [C.spec_l2Moved, ↓SXd, SXu, slBounds, ↓sop, ↓aop, ↓reduceIte, LV.cells, AOp.dst, LV.I, LV.B, LV.U, LV.S, LV.nil, Nat.reduceEqDiff, Nat.reduceAdd, Nat.reduceMul, Nat.reduceSub, Nat.reduceLeDiff, Nat.reduceBEq, Nat.reduceDiv, Nat.reduceMod, Int.reduceToNat, Int.reduceLT, Int.reduceLE, Int.reduceAdd, Int.reduceSub, Int.reduceMul, Int.reduceEq, Int.reduceNeg, reduceCtorEq, resV, resAll, ARes.ev, LV.flat, ite_true, ite_false, exists_eq_left', exists_eq_left, keyOf, implies_true, fillC, capOf]
  refine ev_loop (fun m fr M' => ∃ i u : Nat, i + m = cs.length ∧ Pre M M' ∧ Live M' M.length (.row [.I x, .I y, .I z, .ref t o cs.length] true 0) ∧ Live M' (M.length + 1) (.row [.I p.a, .I p.b, .I p.c] true 0) ∧ Live M' u (.row (triL ((cs.map (shift p)).take i)) true 3) ∧ M.length + 2 ≤ u ∧
    fr 2 = .ptr M.length 0 ∧ fr 3 = .ptr (M.length + 1) 0 ∧ fr 5 = .ref u 0 ((cs.map (shift p)).take i).length ∧ fr 6 = .I i) cs.length
    ⟨0, M.length + 2, by omega, Pre.app _ _, Live.new, Live.newj rfl, Live.newj rfl, by omega, rfl, rfl, rfl, rfl⟩ ?_
  rintro m fr M' ⟨i, u, hi, hpre, b2, b3, bu, hu, f2, f3, f5, f6⟩
  simp (disch := omega) only [f2, f3, f5, f6, b2.cell, ↓SXd, SXu, slBounds, ↓sop, ↓aop, ↓reduceIte, LV.cells, AOp.dst, LV.I, LV.B, LV.U, LV.S, LV.nil, Nat.reduceEqDiff, Nat.reduceAdd, Nat.reduceMul, Nat.reduceSub, Nat.reduceLeDiff, Nat.reduceBEq, Nat.reduceDiv, Nat.reduceMod, Int.reduceToNat, Int.reduceLT, Int.reduceLE, Int.reduceAdd, Int.reduceSub, Int.reduceMul, Int.reduceEq, Int.reduceNeg, reduceCtorEq, resV, resAll, ARes.ev, LV.flat, ite_true, ite_false, exists_eq_left', exists_eq_left, keyOf, implies_true, fillC, capOf]
  refine condC_dec (fun hlt => ?_) (fun hlt => ?_)
  · have hil : i < cs.length := by omega
    have hg := Tri.get (h.pre hpre) hil
    have hcc := hc _ (getD_mem' (d := default) hil)
    have hts : (cs.map (shift p)).take (i + 1) = (cs.map (shift p)).take i ++ [shift p (cs.getD i default)] := by
      rw [List.take_succ, List.getElem?_eq_getElem (by simpa using hil)]; simp [hil]
    have htl := List.length_take_le i (cs.map (shift p))
    have hml : (cs.map (shift p)).length = cs.length := List.length_map ..
    generalize cs.getD i default = c at hg hts hcc
    obtain ⟨⟨_, _⟩, ⟨_, _⟩, ⟨_, _⟩⟩ := hcc
    have hl3 := b3.lt
    have hlu := bu.lt
    simp (disch := omega) only [f2, f3, f5, f6, b2.cell, hg, Cell.row, splice, b3.app.cell, ↓SXd, SXu, slBounds, ↓sop, ↓aop, ↓reduceIte, LV.cells, AOp.dst, LV.I, LV.B, LV.U, LV.S, LV.nil, Nat.reduceEqDiff, Nat.reduceAdd, Nat.reduceMul, Nat.reduceSub, Nat.reduceLeDiff, Nat.reduceBEq, Nat.reduceDiv, Nat.reduceMod, Int.reduceToNat, Int.reduceLT, Int.reduceLE, Int.reduceAdd, Int.reduceSub, Int.reduceMul, Int.reduceEq, Int.reduceNeg, reduceCtorEq, resV, resAll, ARes.ev, LV.flat, ite_true, ite_false, exists_eq_left', exists_eq_left, keyOf, implies_true, fillC, capOf]
    refine appendK_cellL (L := [some (.row [.I c.a, .I c.b, .I c.c] true 0)]) bu.app (by omega) fun N' l1 l2 l3 => ?_
    rw [List.length_singleton] at l1 l2 l3
    rw [show (⟨c.a + p.a, c.b + p.b, c.c + p.c⟩ : Cell) = shift p c from rfl, ← hts] at l2 ⊢
    rw [List.length_singleton]
    simp (disch := omega) only [f2, f3, f5, f6, ↓SXd, SXu, slBounds, ↓sop, ↓aop, ↓reduceIte, LV.cells, AOp.dst, LV.I, LV.B, LV.U, LV.S, LV.nil, Nat.reduceEqDiff, Nat.reduceAdd, Nat.reduceMul, Nat.reduceSub, Nat.reduceLeDiff, Nat.reduceBEq, Nat.reduceDiv, Nat.reduceMod, Int.reduceToNat, Int.reduceLT, Int.reduceLE, Int.reduceAdd, Int.reduceSub, Int.reduceMul, Int.reduceEq, Int.reduceNeg, reduceCtorEq, resV, resAll, ARes.ev, LV.flat, ite_true, ite_false, exists_eq_left', exists_eq_left, keyOf, implies_true, fillC, capOf]
    have hk3 : ∀ v, v ≠ u → v < (M' ++ [some (Blk.row [.I c.a, .I c.b, .I c.c] true 0)]).length → N'[v]? = (M' ++ [some (Blk.row [.I c.a, .I c.b, .I c.c] true 0)])[v]? := by rw [List.length_append, List.length_singleton]; exact l3
    have hk1 : N'.length = (M' ++ [some (Blk.row [.I c.a, .I c.b, .I c.c] true 0)]).length + 2 := by rw [List.length_append, List.length_singleton]; exact l1
    exact ⟨m - 1, by omega, i + 1, M'.length + 1 + 1, by omega, pre_step (hpre.trans (Pre.app _ _)) (by omega) hk1 hk3, live_step b2.app (by omega) hk3, live_step b3.app (by omega) hk3, l2, by omega, f2, f3, rfl, eqI (natI _)⟩
  · simp (disch := omega) only [f2, f3, f5, f6, ↓SXd, SXu, slBounds, ↓sop, ↓aop, ↓reduceIte, LV.cells, AOp.dst, LV.I, LV.B, LV.U, LV.S, LV.nil, Nat.reduceEqDiff, Nat.reduceAdd, Nat.reduceMul, Nat.reduceSub, Nat.reduceLeDiff, Nat.reduceBEq, Nat.reduceDiv, Nat.reduceMod, Int.reduceToNat, Int.reduceLT, Int.reduceLE, Int.reduceAdd, Int.reduceSub, Int.reduceMul, Int.reduceEq, Int.reduceNeg, reduceCtorEq, resV, resAll, ARes.ev, LV.flat, ite_true, ite_false, exists_eq_left', exists_eq_left, keyOf, implies_true, fillC, capOf]
    have : i = cs.length := by omega
    subst this
    rw [show (cs.map (shift p)).take cs.length = cs.map (shift p) from List.take_of_length_le (by simp)] at *
    exact cmp_keepL hpre (by omega) bu (triL_lo _) (by simp [rn, rn0, rn1])

theorem h_l2Cropped {x y z : Int} {t o : Nat} {cs : List Cell} {M : Mem} (h : Tri M t o cs) (hn : cs.length ≤ 1000000) (h0 : 0 < cs.length) (hc : ∀ c ∈ cs, Small c) :
    CallsTo PG F.spec_l2Cropped [.agg [.I x, .I y, .I z, .ref t o cs.length]] M (.agg [.I (cropHp cs).x, .I (cropHp cs).y, .I (cropHp cs).z, .ref M.length 0 (cropHp cs).cs.length]) (M ++ [some (.row (triL (cropHp cs).cs) true 3)]) := by
  have ht := h.lt
  have hg0 := Tri.get h (k := 0) h0
  refine calls_run K.spec_l2Cropped rfl ?_
  rw [Nat.zero_mul, Nat.add_zero] at hg0
  simp (disch := omega) only [C.spec_l2Cropped, h0, (getCells_app ht), hg0, Nat.zero_mul, Nat.add_zero, Cell.row, splice, List.getElem?_append_left, ↓SXd, SXu, slBounds, ↓sop, ↓aop, ↓reduceIte, LV.cells, AOp.dst, LV.I, LV.B, LV.U, LV.S, LV.nil, Nat.reduceEqDiff, Nat.reduceAdd, Nat.reduceMul, Nat.reduceSub, Nat.reduceLeDiff, Nat.reduceBEq, Nat.reduceDiv, Nat.reduceMod, Int.reduceToNat, Int.reduceLT, Int.reduceLE, Int.reduceAdd, Int.reduceSub, Int.reduceMul, Int.reduceEq, Int.reduceNeg, reduceCtorEq, resV, resAll, ARes.ev, LV.flat, ite_true, ite_false, exists_eq_left', exists_eq_left, keyOf, implies_true, fillC, capOf]
  have hsm : ∀ i, Small ((cs.take i).foldl loC (cs.getD 0 default)) ∧ Small ((cs.take i).foldl hiC (cs.getD 0 default)) := fun i => by
    have h1 := hc _ (getD_mem' (d := default) h0)
    exact ⟨fold_small loC_small h1 fun d hd => hc d (List.mem_of_mem_take hd), fold_small hiC_small h1 fun d hd => hc d (List.mem_of_mem_take hd)⟩
  have hstep : ∀ i, i < cs.length → (cs.take (i + 1)).foldl loC (cs.getD 0 default) = loC ((cs.take i).foldl loC (cs.getD 0 default)) (cs.getD i default) ∧ (cs.take (i + 1)).foldl hiC (cs.getD 0 default) = hiC ((cs.take i).foldl hiC (cs.getD 0 default)) (cs.getD i default) := fun i hi => by
    have e : cs.getD i default = cs[i] := by simp [hi]
    rw [e, List.take_succ, List.getElem?_eq_getElem hi, Option.toList_some, List.foldl_append, List.foldl_append]
    exact ⟨rfl, rfl⟩
  refine ev_loop (fun m fr M' => ∃ i : Nat, i + m = cs.length ∧ Pre M M' ∧ Live M' M.length (.row [.I x, .I y, .I z, .ref t o cs.length] true 0) ∧ Live M' (M.length + 1) (.row [.I 0, .I 0, .I 0, .nil] true 0) ∧
    Live M' (M.length + 2) (.row ((cs.take i).foldl loC (cs.getD 0 default)).row true 0) ∧ Live M' (M.length + 3) (.row ((cs.take i).foldl hiC (cs.getD 0 default)).row true 0) ∧
    fr 1 = .ptr M.length 0 ∧ fr 2 = .ptr (M.length + 1) 0 ∧ fr 3 = .ptr (M.length + 2) 0 ∧ fr 4 = .ptr (M.length + 3) 0 ∧ fr 5 = .I i) cs.length
    ⟨0, by omega, Pre.app _ _, Live.new, Live.newj rfl, Live.newj rfl, Live.newj rfl, rfl, rfl, rfl, rfl, rfl⟩ ?_
  rintro m fr M' ⟨i, hi, hpre, b1, b2, b3, b4, f1, f2, f3, f4, f5⟩
  have hlM := b4.lt
  simp (disch := omega) only [f1, f2, f3, f4, f5, b1.cell, ↓SXd, SXu, slBounds, ↓sop, ↓aop, ↓reduceIte, LV.cells, AOp.dst, LV.I, LV.B, LV.U, LV.S, LV.nil, Nat.reduceEqDiff, Nat.reduceAdd, Nat.reduceMul, Nat.reduceSub, Nat.reduceLeDiff, Nat.reduceBEq, Nat.reduceDiv, Nat.reduceMod, Int.reduceToNat, Int.reduceLT, Int.reduceLE, Int.reduceAdd, Int.reduceSub, Int.reduceMul, Int.reduceEq, Int.reduceNeg, reduceCtorEq, resV, resAll, ARes.ev, LV.flat, ite_true, ite_false, exists_eq_left', exists_eq_left, keyOf, implies_true, fillC, capOf]
  refine condC_dec (fun hlt => ?_) (fun hlt => ?_)
  · have hil : i < cs.length := by omega
    simp (disch := omega) only [f1, f2, f3, f4, f5, ↓SXd, SXu, slBounds, ↓sop, ↓aop, ↓reduceIte, LV.cells, AOp.dst, LV.I, LV.B, LV.U, LV.S, LV.nil, Nat.reduceEqDiff, Nat.reduceAdd, Nat.reduceMul, Nat.reduceSub, Nat.reduceLeDiff, Nat.reduceBEq, Nat.reduceDiv, Nat.reduceMod, Int.reduceToNat, Int.reduceLT, Int.reduceLE, Int.reduceAdd, Int.reduceSub, Int.reduceMul, Int.reduceEq, Int.reduceNeg, reduceCtorEq, resV, resAll, ARes.ev, LV.flat, ite_true, ite_false, exists_eq_left', exists_eq_left, keyOf, implies_true, fillC, capOf]
    refine ev_loop (fun m2 fr N => ∃ d : Nat, d + m2 = 3 ∧ Pre M N ∧ Live N M.length (.row [.I x, .I y, .I z, .ref t o cs.length] true 0) ∧ Live N (M.length + 1) (.row [.I 0, .I 0, .I 0, .nil] true 0) ∧
      Live N (M.length + 2) (.row (mixC ((cs.take i).foldl loC (cs.getD 0 default)) ((cs.take (i + 1)).foldl loC (cs.getD 0 default)) d).row true 0) ∧ Live N (M.length + 3) (.row (mixC ((cs.take i).foldl hiC (cs.getD 0 default)) ((cs.take (i + 1)).foldl hiC (cs.getD 0 default)) d).row true 0) ∧
      fr 1 = .ptr M.length 0 ∧ fr 2 = .ptr (M.length + 1) 0 ∧ fr 3 = .ptr (M.length + 2) 0 ∧ fr 4 = .ptr (M.length + 3) 0 ∧ fr 5 = .I i ∧ fr 6 = .I d) 3
      ⟨0, rfl, hpre, b1, b2, b3, b4, f1, f2, f3, f4, f5, rfl⟩ ?_
    clear f1 f2 f3 f4 f5 hpre b1 b2 b3 b4 hlM
    rintro m2 fr N ⟨d, hd, hpre, b1, b2, b3, b4, f1, f2, f3, f4, f5, f6⟩
    have hlM := b4.lt
    obtain ⟨s1, s2⟩ := hstep i hil
    simp (disch := omega) only [f1, f2, f3, f4, f5, f6, ↓SXd, SXu, slBounds, ↓sop, ↓aop, ↓reduceIte, LV.cells, AOp.dst, LV.I, LV.B, LV.U, LV.S, LV.nil, Nat.reduceEqDiff, Nat.reduceAdd, Nat.reduceMul, Nat.reduceSub, Nat.reduceLeDiff, Nat.reduceBEq, Nat.reduceDiv, Nat.reduceMod, Int.reduceToNat, Int.reduceLT, Int.reduceLE, Int.reduceAdd, Int.reduceSub, Int.reduceMul, Int.reduceEq, Int.reduceNeg, reduceCtorEq, resV, resAll, ARes.ev, LV.flat, ite_true, ite_false, exists_eq_left', exists_eq_left, keyOf, implies_true, fillC, capOf]
    refine condC_dec (fun hlt2 => ?_) (fun hlt2 => ?_)
    · have hd3 : d < 3 := by omega
      have hdd : Dir (d : Int) := by unfold Dir; omega
      have hTri := h.pre hpre
      have g1 := Tri.gets_at hTri hil hdd
      rw [Int.toNat_natCast] at g1
      have e3 := b3.cell (o := d)
      have e4 := b4.cell (o := d)
      rw [Cell.row_at hd3, mixC_at hd3] at e3 e4
      simp (disch := omega) only [f1, f2, f3, f4, f5, f6, b1.cell, g1, e3, Nat.mul_one, Nat.zero_add, ↓SXd, SXu, slBounds, ↓sop, ↓aop, ↓reduceIte, LV.cells, AOp.dst, LV.I, LV.B, LV.U, LV.S, LV.nil, Nat.reduceEqDiff, Nat.reduceAdd, Nat.reduceMul, Nat.reduceSub, Nat.reduceLeDiff, Nat.reduceBEq, Nat.reduceDiv, Nat.reduceMod, Int.reduceToNat, Int.reduceLT, Int.reduceLE, Int.reduceAdd, Int.reduceSub, Int.reduceMul, Int.reduceEq, Int.reduceNeg, reduceCtorEq, resV, resAll, ARes.ev, LV.flat, ite_true, ite_false, exists_eq_left', exists_eq_left, keyOf, implies_true, fillC, capOf]
      refine callK_of (h_l1Least) ?_
      simp (disch := omega) only [f1, f2, f3, f4, f5, f6, Nat.mul_one, Nat.zero_add, ↓SXd, SXu, slBounds, ↓sop, ↓aop, ↓reduceIte, LV.cells, AOp.dst, LV.I, LV.B, LV.U, LV.S, LV.nil, Nat.reduceEqDiff, Nat.reduceAdd, Nat.reduceMul, Nat.reduceSub, Nat.reduceLeDiff, Nat.reduceBEq, Nat.reduceDiv, Nat.reduceMod, Int.reduceToNat, Int.reduceLT, Int.reduceLE, Int.reduceAdd, Int.reduceSub, Int.reduceMul, Int.reduceEq, Int.reduceNeg, reduceCtorEq, resV, resAll, ARes.ev, LV.flat, ite_true, ite_false, exists_eq_left', exists_eq_left, keyOf, implies_true, fillC, capOf]
      refine memK_at b3 hd3 fun N1 k1 k2 k3 => ?_
      have c1 := live_step b1 (by omega) k3
      have c2 := live_step b2 (by omega) k3
      have c4 := live_step b4 (by omega) k3
      have hp1 := pre_step hpre (by omega) (j := 0) k1 k3
      have e4 := c4.cell (o := d)
      rw [Cell.row_at hd3, mixC_at hd3] at e4
      have g1 := Tri.gets_at (h.pre hp1) hil hdd
      rw [Int.toNat_natCast] at g1
      simp (disch := omega) only [f1, f2, f3, f4, f5, f6, c1.cell, g1, e4, Nat.mul_one, Nat.zero_add, ↓SXd, SXu, slBounds, ↓sop, ↓aop, ↓reduceIte, LV.cells, AOp.dst, LV.I, LV.B, LV.U, LV.S, LV.nil, Nat.reduceEqDiff, Nat.reduceAdd, Nat.reduceMul, Nat.reduceSub, Nat.reduceLeDiff, Nat.reduceBEq, Nat.reduceDiv, Nat.reduceMod, Int.reduceToNat, Int.reduceLT, Int.reduceLE, Int.reduceAdd, Int.reduceSub, Int.reduceMul, Int.reduceEq, Int.reduceNeg, reduceCtorEq, resV, resAll, ARes.ev, LV.flat, ite_true, ite_false, exists_eq_left', exists_eq_left, keyOf, implies_true, fillC, capOf]
      refine callK_of (h_l1Most) ?_
      simp (disch := omega) only [f1, f2, f3, f4, f5, f6, Nat.mul_one, Nat.zero_add, ↓SXd, SXu, slBounds, ↓sop, ↓aop, ↓reduceIte, LV.cells, AOp.dst, LV.I, LV.B, LV.U, LV.S, LV.nil, Nat.reduceEqDiff, Nat.reduceAdd, Nat.reduceMul, Nat.reduceSub, Nat.reduceLeDiff, Nat.reduceBEq, Nat.reduceDiv, Nat.reduceMod, Int.reduceToNat, Int.reduceLT, Int.reduceLE, Int.reduceAdd, Int.reduceSub, Int.reduceMul, Int.reduceEq, Int.reduceNeg, reduceCtorEq, resV, resAll, ARes.ev, LV.flat, ite_true, ite_false, exists_eq_left', exists_eq_left, keyOf, implies_true, fillC, capOf]
      refine memK_at c4 hd3 fun N2 l1 l2 l3 => ?_
      simp (disch := omega) only [f1, f2, f3, f4, f5, f6, ↓SXd, SXu, slBounds, ↓sop, ↓aop, ↓reduceIte, LV.cells, AOp.dst, LV.I, LV.B, LV.U, LV.S, LV.nil, Nat.reduceEqDiff, Nat.reduceAdd, Nat.reduceMul, Nat.reduceSub, Nat.reduceLeDiff, Nat.reduceBEq, Nat.reduceDiv, Nat.reduceMod, Int.reduceToNat, Int.reduceLT, Int.reduceLE, Int.reduceAdd, Int.reduceSub, Int.reduceMul, Int.reduceEq, Int.reduceNeg, reduceCtorEq, resV, resAll, ARes.ev, LV.flat, ite_true, ite_false, exists_eq_left', exists_eq_left, keyOf, implies_true, fillC, capOf]
      have hk : ∀ f : Cell → Cell → Cell, f = f := fun _ => rfl
      refine ⟨m2 - 1, by omega, d + 1, by omega, pre_step hp1 (by omega) (j := 0) l1 l3, live_step c1 (by omega) l3, live_step c2 (by omega) l3, live_step (t := M.length + 3) (u := M.length + 2) ?_ (by omega) l3, ?_, f1, f2, f3, f4, f5, eqI (natI _)⟩
      · rw [← mixC_set hd3, s1, loC_at hd3, ← s1]; exact k2
      · rw [← mixC_set hd3, s2, hiC_at hd3, ← s2]; exact l2
    · simp (disch := omega) only [f1, f2, f3, f4, f5, f6, ↓SXd, SXu, slBounds, ↓sop, ↓aop, ↓reduceIte, LV.cells, AOp.dst, LV.I, LV.B, LV.U, LV.S, LV.nil, Nat.reduceEqDiff, Nat.reduceAdd, Nat.reduceMul, Nat.reduceSub, Nat.reduceLeDiff, Nat.reduceBEq, Nat.reduceDiv, Nat.reduceMod, Int.reduceToNat, Int.reduceLT, Int.reduceLE, Int.reduceAdd, Int.reduceSub, Int.reduceMul, Int.reduceEq, Int.reduceNeg, reduceCtorEq, resV, resAll, ARes.ev, LV.flat, ite_true, ite_false, exists_eq_left', exists_eq_left, keyOf, implies_true, fillC, capOf]
      have : d = 3 := by omega
      subst this
      exact ⟨m - 1, by omega, i + 1, by omega, hpre, b1, b2, b3, b4, f1, f2, f3, f4, eqI (natI _)⟩
  · have : i = cs.length := by omega
    subst this
    rw [List.take_length] at b3 b4
    have hsm := hsm cs.length
    rw [List.take_length] at hsm
    change Live M' (M.length + 2) (.row (lowOf cs).row true 0) at b3
    change Live M' (M.length + 3) (.row (highOf cs).row true 0) at b4
    change Small (lowOf cs) ∧ Small (highOf cs) at hsm
    have hX : (cropHp cs).x = (highOf cs).a - (lowOf cs).a + 1 := rfl
    have hY : (cropHp cs).y = (highOf cs).b - (lowOf cs).b + 1 := rfl
    have hZ : (cropHp cs).z = (highOf cs).c - (lowOf cs).c + 1 := rfl
    have hC : (cropHp cs).cs = cs.map (shift ⟨0 - (lowOf cs).a, 0 - (lowOf cs).b, 0 - (lowOf cs).c⟩) := rfl
    rw [hX, hY, hZ, hC]
    generalize lowOf cs = lo at *
    generalize highOf cs = hi at *
    obtain ⟨⟨⟨_, _⟩, ⟨_, _⟩, ⟨_, _⟩⟩, ⟨⟨_, _⟩, ⟨_, _⟩, ⟨_, _⟩⟩⟩ := hsm
    simp (disch := omega) only [f1, f2, f3, f4, f5, b3.cell, b4.cell, Cell.row, ↓SXd, SXu, slBounds, ↓sop, ↓aop, ↓reduceIte, LV.cells, AOp.dst, LV.I, LV.B, LV.U, LV.S, LV.nil, Nat.reduceEqDiff, Nat.reduceAdd, Nat.reduceMul, Nat.reduceSub, Nat.reduceLeDiff, Nat.reduceBEq, Nat.reduceDiv, Nat.reduceMod, Int.reduceToNat, Int.reduceLT, Int.reduceLE, Int.reduceAdd, Int.reduceSub, Int.reduceMul, Int.reduceEq, Int.reduceNeg, reduceCtorEq, resV, resAll, ARes.ev, LV.flat, ite_true, ite_false, exists_eq_left', exists_eq_left, keyOf, implies_true, fillC, capOf]
    refine callK_of (h_l2Empty) ?_
    simp (disch := omega) only [f1, f2, f3, f4, f5, splice, b1.app.cells, b3.app.cell, Cell.row, ↓SXd, SXu, slBounds, ↓sop, ↓aop, ↓reduceIte, LV.cells, AOp.dst, LV.I, LV.B, LV.U, LV.S, LV.nil, Nat.reduceEqDiff, Nat.reduceAdd, Nat.reduceMul, Nat.reduceSub, Nat.reduceLeDiff, Nat.reduceBEq, Nat.reduceDiv, Nat.reduceMod, Int.reduceToNat, Int.reduceLT, Int.reduceLE, Int.reduceAdd, Int.reduceSub, Int.reduceMul, Int.reduceEq, Int.reduceNeg, reduceCtorEq, resV, resAll, ARes.ev, LV.flat, ite_true, ite_false, exists_eq_left', exists_eq_left, keyOf, implies_true, fillC, capOf]
    refine callK_of (h_l2Moved (p := ⟨0 - lo.a, 0 - lo.b, 0 - lo.c⟩) (h.pre (hpre.trans (Pre.app _ _))) hn ⟨⟨by simp only; omega, by simp only; omega⟩, ⟨by simp only; omega, by simp only; omega⟩, ⟨by simp only; omega, by simp only; omega⟩⟩ hc) ?_
    simp (disch := omega) only [f1, f2, f3, f4, f5, splice, ↓SXd, SXu, slBounds, ↓sop, ↓aop, ↓reduceIte, LV.cells, AOp.dst, LV.I, LV.B, LV.U, LV.S, LV.nil, Nat.reduceEqDiff, Nat.reduceAdd, Nat.reduceMul, Nat.reduceSub, Nat.reduceLeDiff, Nat.reduceBEq, Nat.reduceDiv, Nat.reduceMod, Int.reduceToNat, Int.reduceLT, Int.reduceLE, Int.reduceAdd, Int.reduceSub, Int.reduceMul, Int.reduceEq, Int.reduceNeg, reduceCtorEq, resV, resAll, ARes.ev, LV.flat, ite_true, ite_false, exists_eq_left', exists_eq_left, keyOf, implies_true, fillC, capOf]
    refine memK_box b2.app (by simp) fun N3 k1 k2 k3 => ?_
    simp (disch := omega) only [f1, f2, f3, f4, f5, k2.cells, ↓SXd, SXu, slBounds, ↓sop, ↓aop, ↓reduceIte, LV.cells, AOp.dst, LV.I, LV.B, LV.U, LV.S, LV.nil, Nat.reduceEqDiff, Nat.reduceAdd, Nat.reduceMul, Nat.reduceSub, Nat.reduceLeDiff, Nat.reduceBEq, Nat.reduceDiv, Nat.reduceMod, Int.reduceToNat, Int.reduceLT, Int.reduceLE, Int.reduceAdd, Int.reduceSub, Int.reduceMul, Int.reduceEq, Int.reduceNeg, reduceCtorEq, resV, resAll, ARes.ev, LV.flat, ite_true, ite_false, exists_eq_left', exists_eq_left, keyOf, implies_true, fillC, capOf]
    have hml := hlM
    refine cmp_keepL (pre_step (hpre.trans (Pre.app _ _)) (by omega) (j := 0) k1 k3) (t := M'.length + 2) (by omega) (live_step (Live.newj (j := 2) rfl) (by omega) k3) (triL_lo _) (by simp [rn, rn0, rn1])
end Go.Ab

/- Contracts: lists of numbers that are the same; shadows of heaps, the reference's side. -/
namespace Go.Ab
open Go
set_option linter.unusedSimpArgs false
set_option linter.unusedVariables false

theorem h_l1Same {l m : List Int} {t o t' o' : Nat} {M : Mem} (hg : Ints M t o l) (hh : Ints M t' o' m) (hn : l.length ≤ 1000000000) (hn' : m.length ≤ 1000000000) :
    CallsTo PG F.spec_l1Same [.ref t o l.length, .ref t' o' m.length] M (.B (decide (l = m))) M := by
  refine calls_run K.spec_l1Same rfl ?_
  simp (disch := omega) only [C.spec_l1Same, ↓SXd, SXu, slBounds, ↓sop, ↓aop, ↓reduceIte, LV.cells, AOp.dst, LV.I, LV.B, LV.U, LV.S, LV.nil, Nat.reduceEqDiff, Nat.reduceAdd, Nat.reduceMul, Nat.reduceSub, Nat.reduceLeDiff, Nat.reduceBEq, Nat.reduceDiv, Nat.reduceMod, Int.reduceToNat, Int.reduceLT, Int.reduceLE, Int.reduceAdd, Int.reduceSub, Int.reduceMul, Int.reduceEq, Int.reduceNeg, reduceCtorEq, resV, resAll, ARes.ev, LV.flat, ite_true, ite_false, exists_eq_left', exists_eq_left, keyOf, implies_true, fillC, capOf]
  by_cases hl : (l.length : Int) = m.length
  · simp (disch := omega) only [hl, ↓SXd, SXu, slBounds, ↓sop, ↓aop, ↓reduceIte, LV.cells, AOp.dst, LV.I, LV.B, LV.U, LV.S, LV.nil, Nat.reduceEqDiff, Nat.reduceAdd, Nat.reduceMul, Nat.reduceSub, Nat.reduceLeDiff, Nat.reduceBEq, Nat.reduceDiv, Nat.reduceMod, Int.reduceToNat, Int.reduceLT, Int.reduceLE, Int.reduceAdd, Int.reduceSub, Int.reduceMul, Int.reduceEq, Int.reduceNeg, reduceCtorEq, resV, resAll, ARes.ev, LV.flat, ite_true, ite_false, exists_eq_left', exists_eq_left, keyOf, implies_true, fillC, capOf]
    have hl' : l.length = m.length := by omega
    refine ev_loop (fun n fr M' => ∃ k : Nat, k + n = l.length ∧ M' = M ∧ (∀ j, j < k → l.getD j 0 = m.getD j 0) ∧ fr 0 = .ref t o l.length ∧ fr 1 = .ref t' o' m.length ∧ fr 5 = .I k) l.length
      ⟨0, by omega, rfl, by omega, rfl, rfl, rfl⟩ ?_
    rintro n fr M' ⟨k, hk, rfl, hj, f0, f1, f5⟩
    simp (disch := omega) only [f0, f1, f5, ↓SXd, SXu, slBounds, ↓sop, ↓aop, ↓reduceIte, LV.cells, AOp.dst, LV.I, LV.B, LV.U, LV.S, LV.nil, Nat.reduceEqDiff, Nat.reduceAdd, Nat.reduceMul, Nat.reduceSub, Nat.reduceLeDiff, Nat.reduceBEq, Nat.reduceDiv, Nat.reduceMod, Int.reduceToNat, Int.reduceLT, Int.reduceLE, Int.reduceAdd, Int.reduceSub, Int.reduceMul, Int.reduceEq, Int.reduceNeg, reduceCtorEq, resV, resAll, ARes.ev, LV.flat, ite_true, ite_false, exists_eq_left', exists_eq_left, keyOf, implies_true, fillC, capOf]
    refine condC_dec (fun h1 => ?_) (fun h1 => ?_)
    · have hk1 : k < l.length := by omega
      have g1 := Ints.get hg hk1
      have g2 := Ints.get hh (show k < m.length by omega)
      simp (disch := omega) only [f0, f1, f5, g1, g2, Nat.mul_one, ↓SXd, SXu, slBounds, ↓sop, ↓aop, ↓reduceIte, LV.cells, AOp.dst, LV.I, LV.B, LV.U, LV.S, LV.nil, Nat.reduceEqDiff, Nat.reduceAdd, Nat.reduceMul, Nat.reduceSub, Nat.reduceLeDiff, Nat.reduceBEq, Nat.reduceDiv, Nat.reduceMod, Int.reduceToNat, Int.reduceLT, Int.reduceLE, Int.reduceAdd, Int.reduceSub, Int.reduceMul, Int.reduceEq, Int.reduceNeg, reduceCtorEq, resV, resAll, ARes.ev, LV.flat, ite_true, ite_false, exists_eq_left', exists_eq_left, keyOf, implies_true, fillC, capOf]
      by_cases he : l.getD k 0 = m.getD k 0
      · simp (disch := omega) only [f0, f1, f5, he, ↓SXd, SXu, slBounds, ↓sop, ↓aop, ↓reduceIte, LV.cells, AOp.dst, LV.I, LV.B, LV.U, LV.S, LV.nil, Nat.reduceEqDiff, Nat.reduceAdd, Nat.reduceMul, Nat.reduceSub, Nat.reduceLeDiff, Nat.reduceBEq, Nat.reduceDiv, Nat.reduceMod, Int.reduceToNat, Int.reduceLT, Int.reduceLE, Int.reduceAdd, Int.reduceSub, Int.reduceMul, Int.reduceEq, Int.reduceNeg, reduceCtorEq, resV, resAll, ARes.ev, LV.flat, ite_true, ite_false, exists_eq_left', exists_eq_left, keyOf, implies_true, fillC, capOf]
        exact ⟨n - 1, by omega, k + 1, by omega, rfl, fun j hj' => by
          rcases Nat.lt_or_ge j k with h2 | h2
          · exact hj j h2
          · rw [show j = k by omega]; exact he, f0, f1, eqI (natI _)⟩
      · simp (disch := omega) only [f0, f1, f5, he, ↓SXd, SXu, slBounds, ↓sop, ↓aop, ↓reduceIte, LV.cells, AOp.dst, LV.I, LV.B, LV.U, LV.S, LV.nil, Nat.reduceEqDiff, Nat.reduceAdd, Nat.reduceMul, Nat.reduceSub, Nat.reduceLeDiff, Nat.reduceBEq, Nat.reduceDiv, Nat.reduceMod, Int.reduceToNat, Int.reduceLT, Int.reduceLE, Int.reduceAdd, Int.reduceSub, Int.reduceMul, Int.reduceEq, Int.reduceNeg, reduceCtorEq, resV, resAll, ARes.ev, LV.flat, ite_true, ite_false, exists_eq_left', exists_eq_left, keyOf, implies_true, fillC, capOf]
        rw [decide_eq_false (fun e => he (by rw [e]))]
        exact cmp_drop0 rfl
    · simp (disch := omega) only [f0, f1, f5, ↓SXd, SXu, slBounds, ↓sop, ↓aop, ↓reduceIte, LV.cells, AOp.dst, LV.I, LV.B, LV.U, LV.S, LV.nil, Nat.reduceEqDiff, Nat.reduceAdd, Nat.reduceMul, Nat.reduceSub, Nat.reduceLeDiff, Nat.reduceBEq, Nat.reduceDiv, Nat.reduceMod, Int.reduceToNat, Int.reduceLT, Int.reduceLE, Int.reduceAdd, Int.reduceSub, Int.reduceMul, Int.reduceEq, Int.reduceNeg, reduceCtorEq, resV, resAll, ARes.ev, LV.flat, ite_true, ite_false, exists_eq_left', exists_eq_left, keyOf, implies_true, fillC, capOf]
      rw [decide_eq_true (by
        apply List.ext_getElem hl'
        intro i h2 h3
        have := hj i (by omega)
        simpa [h2, h3] using this)]
      exact cmp_drop0 rfl
  · simp (disch := omega) only [hl, ↓SXd, SXu, slBounds, ↓sop, ↓aop, ↓reduceIte, LV.cells, AOp.dst, LV.I, LV.B, LV.U, LV.S, LV.nil, Nat.reduceEqDiff, Nat.reduceAdd, Nat.reduceMul, Nat.reduceSub, Nat.reduceLeDiff, Nat.reduceBEq, Nat.reduceDiv, Nat.reduceMod, Int.reduceToNat, Int.reduceLT, Int.reduceLE, Int.reduceAdd, Int.reduceSub, Int.reduceMul, Int.reduceEq, Int.reduceNeg, reduceCtorEq, resV, resAll, ARes.ev, LV.flat, ite_true, ite_false, exists_eq_left', exists_eq_left, keyOf, implies_true, fillC, capOf]
    rw [decide_eq_false (fun e => hl (by rw [e]))]
    exact cmp_drop0 rfl
theorem g_equalI {l m : List Int} {t o t' o' : Nat} {M : Mem} (hg : Ints M t o l) (hh : Ints M t' o' m) (hn : l.length ≤ 1000000000) (hn' : m.length ≤ 1000000000) :
    CallsTo PG F.slices_Equal_Sint_int [.ref t o l.length, .ref t' o' m.length] M (.B (decide (l = m))) M := by
  refine calls_run K.slices_Equal_Sint_int rfl ?_
  simp (disch := omega) only [C.slices_Equal_Sint_int, ↓SXd, SXu, slBounds, ↓sop, ↓aop, ↓reduceIte, LV.cells, AOp.dst, LV.I, LV.B, LV.U, LV.S, LV.nil, Nat.reduceEqDiff, Nat.reduceAdd, Nat.reduceMul, Nat.reduceSub, Nat.reduceLeDiff, Nat.reduceBEq, Nat.reduceDiv, Nat.reduceMod, Int.reduceToNat, Int.reduceLT, Int.reduceLE, Int.reduceAdd, Int.reduceSub, Int.reduceMul, Int.reduceEq, Int.reduceNeg, reduceCtorEq, resV, resAll, ARes.ev, LV.flat, ite_true, ite_false, exists_eq_left', exists_eq_left, keyOf, implies_true, fillC, capOf]
  by_cases hl : (l.length : Int) = m.length
  · simp (disch := omega) only [hl, ↓SXd, SXu, slBounds, ↓sop, ↓aop, ↓reduceIte, LV.cells, AOp.dst, LV.I, LV.B, LV.U, LV.S, LV.nil, Nat.reduceEqDiff, Nat.reduceAdd, Nat.reduceMul, Nat.reduceSub, Nat.reduceLeDiff, Nat.reduceBEq, Nat.reduceDiv, Nat.reduceMod, Int.reduceToNat, Int.reduceLT, Int.reduceLE, Int.reduceAdd, Int.reduceSub, Int.reduceMul, Int.reduceEq, Int.reduceNeg, reduceCtorEq, resV, resAll, ARes.ev, LV.flat, ite_true, ite_false, exists_eq_left', exists_eq_left, keyOf, implies_true, fillC, capOf]
    have hl' : l.length = m.length := by omega
    refine ev_loop (fun n fr M' => ∃ k : Nat, k + n = l.length ∧ M' = M ∧ (∀ j, j < k → l.getD j 0 = m.getD j 0) ∧ fr 0 = .ref t o l.length ∧ fr 1 = .ref t' o' m.length ∧ fr 12 = .I l.length ∧ fr 13 = .I k) l.length
      ⟨0, by omega, rfl, by omega, rfl, rfl, by rw [hl']; rfl, rfl⟩ ?_
    rintro n fr M' ⟨k, hk, rfl, hj, f0, f1, f12, f13⟩
    simp (disch := omega) only [f0, f1, f12, f13, ↓SXd, SXu, slBounds, ↓sop, ↓aop, ↓reduceIte, LV.cells, AOp.dst, LV.I, LV.B, LV.U, LV.S, LV.nil, Nat.reduceEqDiff, Nat.reduceAdd, Nat.reduceMul, Nat.reduceSub, Nat.reduceLeDiff, Nat.reduceBEq, Nat.reduceDiv, Nat.reduceMod, Int.reduceToNat, Int.reduceLT, Int.reduceLE, Int.reduceAdd, Int.reduceSub, Int.reduceMul, Int.reduceEq, Int.reduceNeg, reduceCtorEq, resV, resAll, ARes.ev, LV.flat, ite_true, ite_false, exists_eq_left', exists_eq_left, keyOf, implies_true, fillC, capOf]
    refine condC_dec (fun h1 => ?_) (fun h1 => ?_)
    · have hk1 : k < l.length := by omega
      have g1 := Ints.get hg hk1
      have g2 := Ints.get hh (show k < m.length by omega)
      simp (disch := omega) only [f0, f1, f12, f13, g1, g2, Nat.mul_one, ↓SXd, SXu, slBounds, ↓sop, ↓aop, ↓reduceIte, LV.cells, AOp.dst, LV.I, LV.B, LV.U, LV.S, LV.nil, Nat.reduceEqDiff, Nat.reduceAdd, Nat.reduceMul, Nat.reduceSub, Nat.reduceLeDiff, Nat.reduceBEq, Nat.reduceDiv, Nat.reduceMod, Int.reduceToNat, Int.reduceLT, Int.reduceLE, Int.reduceAdd, Int.reduceSub, Int.reduceMul, Int.reduceEq, Int.reduceNeg, reduceCtorEq, resV, resAll, ARes.ev, LV.flat, ite_true, ite_false, exists_eq_left', exists_eq_left, keyOf, implies_true, fillC, capOf]
      by_cases he : l.getD k 0 = m.getD k 0
      · simp (disch := omega) only [f0, f1, f12, f13, he, ↓SXd, SXu, slBounds, ↓sop, ↓aop, ↓reduceIte, LV.cells, AOp.dst, LV.I, LV.B, LV.U, LV.S, LV.nil, Nat.reduceEqDiff, Nat.reduceAdd, Nat.reduceMul, Nat.reduceSub, Nat.reduceLeDiff, Nat.reduceBEq, Nat.reduceDiv, Nat.reduceMod, Int.reduceToNat, Int.reduceLT, Int.reduceLE, Int.reduceAdd, Int.reduceSub, Int.reduceMul, Int.reduceEq, Int.reduceNeg, reduceCtorEq, resV, resAll, ARes.ev, LV.flat, ite_true, ite_false, exists_eq_left', exists_eq_left, keyOf, implies_true, fillC, capOf]
        exact ⟨n - 1, by omega, k + 1, by omega, rfl, fun j hj' => by
          rcases Nat.lt_or_ge j k with h2 | h2
          · exact hj j h2
          · rw [show j = k by omega]; exact he, f0, f1, f12, eqI (natI _)⟩
      · simp (disch := omega) only [f0, f1, f12, f13, he, ↓SXd, SXu, slBounds, ↓sop, ↓aop, ↓reduceIte, LV.cells, AOp.dst, LV.I, LV.B, LV.U, LV.S, LV.nil, Nat.reduceEqDiff, Nat.reduceAdd, Nat.reduceMul, Nat.reduceSub, Nat.reduceLeDiff, Nat.reduceBEq, Nat.reduceDiv, Nat.reduceMod, Int.reduceToNat, Int.reduceLT, Int.reduceLE, Int.reduceAdd, Int.reduceSub, Int.reduceMul, Int.reduceEq, Int.reduceNeg, reduceCtorEq, resV, resAll, ARes.ev, LV.flat, ite_true, ite_false, exists_eq_left', exists_eq_left, keyOf, implies_true, fillC, capOf]
        rw [decide_eq_false (fun e => he (by rw [e]))]
        exact cmp_drop0 rfl
    · simp (disch := omega) only [f0, f1, f12, f13, ↓SXd, SXu, slBounds, ↓sop, ↓aop, ↓reduceIte, LV.cells, AOp.dst, LV.I, LV.B, LV.U, LV.S, LV.nil, Nat.reduceEqDiff, Nat.reduceAdd, Nat.reduceMul, Nat.reduceSub, Nat.reduceLeDiff, Nat.reduceBEq, Nat.reduceDiv, Nat.reduceMod, Int.reduceToNat, Int.reduceLT, Int.reduceLE, Int.reduceAdd, Int.reduceSub, Int.reduceMul, Int.reduceEq, Int.reduceNeg, reduceCtorEq, resV, resAll, ARes.ev, LV.flat, ite_true, ite_false, exists_eq_left', exists_eq_left, keyOf, implies_true, fillC, capOf]
      rw [decide_eq_true (by
        apply List.ext_getElem hl'
        intro i h2 h3
        have := hj i (by omega)
        simpa [h2, h3] using this)]
      exact cmp_drop0 rfl
  · simp (disch := omega) only [hl, ↓SXd, SXu, slBounds, ↓sop, ↓aop, ↓reduceIte, LV.cells, AOp.dst, LV.I, LV.B, LV.U, LV.S, LV.nil, Nat.reduceEqDiff, Nat.reduceAdd, Nat.reduceMul, Nat.reduceSub, Nat.reduceLeDiff, Nat.reduceBEq, Nat.reduceDiv, Nat.reduceMod, Int.reduceToNat, Int.reduceLT, Int.reduceLE, Int.reduceAdd, Int.reduceSub, Int.reduceMul, Int.reduceEq, Int.reduceNeg, reduceCtorEq, resV, resAll, ARes.ev, LV.flat, ite_true, ite_false, exists_eq_left', exists_eq_left, keyOf, implies_true, fillC, capOf]
    rw [decide_eq_false (fun e => hl (by rw [e]))]
    exact cmp_drop0 rfl
end Go.Ab

/- Contracts: shadows of heaps, the reference's side. -/
namespace Go.Ab
open Go
set_option linter.unusedSimpArgs false
set_option linter.unusedVariables false

def onesL (v : List Int) : List Int := v.map fun n => min n 1
theorem onesL_len (v : List Int) : (onesL v).length = v.length := List.length_map ..
def shdOf (x y z : Int) (d : Nat) (cs : List Cell) : List Int := onesL (viewL x y z d cs)
theorem shdOf_len {x y z : Int} {d : Nat} {cs : List Cell} : (shdOf x y z d cs).length = (linesOf x y z d).toNat := by unfold shdOf; rw [onesL_len, viewL_len]
theorem h_l2Ones {v : List Int} {t o : Nat} {M : Mem} (h : Ints M t o v) (hn : v.length ≤ 1000000) : CallsTo PG F.spec_l2Ones [.ref t o v.length] M (.ref M.length 0 (onesL v).length) (M ++ [some (.row (intL (onesL v)) true 1)]) := by
  have ht := h.lt
  have hol := onesL_len v
  refine calls_run K.spec_l2Ones rfl ?_
  simp (disch := omega) only [C.spec_l2Ones, ↓SXd, SXu, slBounds, ↓sop, ↓aop, ↓reduceIte, LV.cells, AOp.dst, LV.I, LV.B, LV.U, LV.S, LV.nil, Nat.reduceEqDiff, Nat.reduceAdd, Nat.reduceMul, Nat.reduceSub, Nat.reduceLeDiff, Nat.reduceBEq, Nat.reduceDiv, Nat.reduceMod, Int.reduceToNat, Int.reduceLT, Int.reduceLE, Int.reduceAdd, Int.reduceSub, Int.reduceMul, Int.reduceEq, Int.reduceNeg, reduceCtorEq, resV, resAll, ARes.ev, LV.flat, ite_true, ite_false, exists_eq_left', exists_eq_left, keyOf, implies_true, fillC, capOf]
  refine ev_loop (fun m fr M' => ∃ i u : Nat, i + m = v.length ∧ Pre M M' ∧ M.length ≤ u ∧ Live M' u (.row (intL ((onesL v).take i)) true 1) ∧ fr 0 = .ref t o v.length ∧ fr 3 = .ref u 0 ((onesL v).take i).length ∧ fr 4 = .I i) v.length
    ⟨0, M.length, by omega, Pre.app _ _, by omega, Live.new, rfl, rfl, rfl⟩ ?_
  rintro m fr M' ⟨i, u, hi, hpre, hu, bu, f0, f3, f4⟩
  simp (disch := omega) only [f0, f3, f4, ↓SXd, SXu, slBounds, ↓sop, ↓aop, ↓reduceIte, LV.cells, AOp.dst, LV.I, LV.B, LV.U, LV.S, LV.nil, Nat.reduceEqDiff, Nat.reduceAdd, Nat.reduceMul, Nat.reduceSub, Nat.reduceLeDiff, Nat.reduceBEq, Nat.reduceDiv, Nat.reduceMod, Int.reduceToNat, Int.reduceLT, Int.reduceLE, Int.reduceAdd, Int.reduceSub, Int.reduceMul, Int.reduceEq, Int.reduceNeg, reduceCtorEq, resV, resAll, ARes.ev, LV.flat, ite_true, ite_false, exists_eq_left', exists_eq_left, keyOf, implies_true, fillC, capOf]
  refine condC_dec (fun hlt => ?_) (fun hlt => ?_)
  · have hil : i < v.length := by omega
    have hg := Ints.get (h.pre hpre) hil
    have htl := List.length_take_le i (onesL v)
    have hts : (onesL v).take (i + 1) = (onesL v).take i ++ [min (v.getD i 0) 1] := by
      rw [List.take_succ, List.getElem?_eq_getElem (by omega)]; simp [onesL, hil]
    simp (disch := omega) only [f0, f3, f4, hg, Nat.mul_one, ↓SXd, SXu, slBounds, ↓sop, ↓aop, ↓reduceIte, LV.cells, AOp.dst, LV.I, LV.B, LV.U, LV.S, LV.nil, Nat.reduceEqDiff, Nat.reduceAdd, Nat.reduceMul, Nat.reduceSub, Nat.reduceLeDiff, Nat.reduceBEq, Nat.reduceDiv, Nat.reduceMod, Int.reduceToNat, Int.reduceLT, Int.reduceLE, Int.reduceAdd, Int.reduceSub, Int.reduceMul, Int.reduceEq, Int.reduceNeg, reduceCtorEq, resV, resAll, ARes.ev, LV.flat, ite_true, ite_false, exists_eq_left', exists_eq_left, keyOf, implies_true, fillC, capOf]
    refine callK_of (h_l1Least) ?_
    simp (disch := omega) only [f0, f3, f4, ↓SXd, SXu, slBounds, ↓sop, ↓aop, ↓reduceIte, LV.cells, AOp.dst, LV.I, LV.B, LV.U, LV.S, LV.nil, Nat.reduceEqDiff, Nat.reduceAdd, Nat.reduceMul, Nat.reduceSub, Nat.reduceLeDiff, Nat.reduceBEq, Nat.reduceDiv, Nat.reduceMod, Int.reduceToNat, Int.reduceLT, Int.reduceLE, Int.reduceAdd, Int.reduceSub, Int.reduceMul, Int.reduceEq, Int.reduceNeg, reduceCtorEq, resV, resAll, ARes.ev, LV.flat, ite_true, ite_false, exists_eq_left', exists_eq_left, keyOf, implies_true, fillC, capOf]
    refine appendK_int bu (by omega) fun N k1 k2 k3 => ?_
    simp (disch := omega) only [f0, f3, f4, ↓SXd, SXu, slBounds, ↓sop, ↓aop, ↓reduceIte, LV.cells, AOp.dst, LV.I, LV.B, LV.U, LV.S, LV.nil, Nat.reduceEqDiff, Nat.reduceAdd, Nat.reduceMul, Nat.reduceSub, Nat.reduceLeDiff, Nat.reduceBEq, Nat.reduceDiv, Nat.reduceMod, Int.reduceToNat, Int.reduceLT, Int.reduceLE, Int.reduceAdd, Int.reduceSub, Int.reduceMul, Int.reduceEq, Int.reduceNeg, reduceCtorEq, resV, resAll, ARes.ev, LV.flat, ite_true, ite_false, exists_eq_left', exists_eq_left, keyOf, implies_true, fillC, capOf]
    rw [← hts] at k2 ⊢
    exact ⟨m - 1, by omega, i + 1, M'.length + 1, by omega, pre_step hpre (by omega) k1 k3, by have := hpre.1; omega, k2, f0, rfl, eqI (natI _)⟩
  · simp (disch := omega) only [f0, f3, f4, ↓SXd, SXu, slBounds, ↓sop, ↓aop, ↓reduceIte, LV.cells, AOp.dst, LV.I, LV.B, LV.U, LV.S, LV.nil, Nat.reduceEqDiff, Nat.reduceAdd, Nat.reduceMul, Nat.reduceSub, Nat.reduceLeDiff, Nat.reduceBEq, Nat.reduceDiv, Nat.reduceMod, Int.reduceToNat, Int.reduceLT, Int.reduceLE, Int.reduceAdd, Int.reduceSub, Int.reduceMul, Int.reduceEq, Int.reduceNeg, reduceCtorEq, resV, resAll, ARes.ev, LV.flat, ite_true, ite_false, exists_eq_left', exists_eq_left, keyOf, implies_true, fillC, capOf]
    have : i = v.length := by omega
    subst this
    rw [List.take_of_length_le (by omega)] at bu f3
    exact cmp_keepL hpre hu bu (intL_lo _) (by simp [rn, rn0, rn1, List.take_of_length_le (Nat.le_of_eq hol)])
end Go.Ab

/- The abstract code of some functions (written by a program of mine from the translation, by way of prepF). -/
namespace Go.Ab.C
open Go.Ab
def spec_l3Allowed : AFn :=
  ⟨1, 86, [.cellN 2 4],
    .seq (.ops [(none, .box 1 (.t 0)),
       (none, .alloc 2 [(.I 0), (.I 0), (.I 0), .nil])])
    (.seq (.ops [(none, .fieldAddr 9 (.t 1) 0),
        (none, .load1 10 (.t 9)),
        (none, .fieldAddr 11 (.t 1) 1),
        (none, .load1 12 (.t 11)),
        (none, .fieldAddr 13 (.t 1) 2),
        (none, .load1 14 (.t 13)),
        (none, .call (some 15) F.spec_l2Empty [(.t 10), (.t 12), (.t 14)]),
        (none, .alloc 3 [(.I 0), (.I 0), (.I 0), .nil]),
        (none, .store 4 (.t 3) (.t 15))])
     (.seq (.ops [(none, .loadN 16 4 (.t 3)),
         (none, .call (some 17) F.spec_l2All [(.t 16)]),
         (none, .mv 4 (.t 17))])
      (.seq (.seq (.ops [(none, .mv 5 (.c (.I 0)))])
        (.block 0 (.loop (.seq (.seq (.ops [(none, .mv 18 (.t 5)),
               (none, .mv 19 (.t 4)),
               (none, .len 20 (.t 19)),
               (none, .bin 21 .lss (.t 18) (.t 20))])
            (.cond (.t 21) (.skip)
             (.exit 0)))
           (.seq (.block 1 (.seq (.draw [⟨(none, .mv 24 (.t 4)), [], []⟩,
                 ⟨(none, .mv 25 (.t 5)), [], []⟩,
                 ⟨(none, .idxS 26 3 (.t 24) (.t 25)), [], []⟩,
                 ⟨(none, .idxA 27 3 1 (.t 26) (.c (.I 0))), [], []⟩,
                 ⟨(none, .load1 28 (.t 27)), [], []⟩,
                 ⟨(none, .mv 29 (.t 4)), [], []⟩,
                 ⟨(none, .mv 30 (.t 5)), [], []⟩,
                 ⟨(none, .idxS 31 3 (.t 29) (.t 30)), [], []⟩,
                 ⟨(none, .idxA 32 3 1 (.t 31) (.c (.I 1))), [], []⟩,
                 ⟨(none, .load1 33 (.t 32)), [], []⟩,
                 ⟨(none, .mv 34 (.t 4)), [], []⟩,
                 ⟨(none, .mv 35 (.t 5)), [], []⟩,
                 ⟨(none, .idxS 36 3 (.t 34) (.t 35)), [], []⟩,
                 ⟨(none, .idxA 37 3 1 (.t 36) (.c (.I 2))), [], []⟩,
                 ⟨(none, .load1 38 (.t 37)), [], []⟩,
                 ⟨(none, .mv 6 (.t 28)), [], []⟩,
                 ⟨(none, .mv 7 (.t 33)), [], []⟩,
                 ⟨(none, .mv 8 (.t 38)), [], []⟩])
              (.seq (.ops [(none, .fieldAddr 39 (.t 1) 3),
                  (none, .load1 40 (.t 39)),
                  (none, .mv 41 (.t 6)),
                  (none, .fieldAddr 42 (.t 1) 1),
                  (none, .load1 43 (.t 42)),
                  (none, .bin 44 .mul (.t 41) (.t 43)),
                  (none, .mv 45 (.t 7)),
                  (none, .bin 46 .add (.t 44) (.t 45)),
                  (none, .idxS 47 1 (.t 40) (.t 46)),
                  (none, .load1 48 (.t 47)),
                  (none, .bin 49 .eql (.t 48) (.c (.I 1))),
                  (none, .mv 50 (.t 49)),
                  (some (50, true), .fieldAddr 51 (.t 1) 4),
                  (some (50, true), .load1 52 (.t 51)),
                  (some (50, true), .mv 53 (.t 6)),
                  (some (50, true), .fieldAddr 54 (.t 1) 2),
                  (some (50, true), .load1 55 (.t 54)),
                  (some (50, true), .bin 56 .mul (.t 53) (.t 55)),
                  (some (50, true), .mv 57 (.t 8)),
                  (some (50, true), .bin 58 .add (.t 56) (.t 57)),
                  (some (50, true), .idxS 59 1 (.t 52) (.t 58)),
                  (some (50, true), .load1 60 (.t 59)),
                  (some (50, true), .bin 61 .eql (.t 60) (.c (.I 1))),
                  (none, .pick 62 (.t 50) (.t 61) (.c (.B false))),
                  (none, .mv 63 (.t 62)),
                  (some (63, true), .fieldAddr 64 (.t 1) 5),
                  (some (63, true), .load1 65 (.t 64)),
                  (some (63, true), .mv 66 (.t 7)),
                  (some (63, true), .fieldAddr 67 (.t 1) 2),
                  (some (63, true), .load1 68 (.t 67)),
                  (some (63, true), .bin 69 .mul (.t 66) (.t 68)),
                  (some (63, true), .mv 70 (.t 8)),
                  (some (63, true), .bin 71 .add (.t 69) (.t 70)),
                  (some (63, true), .idxS 72 1 (.t 65) (.t 71)),
                  (some (63, true), .load1 73 (.t 72)),
                  (some (63, true), .bin 74 .eql (.t 73) (.c (.I 1))),
                  (none, .pick 75 (.t 63) (.t 74) (.c (.B false)))])
               (.cond (.t 75) (.draw [⟨(none, .fieldAddr 76 (.t 3) 3), [], []⟩,
                   ⟨(none, .load1 77 (.t 76)), [], []⟩,
                   ⟨(none, .mv 78 (.t 4)), [], []⟩,
                   ⟨(none, .mv 79 (.t 5)), [], []⟩,
                   ⟨(none, .idxS 80 3 (.t 78) (.t 79)), [], []⟩,
                   ⟨(none, .loadN 81 3 (.t 80)), [], []⟩,
                   ⟨(none, .buildSl 82 1 3 [(.I 0), (.I 0), (.I 0)] [(0, 3, (.t 81))]), [], []⟩,
                   ⟨(none, .append 83 3 24 (.t 77) (.t 82)), [], []⟩,
                   ⟨(none, .fieldAddr 84 (.t 3) 3), [], []⟩,
                   ⟨(none, .store 1 (.t 84) (.t 83)), [], []⟩])
                (.skip)))))
            (.ops [(none, .mv 22 (.t 5)),
               (none, .bin 23 .add (.t 22) (.c (.I 1))),
               (none, .mv 5 (.t 23))]))))))
       (.seq (.ops [(none, .loadN 85 4 (.t 3)),
           (none, .store 4 (.t 2) (.t 85))])
        (.ret)))))⟩
end Go.Ab.C

/- That the program has this code. -/
namespace Go.Ab.K
open Go Go.Ab
theorem spec_l3Allowed : prepF Go.Proofs.Try.prog F.spec_l3Allowed = some C.spec_l3Allowed := by kernel_rfl
end Go.Ab.K

/- Contracts: allowed cells, the reference's side. -/
namespace Go.Ab
open Go
set_option linter.unusedSimpArgs false
set_option linter.unusedVariables false
set_option maxRecDepth 20000

theorem allowed_ones {x y z : Int} {tp fr sd : List Int} {c : Cell} (hok : ShdOK x y z tp fr sd) (hc : c.inBox x y z) : allowedB y z tp fr sd c = (decide (tp.getD (c.a * y + c.b).toNat 0 = 1) && (decide (fr.getD (c.a * z + c.c).toNat 0 = 1) && decide (sd.getD (c.b * z + c.c).toNat 0 = 1))) := by
  have key : ∀ d, d < 3 → ((shdList d tp fr sd).getD (lineOf y z c d).toNat 0 ≠ 0 ↔ (shdList d tp fr sd).getD (lineOf y z c d).toNat 0 = 1) := fun d hd => by
    obtain ⟨h1, h2⟩ := hok.list hd
    obtain ⟨k1, k2⟩ := lineOf_in hok.1 hc hd
    have hm := h1 _ (getD_mem' (d := (0 : Int)) (show (lineOf y z c d).toNat < (shdList d tp fr sd).length by omega))
    omega
  rw [Bool.eq_iff_iff]
  simp only [Bool.and_eq_true, decide_eq_true_eq]
  unfold allowedB litK
  rw [decide_eq_true_iff]
  constructor
  · intro h
    exact ⟨(key 2 (by omega)).1 (h 2 (by omega)), (key 1 (by omega)).1 (h 1 (by omega)), (key 0 (by omega)).1 (h 0 (by omega))⟩
  · rintro ⟨a, b, e⟩ j hj
    rcases (show j = 0 ∨ j = 1 ∨ j = 2 by omega) with rfl | rfl | rfl
    · exact (key 0 (by omega)).2 e
    · exact (key 1 (by omega)).2 b
    · exact (key 2 (by omega)).2 a

theorem memK_one {M : Mem} {t j e : Nat} {old : List LV} {v : LV} {A : Mem → Prop} (ht : Live M t (.row old true e)) (hj : j < old.length)
    (hA : ∀ M', M'.length = M.length → Live M' t (.row (old.set j v) true e) → (∀ u, u ≠ t → u < M.length → M'[u]? = M[u]?) → A M') : memK (setCells M t j [v]) A := by
  rw [ht.setC, if_pos (by simp; omega), splice_1 hj]
  exact hA _ (by simp) ht.set_eq fun u hu _ => List.getElem?_set_ne (fun e => hu e.symm)
theorem h_l3Allowed {x y z : Int} {t o t' o' t2 o2 : Nat} {tp fr sd : List Int} {M : Mem} (h1 : Ints M t o tp) (h2 : Ints M t' o' fr) (h3 : Ints M t2 o2 sd) (hok : ShdOK x y z tp fr sd) :
    CallsTo PG F.spec_l3Allowed [.agg [.I x, .I y, .I z, .ref t o tp.length, .ref t' o' fr.length, .ref t2 o2 sd.length]] M (.agg [.I x, .I y, .I z, .ref M.length 0 (pick x y z (allowedB y z tp fr sd)).length])
      (M ++ [some (.row (triL (pick x y z (allowedB y z tp fr sd))) true 3)]) := by
  have hS := hok.1
  have hv := vol_cast hS
  have hp := prod_le hS
  have ht := h1.lt
  have ht' := h2.lt
  have ht2 := h3.lt
  have hcl : (cellsOf x y z).length = vol x y z := by simp [cellsOf]
  refine calls_run K.spec_l3Allowed rfl ?_
  simp (disch := omega) only [C.spec_l3Allowed, ↓SXd, SXu, slBounds, ↓sop, ↓aop, ↓reduceIte, LV.cells, AOp.dst, LV.I, LV.B, LV.U, LV.S, LV.nil, Nat.reduceEqDiff, Nat.reduceAdd, Nat.reduceMul, Nat.reduceSub, Nat.reduceLeDiff, Nat.reduceBEq, Nat.reduceDiv, Nat.reduceMod, Int.reduceToNat, Int.reduceLT, Int.reduceLE, Int.reduceAdd, Int.reduceSub, Int.reduceMul, Int.reduceEq, Int.reduceNeg, reduceCtorEq, resV, resAll, ARes.ev, LV.flat, ite_true, ite_false, exists_eq_left', exists_eq_left, keyOf, implies_true, fillC, capOf]
  refine callK_of (h_l2Empty) ?_
  simp (disch := omega) only [splice, ↓SXd, SXu, slBounds, ↓sop, ↓aop, ↓reduceIte, LV.cells, AOp.dst, LV.I, LV.B, LV.U, LV.S, LV.nil, Nat.reduceEqDiff, Nat.reduceAdd, Nat.reduceMul, Nat.reduceSub, Nat.reduceLeDiff, Nat.reduceBEq, Nat.reduceDiv, Nat.reduceMod, Int.reduceToNat, Int.reduceLT, Int.reduceLE, Int.reduceAdd, Int.reduceSub, Int.reduceMul, Int.reduceEq, Int.reduceNeg, reduceCtorEq, resV, resAll, ARes.ev, LV.flat, ite_true, ite_false, exists_eq_left', exists_eq_left, keyOf, implies_true, fillC, capOf]
  refine callK_of (h_l2All hS) ?_
  simp (disch := omega) only [↓SXd, SXu, slBounds, ↓sop, ↓aop, ↓reduceIte, LV.cells, AOp.dst, LV.I, LV.B, LV.U, LV.S, LV.nil, Nat.reduceEqDiff, Nat.reduceAdd, Nat.reduceMul, Nat.reduceSub, Nat.reduceLeDiff, Nat.reduceBEq, Nat.reduceDiv, Nat.reduceMod, Int.reduceToNat, Int.reduceLT, Int.reduceLE, Int.reduceAdd, Int.reduceSub, Int.reduceMul, Int.reduceEq, Int.reduceNeg, reduceCtorEq, resV, resAll, ARes.ev, LV.flat, ite_true, ite_false, exists_eq_left', exists_eq_left, keyOf, implies_true, fillC, capOf]
  refine ev_loop (fun m fr1 M' => ∃ i u : Nat, i + m = (cellsOf x y z).length ∧ Pre M M' ∧ Live M' M.length (.row [.I x, .I y, .I z, .ref t o tp.length, .ref t' o' fr.length, .ref t2 o2 sd.length] true 0) ∧ Live M' (M.length + 1) (.row [.I 0, .I 0, .I 0, .nil] true 0) ∧
    Live M' (M.length + 3) (.row [.I x, .I y, .I z, .ref u 0 (((cellsOf x y z).take i).filter (allowedB y z tp fr sd)).length] true 0) ∧ Live M' (M.length + 4) (.row (triL (cellsOf x y z)) true 3) ∧ Live M' u (.row (triL (((cellsOf x y z).take i).filter (allowedB y z tp fr sd))) true 3) ∧ (u = M.length + 2 ∨ M.length + 4 < u) ∧
    fr1 1 = .ptr M.length 0 ∧ fr1 2 = .ptr (M.length + 1) 0 ∧ fr1 3 = .ptr (M.length + 3) 0 ∧ fr1 4 = .ref (M.length + 4) 0 (cellsOf x y z).length ∧ fr1 5 = .I i) (cellsOf x y z).length
    ⟨0, M.length + 2, by omega, Pre.app _ _, Live.new, Live.newj rfl, Live.newj rfl, Live.newj rfl, Live.newj rfl, .inl rfl, rfl, rfl, rfl, rfl, rfl⟩ ?_
  rintro m fr1 M' ⟨i, u, hi, hpre, b1, b2, b3, b4, bu, hu, f1, f2, f3, f4, f5⟩
  simp (disch := omega) only [f1, f2, f3, f4, f5, ↓SXd, SXu, slBounds, ↓sop, ↓aop, ↓reduceIte, LV.cells, AOp.dst, LV.I, LV.B, LV.U, LV.S, LV.nil, Nat.reduceEqDiff, Nat.reduceAdd, Nat.reduceMul, Nat.reduceSub, Nat.reduceLeDiff, Nat.reduceBEq, Nat.reduceDiv, Nat.reduceMod, Int.reduceToNat, Int.reduceLT, Int.reduceLE, Int.reduceAdd, Int.reduceSub, Int.reduceMul, Int.reduceEq, Int.reduceNeg, reduceCtorEq, resV, resAll, ARes.ev, LV.flat, ite_true, ite_false, exists_eq_left', exists_eq_left, keyOf, implies_true, fillC, capOf]
  refine condC_dec (fun hlt => ?_) (fun hlt => ?_)
  · have hil : i < (cellsOf x y z).length := by omega
    have hcb := (mem_cellsOf hS).1 (getD_mem' (d := default) hil)
    have hci := b4.tri0 hil
    have ga := Tri.get_a b4.has hil
    have gb := Tri.get_b b4.has hil
    have gc := Tri.get_c b4.has hil
    have hts : (cellsOf x y z).take (i + 1) = (cellsOf x y z).take i ++ [(cellsOf x y z).getD i default] := by
      rw [List.take_succ, List.getElem?_eq_getElem hil]; simp [hil]
    have hal : (((cellsOf x y z).take i).filter (allowedB y z tp fr sd)).length ≤ 64 := by
      have q1 := List.length_filter_le (allowedB y z tp fr sd) ((cellsOf x y z).take i)
      have q2 := List.length_take_le i (cellsOf x y z)
      omega
    rw [Nat.zero_add] at ga gb gc
    generalize (cellsOf x y z).getD i default = c at hcb hci ga gb gc hts
    have hstep : ((cellsOf x y z).take (i + 1)).filter (allowedB y z tp fr sd) = ((cellsOf x y z).take i).filter (allowedB y z tp fr sd) ++ (if allowedB y z tp fr sd c then [c] else []) := by
      rw [hts, List.filter_append, List.filter_cons, List.filter_nil]
    have hao := allowed_ones hok hcb
    have i2 : 0 ≤ c.a * y + c.b ∧ c.a * y + c.b < x * y := lineOf_in (d := 2) hS hcb (by omega)
    have i1 : 0 ≤ c.a * z + c.c ∧ c.a * z + c.c < x * z := lineOf_in (d := 1) hS hcb (by omega)
    have i0 : 0 ≤ c.b * z + c.c ∧ c.b * z + c.c < y * z := lineOf_in (d := 0) hS hcb (by omega)
    have k2 : (tp.length : Int) = x * y := hok.2.1.2
    have k1 : (fr.length : Int) = x * z := hok.2.2.1.2
    have k0 : (sd.length : Int) = y * z := hok.2.2.2.2
    have e2 := Ints.get (h1.pre hpre) (k := (c.a * y + c.b).toNat) (by omega)
    have e1 := Ints.get (h2.pre hpre) (k := (c.a * z + c.c).toNat) (by omega)
    have e0 := Ints.get (h3.pre hpre) (k := (c.b * z + c.c).toNat) (by omega)
    obtain ⟨⟨_, _⟩, ⟨_, _⟩, ⟨_, _⟩⟩ := id hcb
    obtain ⟨⟨_, _⟩, ⟨_, _⟩, ⟨_, _⟩⟩ := id hS
    have hskip : allowedB y z tp fr sd c = false → ((cellsOf x y z).take (i + 1)).filter (allowedB y z tp fr sd) = ((cellsOf x y z).take i).filter (allowedB y z tp fr sd) := fun h => by rw [hstep, h]; simp
    by_cases q2 : tp.getD (c.a * y + c.b).toNat 0 = 1
    · by_cases q1 : fr.getD (c.a * z + c.c).toNat 0 = 1
      · by_cases q0 : sd.getD (c.b * z + c.c).toNat 0 = 1
        · rw [decide_eq_true q2, decide_eq_true q1, decide_eq_true q0] at hao
          simp (disch := omega) only [f1, f2, f3, f4, f5, ga, gb, gc, b1.cell, e2, e1, e0, q2, q1, q0, b3.cell, hci, Cell.row, splice, ↓SXd, SXu, slBounds, ↓sop, ↓aop, ↓reduceIte, LV.cells, AOp.dst, LV.I, LV.B, LV.U, LV.S, LV.nil, Nat.reduceEqDiff, Nat.reduceAdd, Nat.reduceMul, Nat.reduceSub, Nat.reduceLeDiff, Nat.reduceBEq, Nat.reduceDiv, Nat.reduceMod, Int.reduceToNat, Int.reduceLT, Int.reduceLE, Int.reduceAdd, Int.reduceSub, Int.reduceMul, Int.reduceEq, Int.reduceNeg, reduceCtorEq, resV, resAll, ARes.ev, LV.flat, ite_true, ite_false, exists_eq_left', exists_eq_left, keyOf, implies_true, fillC, capOf]
          rw [if_pos (by rw [hao]; rfl)] at hstep
          refine appendK_cell bu (by omega) fun N' l1 l2 l3 => ?_
          have hl4 := b4.lt
          have d3 := live_step b3 (by omega) l3
          simp (disch := omega) only [f1, f2, f3, f4, f5, ↓SXd, SXu, slBounds, ↓sop, ↓aop, ↓reduceIte, LV.cells, AOp.dst, LV.I, LV.B, LV.U, LV.S, LV.nil, Nat.reduceEqDiff, Nat.reduceAdd, Nat.reduceMul, Nat.reduceSub, Nat.reduceLeDiff, Nat.reduceBEq, Nat.reduceDiv, Nat.reduceMod, Int.reduceToNat, Int.reduceLT, Int.reduceLE, Int.reduceAdd, Int.reduceSub, Int.reduceMul, Int.reduceEq, Int.reduceNeg, reduceCtorEq, resV, resAll, ARes.ev, LV.flat, ite_true, ite_false, exists_eq_left', exists_eq_left, keyOf, implies_true, fillC, capOf]
          refine memK_one d3 (by simp) fun N3 j1 j2 j3 => ?_
          simp (disch := omega) only [f1, f2, f3, f4, f5, ↓SXd, SXu, slBounds, ↓sop, ↓aop, ↓reduceIte, LV.cells, AOp.dst, LV.I, LV.B, LV.U, LV.S, LV.nil, Nat.reduceEqDiff, Nat.reduceAdd, Nat.reduceMul, Nat.reduceSub, Nat.reduceLeDiff, Nat.reduceBEq, Nat.reduceDiv, Nat.reduceMod, Int.reduceToNat, Int.reduceLT, Int.reduceLE, Int.reduceAdd, Int.reduceSub, Int.reduceMul, Int.reduceEq, Int.reduceNeg, reduceCtorEq, resV, resAll, ARes.ev, LV.flat, ite_true, ite_false, exists_eq_left', exists_eq_left, keyOf, implies_true, fillC, capOf]
          rw [cell_eta, ← hstep] at l2 j2
          exact ⟨m - 1, by omega, i + 1, M'.length + 1, by omega, pre_step (pre_step hpre (by omega) l1 l3) (by omega) (j := 0) j1 j3, live_step (live_step b1 (by omega) l3) (by omega) j3, live_step (live_step b2 (by omega) l3) (by omega) j3, j2, live_step (live_step b4 (by omega) l3) (by omega) j3, live_step l2 (by omega) j3, by omega, f1, f2, f3, f4, eqI (natI _)⟩
        · rw [decide_eq_true q2, decide_eq_true q1, decide_eq_false q0] at hao
          simp (disch := omega) only [f1, f2, f3, f4, f5, ga, gb, gc, b1.cell, e2, e1, e0, q2, q1, q0, ↓SXd, SXu, slBounds, ↓sop, ↓aop, ↓reduceIte, LV.cells, AOp.dst, LV.I, LV.B, LV.U, LV.S, LV.nil, Nat.reduceEqDiff, Nat.reduceAdd, Nat.reduceMul, Nat.reduceSub, Nat.reduceLeDiff, Nat.reduceBEq, Nat.reduceDiv, Nat.reduceMod, Int.reduceToNat, Int.reduceLT, Int.reduceLE, Int.reduceAdd, Int.reduceSub, Int.reduceMul, Int.reduceEq, Int.reduceNeg, reduceCtorEq, resV, resAll, ARes.ev, LV.flat, ite_true, ite_false, exists_eq_left', exists_eq_left, keyOf, implies_true, fillC, capOf]
          rw [← hskip hao] at b3 bu
          exact ⟨m - 1, by omega, i + 1, u, by omega, hpre, b1, b2, b3, b4, bu, hu, f1, f2, f3, f4, eqI (natI _)⟩
      · rw [decide_eq_true q2, decide_eq_false q1] at hao
        simp (disch := omega) only [f1, f2, f3, f4, f5, ga, gb, gc, b1.cell, e2, e1, q2, q1, ↓SXd, SXu, slBounds, ↓sop, ↓aop, ↓reduceIte, LV.cells, AOp.dst, LV.I, LV.B, LV.U, LV.S, LV.nil, Nat.reduceEqDiff, Nat.reduceAdd, Nat.reduceMul, Nat.reduceSub, Nat.reduceLeDiff, Nat.reduceBEq, Nat.reduceDiv, Nat.reduceMod, Int.reduceToNat, Int.reduceLT, Int.reduceLE, Int.reduceAdd, Int.reduceSub, Int.reduceMul, Int.reduceEq, Int.reduceNeg, reduceCtorEq, resV, resAll, ARes.ev, LV.flat, ite_true, ite_false, exists_eq_left', exists_eq_left, keyOf, implies_true, fillC, capOf]
        rw [← hskip hao] at b3 bu
        exact ⟨m - 1, by omega, i + 1, u, by omega, hpre, b1, b2, b3, b4, bu, hu, f1, f2, f3, f4, eqI (natI _)⟩
    · rw [decide_eq_false q2] at hao
      simp (disch := omega) only [f1, f2, f3, f4, f5, ga, gb, gc, b1.cell, e2, q2, ↓SXd, SXu, slBounds, ↓sop, ↓aop, ↓reduceIte, LV.cells, AOp.dst, LV.I, LV.B, LV.U, LV.S, LV.nil, Nat.reduceEqDiff, Nat.reduceAdd, Nat.reduceMul, Nat.reduceSub, Nat.reduceLeDiff, Nat.reduceBEq, Nat.reduceDiv, Nat.reduceMod, Int.reduceToNat, Int.reduceLT, Int.reduceLE, Int.reduceAdd, Int.reduceSub, Int.reduceMul, Int.reduceEq, Int.reduceNeg, reduceCtorEq, resV, resAll, ARes.ev, LV.flat, ite_true, ite_false, exists_eq_left', exists_eq_left, keyOf, implies_true, fillC, capOf]
      rw [← hskip hao] at b3 bu
      exact ⟨m - 1, by omega, i + 1, u, by omega, hpre, b1, b2, b3, b4, bu, hu, f1, f2, f3, f4, eqI (natI _)⟩
  · simp (disch := omega) only [f1, f2, f3, f4, f5, b3.cells, ↓SXd, SXu, slBounds, ↓sop, ↓aop, ↓reduceIte, LV.cells, AOp.dst, LV.I, LV.B, LV.U, LV.S, LV.nil, Nat.reduceEqDiff, Nat.reduceAdd, Nat.reduceMul, Nat.reduceSub, Nat.reduceLeDiff, Nat.reduceBEq, Nat.reduceDiv, Nat.reduceMod, Int.reduceToNat, Int.reduceLT, Int.reduceLE, Int.reduceAdd, Int.reduceSub, Int.reduceMul, Int.reduceEq, Int.reduceNeg, reduceCtorEq, resV, resAll, ARes.ev, LV.flat, ite_true, ite_false, exists_eq_left', exists_eq_left, keyOf, implies_true, fillC, capOf]
    have : i = (cellsOf x y z).length := by omega
    subst this
    rw [List.take_length] at b3 bu
    change Live M' u (.row (triL (pick x y z (allowedB y z tp fr sd))) true 3) at bu
    refine memK_box b2 (by simp) fun N3 k1 k2 k3 => ?_
    simp (disch := omega) only [f1, f2, f3, f4, f5, k2.cells, ↓SXd, SXu, slBounds, ↓sop, ↓aop, ↓reduceIte, LV.cells, AOp.dst, LV.I, LV.B, LV.U, LV.S, LV.nil, Nat.reduceEqDiff, Nat.reduceAdd, Nat.reduceMul, Nat.reduceSub, Nat.reduceLeDiff, Nat.reduceBEq, Nat.reduceDiv, Nat.reduceMod, Int.reduceToNat, Int.reduceLT, Int.reduceLE, Int.reduceAdd, Int.reduceSub, Int.reduceMul, Int.reduceEq, Int.reduceNeg, reduceCtorEq, resV, resAll, ARes.ev, LV.flat, ite_true, ite_false, exists_eq_left', exists_eq_left, keyOf, implies_true, fillC, capOf]
    exact cmp_keepL (pre_step hpre (by omega) (j := 0) k1 k3) (by omega) (live_step bu (by omega) k3) (triL_lo _) (by simp [rn, rn0, rn1, pick])
end Go.Ab

/- Contracts: whether a heap has a shadow, the reference's side. -/
namespace Go.Ab
open Go
set_option linter.unusedSimpArgs false
set_option linter.unusedVariables false

theorem lines_le {x y z : Int} {d : Nat} (hS : Sides x y z) (hd : d < 3) : 1 ≤ linesOf x y z d ∧ linesOf x y z d ≤ 16 := by
  have := prod_le hS
  rcases (show d = 0 ∨ d = 1 ∨ d = 2 by omega) with rfl | rfl | rfl
  · exact this.2.2
  · exact this.2.1
  · exact this.1
section
variable {x y z : Int} {t o : Nat} {cs : List Cell} {M : Mem} (h : Tri M t o cs) (hH : HeapOK x y z cs)
include h hH
theorem h_l2Top : CallsTo PG F.spec_l2Top [.agg [.I x, .I y, .I z, .ref t o cs.length]] M (.ref M.length 0 (shdOf x y z 2 cs).length) (M ++ [some (.row (intL (shdOf x y z 2 cs)) true 1)]) := by
  have hl := lines_le hH.1 (d := 2) (by omega)
  have hvl := viewL_len (x := x) (y := y) (z := z) (d := 2) (cs := cs)
  refine calls_run K.spec_l2Top rfl ?_
  simp (disch := omega) only [C.spec_l2Top, ↓SXd, SXu, slBounds, ↓sop, ↓aop, ↓reduceIte, LV.cells, AOp.dst, LV.I, LV.B, LV.U, LV.S, LV.nil, Nat.reduceEqDiff, Nat.reduceAdd, Nat.reduceMul, Nat.reduceSub, Nat.reduceLeDiff, Nat.reduceBEq, Nat.reduceDiv, Nat.reduceMod, Int.reduceToNat, Int.reduceLT, Int.reduceLE, Int.reduceAdd, Int.reduceSub, Int.reduceMul, Int.reduceEq, Int.reduceNeg, reduceCtorEq, resV, resAll, ARes.ev, LV.flat, ite_true, ite_false, exists_eq_left', exists_eq_left, keyOf, implies_true, fillC, capOf]
  refine callK_of (h_l2View h.app hH (d := 2) (by omega)) ?_
  simp (disch := omega) only [↓SXd, SXu, slBounds, ↓sop, ↓aop, ↓reduceIte, LV.cells, AOp.dst, LV.I, LV.B, LV.U, LV.S, LV.nil, Nat.reduceEqDiff, Nat.reduceAdd, Nat.reduceMul, Nat.reduceSub, Nat.reduceLeDiff, Nat.reduceBEq, Nat.reduceDiv, Nat.reduceMod, Int.reduceToNat, Int.reduceLT, Int.reduceLE, Int.reduceAdd, Int.reduceSub, Int.reduceMul, Int.reduceEq, Int.reduceNeg, reduceCtorEq, resV, resAll, ARes.ev, LV.flat, ite_true, ite_false, exists_eq_left', exists_eq_left, keyOf, implies_true, fillC, capOf]
  refine callK_of (h_l2Ones (Live.newj (M := M) (j := 1) (b := .row (intL (viewL x y z 2 cs)) true 1) rfl).has (by omega)) ?_
  simp (disch := omega) only [↓SXd, SXu, slBounds, ↓sop, ↓aop, ↓reduceIte, LV.cells, AOp.dst, LV.I, LV.B, LV.U, LV.S, LV.nil, Nat.reduceEqDiff, Nat.reduceAdd, Nat.reduceMul, Nat.reduceSub, Nat.reduceLeDiff, Nat.reduceBEq, Nat.reduceDiv, Nat.reduceMod, Int.reduceToNat, Int.reduceLT, Int.reduceLE, Int.reduceAdd, Int.reduceSub, Int.reduceMul, Int.reduceEq, Int.reduceNeg, reduceCtorEq, resV, resAll, ARes.ev, LV.flat, ite_true, ite_false, exists_eq_left', exists_eq_left, keyOf, implies_true, fillC, capOf]
  exact cmp_keep1 (j := 2) rfl (intL_lo _) (by simp [rn, rn0, rn1, keepR_n, shdOf])
theorem h_l2Front : CallsTo PG F.spec_l2Front [.agg [.I x, .I y, .I z, .ref t o cs.length]] M (.ref M.length 0 (shdOf x y z 1 cs).length) (M ++ [some (.row (intL (shdOf x y z 1 cs)) true 1)]) := by
  have hl := lines_le hH.1 (d := 1) (by omega)
  have hvl := viewL_len (x := x) (y := y) (z := z) (d := 1) (cs := cs)
  refine calls_run K.spec_l2Front rfl ?_
  simp (disch := omega) only [C.spec_l2Front, ↓SXd, SXu, slBounds, ↓sop, ↓aop, ↓reduceIte, LV.cells, AOp.dst, LV.I, LV.B, LV.U, LV.S, LV.nil, Nat.reduceEqDiff, Nat.reduceAdd, Nat.reduceMul, Nat.reduceSub, Nat.reduceLeDiff, Nat.reduceBEq, Nat.reduceDiv, Nat.reduceMod, Int.reduceToNat, Int.reduceLT, Int.reduceLE, Int.reduceAdd, Int.reduceSub, Int.reduceMul, Int.reduceEq, Int.reduceNeg, reduceCtorEq, resV, resAll, ARes.ev, LV.flat, ite_true, ite_false, exists_eq_left', exists_eq_left, keyOf, implies_true, fillC, capOf]
  refine callK_of (h_l2View h.app hH (d := 1) (by omega)) ?_
  simp (disch := omega) only [↓SXd, SXu, slBounds, ↓sop, ↓aop, ↓reduceIte, LV.cells, AOp.dst, LV.I, LV.B, LV.U, LV.S, LV.nil, Nat.reduceEqDiff, Nat.reduceAdd, Nat.reduceMul, Nat.reduceSub, Nat.reduceLeDiff, Nat.reduceBEq, Nat.reduceDiv, Nat.reduceMod, Int.reduceToNat, Int.reduceLT, Int.reduceLE, Int.reduceAdd, Int.reduceSub, Int.reduceMul, Int.reduceEq, Int.reduceNeg, reduceCtorEq, resV, resAll, ARes.ev, LV.flat, ite_true, ite_false, exists_eq_left', exists_eq_left, keyOf, implies_true, fillC, capOf]
  refine callK_of (h_l2Ones (Live.newj (M := M) (j := 1) (b := .row (intL (viewL x y z 1 cs)) true 1) rfl).has (by omega)) ?_
  simp (disch := omega) only [↓SXd, SXu, slBounds, ↓sop, ↓aop, ↓reduceIte, LV.cells, AOp.dst, LV.I, LV.B, LV.U, LV.S, LV.nil, Nat.reduceEqDiff, Nat.reduceAdd, Nat.reduceMul, Nat.reduceSub, Nat.reduceLeDiff, Nat.reduceBEq, Nat.reduceDiv, Nat.reduceMod, Int.reduceToNat, Int.reduceLT, Int.reduceLE, Int.reduceAdd, Int.reduceSub, Int.reduceMul, Int.reduceEq, Int.reduceNeg, reduceCtorEq, resV, resAll, ARes.ev, LV.flat, ite_true, ite_false, exists_eq_left', exists_eq_left, keyOf, implies_true, fillC, capOf]
  exact cmp_keep1 (j := 2) rfl (intL_lo _) (by simp [rn, rn0, rn1, keepR_n, shdOf])
theorem h_l2Side : CallsTo PG F.spec_l2Side [.agg [.I x, .I y, .I z, .ref t o cs.length]] M (.ref M.length 0 (shdOf x y z 0 cs).length) (M ++ [some (.row (intL (shdOf x y z 0 cs)) true 1)]) := by
  have hl := lines_le hH.1 (d := 0) (by omega)
  have hvl := viewL_len (x := x) (y := y) (z := z) (d := 0) (cs := cs)
  refine calls_run K.spec_l2Side rfl ?_
  simp (disch := omega) only [C.spec_l2Side, ↓SXd, SXu, slBounds, ↓sop, ↓aop, ↓reduceIte, LV.cells, AOp.dst, LV.I, LV.B, LV.U, LV.S, LV.nil, Nat.reduceEqDiff, Nat.reduceAdd, Nat.reduceMul, Nat.reduceSub, Nat.reduceLeDiff, Nat.reduceBEq, Nat.reduceDiv, Nat.reduceMod, Int.reduceToNat, Int.reduceLT, Int.reduceLE, Int.reduceAdd, Int.reduceSub, Int.reduceMul, Int.reduceEq, Int.reduceNeg, reduceCtorEq, resV, resAll, ARes.ev, LV.flat, ite_true, ite_false, exists_eq_left', exists_eq_left, keyOf, implies_true, fillC, capOf]
  refine callK_of (h_l2View h.app hH (d := 0) (by omega)) ?_
  simp (disch := omega) only [↓SXd, SXu, slBounds, ↓sop, ↓aop, ↓reduceIte, LV.cells, AOp.dst, LV.I, LV.B, LV.U, LV.S, LV.nil, Nat.reduceEqDiff, Nat.reduceAdd, Nat.reduceMul, Nat.reduceSub, Nat.reduceLeDiff, Nat.reduceBEq, Nat.reduceDiv, Nat.reduceMod, Int.reduceToNat, Int.reduceLT, Int.reduceLE, Int.reduceAdd, Int.reduceSub, Int.reduceMul, Int.reduceEq, Int.reduceNeg, reduceCtorEq, resV, resAll, ARes.ev, LV.flat, ite_true, ite_false, exists_eq_left', exists_eq_left, keyOf, implies_true, fillC, capOf]
  refine callK_of (h_l2Ones (Live.newj (M := M) (j := 1) (b := .row (intL (viewL x y z 0 cs)) true 1) rfl).has (by omega)) ?_
  simp (disch := omega) only [↓SXd, SXu, slBounds, ↓sop, ↓aop, ↓reduceIte, LV.cells, AOp.dst, LV.I, LV.B, LV.U, LV.S, LV.nil, Nat.reduceEqDiff, Nat.reduceAdd, Nat.reduceMul, Nat.reduceSub, Nat.reduceLeDiff, Nat.reduceBEq, Nat.reduceDiv, Nat.reduceMod, Int.reduceToNat, Int.reduceLT, Int.reduceLE, Int.reduceAdd, Int.reduceSub, Int.reduceMul, Int.reduceEq, Int.reduceNeg, reduceCtorEq, resV, resAll, ARes.ev, LV.flat, ite_true, ite_false, exists_eq_left', exists_eq_left, keyOf, implies_true, fillC, capOf]
  exact cmp_keep1 (j := 2) rfl (intL_lo _) (by simp [rn, rn0, rn1, keepR_n, shdOf])
end

/-- A set of cells has a shadow. -/
def HasShd (x y z : Int) (tp fr sd : List Int) (cs : List Cell) : Prop := shdOf x y z 2 cs = tp ∧ shdOf x y z 1 cs = fr ∧ shdOf x y z 0 cs = sd
instance (x y z : Int) (tp fr sd : List Int) (cs : List Cell) : Decidable (HasShd x y z tp fr sd cs) := by unfold HasShd; exact inferInstance
theorem h_l3Has {x y z x' y' z' : Int} {t o t' o' t2 o2 u v : Nat} {tp fr sd : List Int} {cs : List Cell} {M : Mem} (h1 : Ints M t o tp) (h2 : Ints M t' o' fr) (h3 : Ints M t2 o2 sd) (l1 : tp.length ≤ 1000000000) (l2 : fr.length ≤ 1000000000) (l3 : sd.length ≤ 1000000000)
    (h : Tri M u v cs) (hH : HeapOK x y z cs) :
    CallsTo PG F.spec_l3Has [.agg [.I x', .I y', .I z', .ref t o tp.length, .ref t' o' fr.length, .ref t2 o2 sd.length], .agg [.I x, .I y, .I z, .ref u v cs.length]] M (.B (decide (HasShd x y z tp fr sd cs))) M := by
  have q2 := lines_le hH.1 (d := 2) (by omega)
  have q1 := lines_le hH.1 (d := 1) (by omega)
  have q0 := lines_le hH.1 (d := 0) (by omega)
  have k2 := shdOf_len (x := x) (y := y) (z := z) (d := 2) (cs := cs)
  have k1 := shdOf_len (x := x) (y := y) (z := z) (d := 1) (cs := cs)
  have k0 := shdOf_len (x := x) (y := y) (z := z) (d := 0) (cs := cs)
  rw [show decide (HasShd x y z tp fr sd cs) = decide (shdOf x y z 2 cs = tp ∧ shdOf x y z 1 cs = fr ∧ shdOf x y z 0 cs = sd) from decide_eq_decide.2 Iff.rfl]
  have c2 := fun M' (hp : Pre M M') => h_l2Top (h.pre hp) hH
  have c1 := fun M' (hp : Pre M M') => h_l2Front (h.pre hp) hH
  have c0 := fun M' (hp : Pre M M') => h_l2Side (h.pre hp) hH
  generalize shdOf x y z 2 cs = s2 at k2 c2 ⊢
  generalize shdOf x y z 1 cs = s1 at k1 c1 ⊢
  generalize shdOf x y z 0 cs = s0 at k0 c0 ⊢
  refine calls_run K.spec_l3Has rfl ?_
  simp (disch := omega) only [C.spec_l3Has, ↓SXd, SXu, slBounds, ↓sop, ↓aop, ↓reduceIte, LV.cells, AOp.dst, LV.I, LV.B, LV.U, LV.S, LV.nil, Nat.reduceEqDiff, Nat.reduceAdd, Nat.reduceMul, Nat.reduceSub, Nat.reduceLeDiff, Nat.reduceBEq, Nat.reduceDiv, Nat.reduceMod, Int.reduceToNat, Int.reduceLT, Int.reduceLE, Int.reduceAdd, Int.reduceSub, Int.reduceMul, Int.reduceEq, Int.reduceNeg, reduceCtorEq, resV, resAll, ARes.ev, LV.flat, ite_true, ite_false, exists_eq_left', exists_eq_left, keyOf, implies_true, fillC, capOf]
  refine callK_of (c2 _ (Pre.app _ _)) ?_
  simp (disch := omega) only [↓SXd, SXu, slBounds, ↓sop, ↓aop, ↓reduceIte, LV.cells, AOp.dst, LV.I, LV.B, LV.U, LV.S, LV.nil, Nat.reduceEqDiff, Nat.reduceAdd, Nat.reduceMul, Nat.reduceSub, Nat.reduceLeDiff, Nat.reduceBEq, Nat.reduceDiv, Nat.reduceMod, Int.reduceToNat, Int.reduceLT, Int.reduceLE, Int.reduceAdd, Int.reduceSub, Int.reduceMul, Int.reduceEq, Int.reduceNeg, reduceCtorEq, resV, resAll, ARes.ev, LV.flat, ite_true, ite_false, exists_eq_left', exists_eq_left, keyOf, implies_true, fillC, capOf]
  refine callK_of (h_l1Same (Live.newj (M := M) (j := 2) (b := .row (intL s2) true 1) rfl).has h1.app (by omega) l1) ?_
  simp (disch := omega) only [↓SXd, SXu, slBounds, ↓sop, ↓aop, ↓reduceIte, LV.cells, AOp.dst, LV.I, LV.B, LV.U, LV.S, LV.nil, Nat.reduceEqDiff, Nat.reduceAdd, Nat.reduceMul, Nat.reduceSub, Nat.reduceLeDiff, Nat.reduceBEq, Nat.reduceDiv, Nat.reduceMod, Int.reduceToNat, Int.reduceLT, Int.reduceLE, Int.reduceAdd, Int.reduceSub, Int.reduceMul, Int.reduceEq, Int.reduceNeg, reduceCtorEq, resV, resAll, ARes.ev, LV.flat, ite_true, ite_false, exists_eq_left', exists_eq_left, keyOf, implies_true, fillC, capOf]
  by_cases e2 : s2 = tp
  · simp (disch := omega) only [e2, true_and, ↓SXd, SXu, slBounds, ↓sop, ↓aop, ↓reduceIte, LV.cells, AOp.dst, LV.I, LV.B, LV.U, LV.S, LV.nil, Nat.reduceEqDiff, Nat.reduceAdd, Nat.reduceMul, Nat.reduceSub, Nat.reduceLeDiff, Nat.reduceBEq, Nat.reduceDiv, Nat.reduceMod, Int.reduceToNat, Int.reduceLT, Int.reduceLE, Int.reduceAdd, Int.reduceSub, Int.reduceMul, Int.reduceEq, Int.reduceNeg, reduceCtorEq, resV, resAll, ARes.ev, LV.flat, ite_true, ite_false, exists_eq_left', exists_eq_left, keyOf, implies_true, fillC, capOf]
    refine callK_of (c1 _ (Pre.app _ _)) ?_
    simp (disch := omega) only [↓SXd, SXu, slBounds, ↓sop, ↓aop, ↓reduceIte, LV.cells, AOp.dst, LV.I, LV.B, LV.U, LV.S, LV.nil, Nat.reduceEqDiff, Nat.reduceAdd, Nat.reduceMul, Nat.reduceSub, Nat.reduceLeDiff, Nat.reduceBEq, Nat.reduceDiv, Nat.reduceMod, Int.reduceToNat, Int.reduceLT, Int.reduceLE, Int.reduceAdd, Int.reduceSub, Int.reduceMul, Int.reduceEq, Int.reduceNeg, reduceCtorEq, resV, resAll, ARes.ev, LV.flat, ite_true, ite_false, exists_eq_left', exists_eq_left, keyOf, implies_true, fillC, capOf]
    refine callK_of (h_l1Same (Live.newj (M := M) (j := 3) (b := .row (intL s1) true 1) rfl).has h2.app (by omega) l2) ?_
    simp (disch := omega) only [↓SXd, SXu, slBounds, ↓sop, ↓aop, ↓reduceIte, LV.cells, AOp.dst, LV.I, LV.B, LV.U, LV.S, LV.nil, Nat.reduceEqDiff, Nat.reduceAdd, Nat.reduceMul, Nat.reduceSub, Nat.reduceLeDiff, Nat.reduceBEq, Nat.reduceDiv, Nat.reduceMod, Int.reduceToNat, Int.reduceLT, Int.reduceLE, Int.reduceAdd, Int.reduceSub, Int.reduceMul, Int.reduceEq, Int.reduceNeg, reduceCtorEq, resV, resAll, ARes.ev, LV.flat, ite_true, ite_false, exists_eq_left', exists_eq_left, keyOf, implies_true, fillC, capOf]
    by_cases e1 : s1 = fr
    · simp (disch := omega) only [e1, true_and, ↓SXd, SXu, slBounds, ↓sop, ↓aop, ↓reduceIte, LV.cells, AOp.dst, LV.I, LV.B, LV.U, LV.S, LV.nil, Nat.reduceEqDiff, Nat.reduceAdd, Nat.reduceMul, Nat.reduceSub, Nat.reduceLeDiff, Nat.reduceBEq, Nat.reduceDiv, Nat.reduceMod, Int.reduceToNat, Int.reduceLT, Int.reduceLE, Int.reduceAdd, Int.reduceSub, Int.reduceMul, Int.reduceEq, Int.reduceNeg, reduceCtorEq, resV, resAll, ARes.ev, LV.flat, ite_true, ite_false, exists_eq_left', exists_eq_left, keyOf, implies_true, fillC, capOf]
      refine callK_of (c0 _ (Pre.app _ _)) ?_
      simp (disch := omega) only [↓SXd, SXu, slBounds, ↓sop, ↓aop, ↓reduceIte, LV.cells, AOp.dst, LV.I, LV.B, LV.U, LV.S, LV.nil, Nat.reduceEqDiff, Nat.reduceAdd, Nat.reduceMul, Nat.reduceSub, Nat.reduceLeDiff, Nat.reduceBEq, Nat.reduceDiv, Nat.reduceMod, Int.reduceToNat, Int.reduceLT, Int.reduceLE, Int.reduceAdd, Int.reduceSub, Int.reduceMul, Int.reduceEq, Int.reduceNeg, reduceCtorEq, resV, resAll, ARes.ev, LV.flat, ite_true, ite_false, exists_eq_left', exists_eq_left, keyOf, implies_true, fillC, capOf]
      refine callK_of (h_l1Same (Live.newj (M := M) (j := 4) (b := .row (intL s0) true 1) rfl).has h3.app (by omega) l3) ?_
      simp (disch := omega) only [↓SXd, SXu, slBounds, ↓sop, ↓aop, ↓reduceIte, LV.cells, AOp.dst, LV.I, LV.B, LV.U, LV.S, LV.nil, Nat.reduceEqDiff, Nat.reduceAdd, Nat.reduceMul, Nat.reduceSub, Nat.reduceLeDiff, Nat.reduceBEq, Nat.reduceDiv, Nat.reduceMod, Int.reduceToNat, Int.reduceLT, Int.reduceLE, Int.reduceAdd, Int.reduceSub, Int.reduceMul, Int.reduceEq, Int.reduceNeg, reduceCtorEq, resV, resAll, ARes.ev, LV.flat, ite_true, ite_false, exists_eq_left', exists_eq_left, keyOf, implies_true, fillC, capOf]
      exact cmp_drop rfl
    · simp (disch := omega) only [e1, false_and, ↓SXd, SXu, slBounds, ↓sop, ↓aop, ↓reduceIte, LV.cells, AOp.dst, LV.I, LV.B, LV.U, LV.S, LV.nil, Nat.reduceEqDiff, Nat.reduceAdd, Nat.reduceMul, Nat.reduceSub, Nat.reduceLeDiff, Nat.reduceBEq, Nat.reduceDiv, Nat.reduceMod, Int.reduceToNat, Int.reduceLT, Int.reduceLE, Int.reduceAdd, Int.reduceSub, Int.reduceMul, Int.reduceEq, Int.reduceNeg, reduceCtorEq, resV, resAll, ARes.ev, LV.flat, ite_true, ite_false, exists_eq_left', exists_eq_left, keyOf, implies_true, fillC, capOf]
      exact cmp_drop rfl
  · simp (disch := omega) only [e2, false_and, ↓SXd, SXu, slBounds, ↓sop, ↓aop, ↓reduceIte, LV.cells, AOp.dst, LV.I, LV.B, LV.U, LV.S, LV.nil, Nat.reduceEqDiff, Nat.reduceAdd, Nat.reduceMul, Nat.reduceSub, Nat.reduceLeDiff, Nat.reduceBEq, Nat.reduceDiv, Nat.reduceMod, Int.reduceToNat, Int.reduceLT, Int.reduceLE, Int.reduceAdd, Int.reduceSub, Int.reduceMul, Int.reduceEq, Int.reduceNeg, reduceCtorEq, resV, resAll, ARes.ev, LV.flat, ite_true, ite_false, exists_eq_left', exists_eq_left, keyOf, implies_true, fillC, capOf]
    exact cmp_drop rfl
theorem h_l3Fit {x y z : Int} {t o t' o' t2 o2 : Nat} {tp fr sd : List Int} {M : Mem} (h1 : Ints M t o tp) (h2 : Ints M t' o' fr) (h3 : Ints M t2 o2 sd) (l1 : tp.length ≤ 1000000000) (l2 : fr.length ≤ 1000000000) (l3 : sd.length ≤ 1000000000) :
    CallsTo PG F.spec_l3Fit [.agg [.I x, .I y, .I z, .ref t o tp.length, .ref t' o' fr.length, .ref t2 o2 sd.length]] M (.B (decide (ShdOK x y z tp fr sd ∧ HasShd x y z tp fr sd (pick x y z (allowedB y z tp fr sd))))) M := by
  refine calls_run K.spec_l3Fit rfl ?_
  simp (disch := omega) only [C.spec_l3Fit, ↓SXd, SXu, slBounds, ↓sop, ↓aop, ↓reduceIte, LV.cells, AOp.dst, LV.I, LV.B, LV.U, LV.S, LV.nil, Nat.reduceEqDiff, Nat.reduceAdd, Nat.reduceMul, Nat.reduceSub, Nat.reduceLeDiff, Nat.reduceBEq, Nat.reduceDiv, Nat.reduceMod, Int.reduceToNat, Int.reduceLT, Int.reduceLE, Int.reduceAdd, Int.reduceSub, Int.reduceMul, Int.reduceEq, Int.reduceNeg, reduceCtorEq, resV, resAll, ARes.ev, LV.flat, ite_true, ite_false, exists_eq_left', exists_eq_left, keyOf, implies_true, fillC, capOf]
  refine callK_of (h_l3Shadow h1.app h2.app h3.app l1 l2 l3) ?_
  simp (disch := omega) only [↓SXd, SXu, slBounds, ↓sop, ↓aop, ↓reduceIte, LV.cells, AOp.dst, LV.I, LV.B, LV.U, LV.S, LV.nil, Nat.reduceEqDiff, Nat.reduceAdd, Nat.reduceMul, Nat.reduceSub, Nat.reduceLeDiff, Nat.reduceBEq, Nat.reduceDiv, Nat.reduceMod, Int.reduceToNat, Int.reduceLT, Int.reduceLE, Int.reduceAdd, Int.reduceSub, Int.reduceMul, Int.reduceEq, Int.reduceNeg, reduceCtorEq, resV, resAll, ARes.ev, LV.flat, ite_true, ite_false, exists_eq_left', exists_eq_left, keyOf, implies_true, fillC, capOf]
  by_cases hok : ShdOK x y z tp fr sd
  · simp (disch := omega) only [hok, true_and, ↓SXd, SXu, slBounds, ↓sop, ↓aop, ↓reduceIte, LV.cells, AOp.dst, LV.I, LV.B, LV.U, LV.S, LV.nil, Nat.reduceEqDiff, Nat.reduceAdd, Nat.reduceMul, Nat.reduceSub, Nat.reduceLeDiff, Nat.reduceBEq, Nat.reduceDiv, Nat.reduceMod, Int.reduceToNat, Int.reduceLT, Int.reduceLE, Int.reduceAdd, Int.reduceSub, Int.reduceMul, Int.reduceEq, Int.reduceNeg, reduceCtorEq, resV, resAll, ARes.ev, LV.flat, ite_true, ite_false, exists_eq_left', exists_eq_left, keyOf, implies_true, fillC, capOf]
    refine callK_of (h_l3Allowed h1.app h2.app h3.app hok) ?_
    simp (disch := omega) only [↓SXd, SXu, slBounds, ↓sop, ↓aop, ↓reduceIte, LV.cells, AOp.dst, LV.I, LV.B, LV.U, LV.S, LV.nil, Nat.reduceEqDiff, Nat.reduceAdd, Nat.reduceMul, Nat.reduceSub, Nat.reduceLeDiff, Nat.reduceBEq, Nat.reduceDiv, Nat.reduceMod, Int.reduceToNat, Int.reduceLT, Int.reduceLE, Int.reduceAdd, Int.reduceSub, Int.reduceMul, Int.reduceEq, Int.reduceNeg, reduceCtorEq, resV, resAll, ARes.ev, LV.flat, ite_true, ite_false, exists_eq_left', exists_eq_left, keyOf, implies_true, fillC, capOf]
    refine callK_of (h_l3Has h1.app h2.app h3.app l1 l2 l3 (Live.newj (M := M) (j := 1) (b := .row (triL (pick x y z (allowedB y z tp fr sd))) true 3) rfl).has (pick_ok hok.1 _)) ?_
    simp (disch := omega) only [↓SXd, SXu, slBounds, ↓sop, ↓aop, ↓reduceIte, LV.cells, AOp.dst, LV.I, LV.B, LV.U, LV.S, LV.nil, Nat.reduceEqDiff, Nat.reduceAdd, Nat.reduceMul, Nat.reduceSub, Nat.reduceLeDiff, Nat.reduceBEq, Nat.reduceDiv, Nat.reduceMod, Int.reduceToNat, Int.reduceLT, Int.reduceLE, Int.reduceAdd, Int.reduceSub, Int.reduceMul, Int.reduceEq, Int.reduceNeg, reduceCtorEq, resV, resAll, ARes.ev, LV.flat, ite_true, ite_false, exists_eq_left', exists_eq_left, keyOf, implies_true, fillC, capOf]
    exact cmp_drop rfl
  · simp (disch := omega) only [hok, false_and, ↓SXd, SXu, slBounds, ↓sop, ↓aop, ↓reduceIte, LV.cells, AOp.dst, LV.I, LV.B, LV.U, LV.S, LV.nil, Nat.reduceEqDiff, Nat.reduceAdd, Nat.reduceMul, Nat.reduceSub, Nat.reduceLeDiff, Nat.reduceBEq, Nat.reduceDiv, Nat.reduceMod, Int.reduceToNat, Int.reduceLT, Int.reduceLE, Int.reduceAdd, Int.reduceSub, Int.reduceMul, Int.reduceEq, Int.reduceNeg, reduceCtorEq, resV, resAll, ARes.ev, LV.flat, ite_true, ite_false, exists_eq_left', exists_eq_left, keyOf, implies_true, fillC, capOf]
    exact cmp_drop rfl
end Go.Ab

/- Contracts: shadows of sets, the program's side. -/
namespace Go.Ab
open Go
set_option linter.unusedSimpArgs false
set_option linter.unusedVariables false
set_option maxRecDepth 20000

theorem keepL_pr {M N : Mem} (h : Pre M N) (ks : List Nat) : KeepL ks M N = True := by
  simp only [eq_iff_iff, iff_true]
  intro k _ b hb
  rw [h.2 k (by
    rcases Nat.lt_or_ge k M.length with h1 | h1
    · exact h1
    · rw [List.getElem?_eq_none h1] at hb; cases hb)]
  exact hb
def onesTo (k : Nat) (v : List Int) : List Int := onesL (v.take k) ++ v.drop k
theorem onesTo_step {v : List Int} {k : Nat} (h : k < v.length) : (onesTo k v).set k (min (v.getD k 0) 1) = onesTo (k + 1) v := by
  have hl : (onesL (v.take k)).length = k := by rw [onesL_len]; simp; omega
  unfold onesTo
  have e : v.getD k 0 = v[k] := by simp [h]
  rw [List.set_append_right _ _ (by omega), hl, Nat.sub_self, List.drop_eq_getElem_cons h, List.set_cons_zero, List.take_succ, List.getElem?_eq_getElem h, e]
  simp only [onesL, List.map_append, Option.toList_some, List.map_cons, List.map_nil, List.append_assoc, List.cons_append, List.nil_append]
theorem onesTo_get {v : List Int} {k : Nat} (h : k < v.length) : (onesTo k v).getD k 0 = v.getD k 0 := by
  have hl : (onesL (v.take k)).length = k := by rw [onesL_len]; simp; omega
  unfold onesTo
  rw [List.getD_eq_getElem?_getD, List.getElem?_append_right (by omega), hl, Nat.sub_self, List.getElem?_drop]
  simp [h]
theorem onesTo_len {v : List Int} {k : Nat} : (onesTo k v).length = v.length := by
  unfold onesTo; rw [List.length_append, onesL_len, ← List.length_append, List.take_append_drop]

theorem g_shadow {x y z : Int} {p : Cell → Bool} {M : Mem} (hS : Sides x y z) : CallsR PG F.impl_box_shadow [.agg [.I x, .I y, .I z], .W (bs x y z p)] M
    (ShdRes M x y z (shdOf x y z 2 (pick x y z p)) (shdOf x y z 1 (pick x y z p)) (shdOf x y z 0 (pick x y z p))) := by
  refine callsR_run K.impl_box_shadow rfl ?_
  simp (disch := omega) only [C.impl_box_shadow, ↓SXd, SXu, slBounds, ↓sop, ↓aop, ↓reduceIte, LV.cells, AOp.dst, LV.I, LV.B, LV.U, LV.S, LV.nil, Nat.reduceEqDiff, Nat.reduceAdd, Nat.reduceMul, Nat.reduceSub, Nat.reduceLeDiff, Nat.reduceBEq, Nat.reduceDiv, Nat.reduceMod, Int.reduceToNat, Int.reduceLT, Int.reduceLE, Int.reduceAdd, Int.reduceSub, Int.reduceMul, Int.reduceEq, Int.reduceNeg, reduceCtorEq, resV, resAll, ARes.ev, LV.flat, ite_true, ite_false, exists_eq_left', exists_eq_left, keyOf, implies_true, fillC, capOf]
  refine ev_loop (fun m fr M' => ∃ (d : Nat) (vs : List LV), d + m = 3 ∧ Pre M M' ∧ Live M' M.length (.row [.I x, .I y, .I z] true 0) ∧ Live M' (M.length + 1) (.row [.I 0, .I 0, .I 0, .nil, .nil, .nil] true 0) ∧ Live M' (M.length + 2) (.row vs true 0) ∧ vs.length = 3 ∧
    fr 1 = .W (bs x y z p) ∧ fr 2 = .ptr M.length 0 ∧ fr 4 = .ptr (M.length + 1) 0 ∧ fr 5 = .ptr (M.length + 2) 0 ∧ fr 10 = .I d ∧ (∀ j, j < d → ∃ a, vs[j]? = some (.ref a 0 (shdOf x y z j (pick x y z p)).length) ∧ M.length + 2 < a ∧ Live M' a (.row (intL (shdOf x y z j (pick x y z p))) true 1)) ∧
    (∀ i j a b n m, i < d → j < d → i ≠ j → vs[i]? = some (.ref a 0 n) → vs[j]? = some (.ref b 0 m) → a ≠ b)) 3
    ⟨0, [.nil, .nil, .nil], rfl, Pre.app _ _, Live.new, Live.newj rfl, Live.newj rfl, rfl, rfl, rfl, rfl, rfl, rfl, by omega, by omega⟩ ?_
  rintro m fr M' ⟨d, vs, hd, hpre, b2, b4, b5, hvl, f1, f2, f4, f5, f10, hj, hne⟩
  simp (disch := omega) only [f1, f2, f4, f5, f10, ↓SXd, SXu, slBounds, ↓sop, ↓aop, ↓reduceIte, LV.cells, AOp.dst, LV.I, LV.B, LV.U, LV.S, LV.nil, Nat.reduceEqDiff, Nat.reduceAdd, Nat.reduceMul, Nat.reduceSub, Nat.reduceLeDiff, Nat.reduceBEq, Nat.reduceDiv, Nat.reduceMod, Int.reduceToNat, Int.reduceLT, Int.reduceLE, Int.reduceAdd, Int.reduceSub, Int.reduceMul, Int.reduceEq, Int.reduceNeg, reduceCtorEq, resV, resAll, ARes.ev, LV.flat, ite_true, ite_false, exists_eq_left', exists_eq_left, keyOf, implies_true, fillC, capOf]
  refine condC_dec (fun hlt => ?_) (fun hlt => ?_)
  · have hd3 : d < 3 := by omega
    have hll := lines_le hS hd3
    have hvw := viewL_len (x := x) (y := y) (z := z) (d := d) (cs := pick x y z p)
    simp (disch := omega) only [f1, f2, f4, f5, f10, b2.cells, ↓SXd, SXu, slBounds, ↓sop, ↓aop, ↓reduceIte, LV.cells, AOp.dst, LV.I, LV.B, LV.U, LV.S, LV.nil, Nat.reduceEqDiff, Nat.reduceAdd, Nat.reduceMul, Nat.reduceSub, Nat.reduceLeDiff, Nat.reduceBEq, Nat.reduceDiv, Nat.reduceMod, Int.reduceToNat, Int.reduceLT, Int.reduceLE, Int.reduceAdd, Int.reduceSub, Int.reduceMul, Int.reduceEq, Int.reduceNeg, reduceCtorEq, resV, resAll, ARes.ev, LV.flat, ite_true, ite_false, exists_eq_left', exists_eq_left, keyOf, implies_true, fillC, capOf]
    refine callN_of (g_view hS hd3) ?_
    intro t N ht hp2 hn
    have b52 := b5.pre hp2
    simp (disch := omega) only [f1, f2, f4, f5, f10, ↓SXd, SXu, slBounds, ↓sop, ↓aop, ↓reduceIte, LV.cells, AOp.dst, LV.I, LV.B, LV.U, LV.S, LV.nil, Nat.reduceEqDiff, Nat.reduceAdd, Nat.reduceMul, Nat.reduceSub, Nat.reduceLeDiff, Nat.reduceBEq, Nat.reduceDiv, Nat.reduceMod, Int.reduceToNat, Int.reduceLT, Int.reduceLE, Int.reduceAdd, Int.reduceSub, Int.reduceMul, Int.reduceEq, Int.reduceNeg, reduceCtorEq, resV, resAll, ARes.ev, LV.flat, ite_true, ite_false, exists_eq_left', exists_eq_left, keyOf, implies_true, fillC, capOf]
    refine memK_one b52 (by omega) fun N2 k1 k2 k3 => ?_
    have hb5 := b5.lt
    have hn2 := live_step hn (by omega) k3
    have hset : (vs.set d (.ref t 0 (viewL x y z d (pick x y z p)).length))[d]? = some (.ref t 0 (viewL x y z d (pick x y z p)).length) := by rw [List.getElem?_set_self (by omega)]
    simp (disch := omega) only [f1, f2, f4, f5, f10, k2.cell, hset, ↓SXd, SXu, slBounds, ↓sop, ↓aop, ↓reduceIte, LV.cells, AOp.dst, LV.I, LV.B, LV.U, LV.S, LV.nil, Nat.reduceEqDiff, Nat.reduceAdd, Nat.reduceMul, Nat.reduceSub, Nat.reduceLeDiff, Nat.reduceBEq, Nat.reduceDiv, Nat.reduceMod, Int.reduceToNat, Int.reduceLT, Int.reduceLE, Int.reduceAdd, Int.reduceSub, Int.reduceMul, Int.reduceEq, Int.reduceNeg, reduceCtorEq, resV, resAll, ARes.ev, LV.flat, ite_true, ite_false, exists_eq_left', exists_eq_left, keyOf, implies_true, fillC, capOf]
    have hpre2 : Pre M N2 := pre_step (hpre.trans hp2) (by omega) (j := 0) k1 k3
    have hk2 := live_step (b2.pre hp2) (by omega) k3
    have hk4 := live_step (b4.pre hp2) (by omega) k3
    have hj2 : ∀ j, j < d → ∃ a, (vs.set d (.ref t 0 (viewL x y z d (pick x y z p)).length))[j]? = some (.ref a 0 (shdOf x y z j (pick x y z p)).length) ∧ M.length + 2 < a ∧ a ≠ t ∧ Live N2 a (.row (intL (shdOf x y z j (pick x y z p))) true 1) := fun j hjd => by
      obtain ⟨a, h1, h2, h3⟩ := hj j hjd
      have := h3.lt
      exact ⟨a, by rw [List.getElem?_set_ne (by omega)]; exact h1, h2, by omega, live_step (h3.pre hp2) (by omega) k3⟩
    generalize hV : vs.set d (.ref t 0 (viewL x y z d (pick x y z p)).length) = V at k2 hset hj2
    have hVl : V.length = 3 := by rw [← hV]; simpa using hvl
    refine ev_loop (fun m2 fr2 M2 => ∃ i : Nat, i + m2 = (viewL x y z d (pick x y z p)).length ∧ Pre M M2 ∧ Live M2 M.length (.row [.I x, .I y, .I z] true 0) ∧ Live M2 (M.length + 1) (.row [.I 0, .I 0, .I 0, .nil, .nil, .nil] true 0) ∧ Live M2 (M.length + 2) (.row V true 0) ∧
      Live M2 t (.row (intL (onesTo i (viewL x y z d (pick x y z p)))) true 1) ∧ (∀ j, j < d → ∃ a, V[j]? = some (.ref a 0 (shdOf x y z j (pick x y z p)).length) ∧ M.length + 2 < a ∧ a ≠ t ∧ Live M2 a (.row (intL (shdOf x y z j (pick x y z p))) true 1)) ∧
      fr2 1 = .W (bs x y z p) ∧ fr2 2 = .ptr M.length 0 ∧ fr2 4 = .ptr (M.length + 1) 0 ∧ fr2 5 = .ptr (M.length + 2) 0 ∧ fr2 6 = .I d ∧ fr2 10 = .I d ∧ fr2 21 = .ref t 0 (viewL x y z d (pick x y z p)).length ∧ fr2 22 = .I (viewL x y z d (pick x y z p)).length ∧ fr2 23 = .I i) (viewL x y z d (pick x y z p)).length
      ⟨0, by omega, hpre2, hk2, hk4, k2, hn2, hj2, f1, f2, f4, f5, rfl, f10, rfl, rfl, rfl⟩ ?_
    rintro m2 fr2 M2 ⟨i, hi, p2, c2, c4, c5, ct, cj, g1, g2, g4, g5, g6, g10, g21, g22, g23⟩
    simp (disch := omega) only [g1, g2, g4, g5, g6, g10, g21, g22, g23, ↓SXd, SXu, slBounds, ↓sop, ↓aop, ↓reduceIte, LV.cells, AOp.dst, LV.I, LV.B, LV.U, LV.S, LV.nil, Nat.reduceEqDiff, Nat.reduceAdd, Nat.reduceMul, Nat.reduceSub, Nat.reduceLeDiff, Nat.reduceBEq, Nat.reduceDiv, Nat.reduceMod, Int.reduceToNat, Int.reduceLT, Int.reduceLE, Int.reduceAdd, Int.reduceSub, Int.reduceMul, Int.reduceEq, Int.reduceNeg, reduceCtorEq, resV, resAll, ARes.ev, LV.flat, ite_true, ite_false, exists_eq_left', exists_eq_left, keyOf, implies_true, fillC, capOf]
    refine condC_dec (fun hlt2 => ?_) (fun hlt2 => ?_)
    · have hil : i < (viewL x y z d (pick x y z p)).length := by omega
      have hol := onesTo_len (v := viewL x y z d (pick x y z p)) (k := i)
      have hg := Ints.get ct.has (k := i) (by omega)
      rw [onesTo_get hil, Nat.zero_add] at hg
      have hst := onesTo_step hil
      simp (disch := omega) only [g1, g2, g4, g5, g6, g10, g21, g22, g23, hg, Nat.mul_one, c5.cell, hset, maxV, if_true, ite_true, ↓SXd, SXu, slBounds, ↓sop, ↓aop, ↓reduceIte, LV.cells, AOp.dst, LV.I, LV.B, LV.U, LV.S, LV.nil, Nat.reduceEqDiff, Nat.reduceAdd, Nat.reduceMul, Nat.reduceSub, Nat.reduceLeDiff, Nat.reduceBEq, Nat.reduceDiv, Nat.reduceMod, Int.reduceToNat, Int.reduceLT, Int.reduceLE, Int.reduceAdd, Int.reduceSub, Int.reduceMul, Int.reduceEq, Int.reduceNeg, reduceCtorEq, resV, resAll, ARes.ev, LV.flat, ite_true, ite_false, exists_eq_left', exists_eq_left, keyOf, implies_true, fillC, capOf]
      refine memK_int (k := i) ct (by omega) fun N3 q1 q2 q3 => ?_
      simp (disch := omega) only [g1, g2, g4, g5, g6, g10, g21, g22, g23, ↓SXd, SXu, slBounds, ↓sop, ↓aop, ↓reduceIte, LV.cells, AOp.dst, LV.I, LV.B, LV.U, LV.S, LV.nil, Nat.reduceEqDiff, Nat.reduceAdd, Nat.reduceMul, Nat.reduceSub, Nat.reduceLeDiff, Nat.reduceBEq, Nat.reduceDiv, Nat.reduceMod, Int.reduceToNat, Int.reduceLT, Int.reduceLE, Int.reduceAdd, Int.reduceSub, Int.reduceMul, Int.reduceEq, Int.reduceNeg, reduceCtorEq, resV, resAll, ARes.ev, LV.flat, ite_true, ite_false, exists_eq_left', exists_eq_left, keyOf, implies_true, fillC, capOf]
      rw [hst] at q2
      exact ⟨m2 - 1, by omega, i + 1, by omega, pre_step p2 (by omega) (j := 0) q1 q3, live_step c2 (by omega) q3, live_step c4 (by omega) q3, live_step c5 (by omega) q3, q2, fun j hjd => by
        obtain ⟨a, h1, h2, h3, h4⟩ := cj j hjd
        exact ⟨a, h1, h2, h3, live_step h4 h3 q3⟩, g1, g2, g4, g5, g6, g10, g21, g22, eqI (natI _)⟩
    · simp (disch := omega) only [g1, g2, g4, g5, g6, g10, g21, g22, g23, ↓SXd, SXu, slBounds, ↓sop, ↓aop, ↓reduceIte, LV.cells, AOp.dst, LV.I, LV.B, LV.U, LV.S, LV.nil, Nat.reduceEqDiff, Nat.reduceAdd, Nat.reduceMul, Nat.reduceSub, Nat.reduceLeDiff, Nat.reduceBEq, Nat.reduceDiv, Nat.reduceMod, Int.reduceToNat, Int.reduceLT, Int.reduceLE, Int.reduceAdd, Int.reduceSub, Int.reduceMul, Int.reduceEq, Int.reduceNeg, reduceCtorEq, resV, resAll, ARes.ev, LV.flat, ite_true, ite_false, exists_eq_left', exists_eq_left, keyOf, implies_true, fillC, capOf]
      have : i = (viewL x y z d (pick x y z p)).length := by omega
      subst this
      have hfin : onesTo (viewL x y z d (pick x y z p)).length (viewL x y z d (pick x y z p)) = shdOf x y z d (pick x y z p) := by unfold onesTo shdOf; simp
      rw [hfin] at ct
      have hsl : (viewL x y z d (pick x y z p)).length = (shdOf x y z d (pick x y z p)).length := by unfold shdOf; rw [onesL_len]
      rw [hsl] at hset
      have hall : ∀ j, j < d + 1 → ∃ a, V[j]? = some (.ref a 0 (shdOf x y z j (pick x y z p)).length) ∧ M.length + 2 < a ∧ (j = d → a = t) ∧ (j < d → a ≠ t) ∧ Live M2 a (.row (intL (shdOf x y z j (pick x y z p))) true 1) := fun j hjd => by
        rcases Nat.lt_or_ge j d with h | h
        · obtain ⟨a, h1, h2, h3, h4⟩ := cj j h
          exact ⟨a, h1, h2, by omega, fun _ => h3, h4⟩
        · have : j = d := by omega
          subst this
          exact ⟨t, hset, by omega, fun _ => rfl, by omega, ct⟩
      refine ⟨m - 1, by omega, d + 1, V, by omega, p2, c2, c4, c5, hVl, g1, g2, g4, g5, eqI (natI _), fun j hjd => ?_, ?_⟩
      · obtain ⟨a, h1, h2, _, _, h4⟩ := hall j hjd
        exact ⟨a, h1, h2, h4⟩
      · intro i j a b n m hi hj' hij ha hb
        obtain ⟨a', h1, _, h3, h4, _⟩ := hall i hi
        obtain ⟨b', k1, _, k3, k4, _⟩ := hall j hj'
        rw [h1] at ha
        rw [k1] at hb
        simp only [Option.some.injEq, LV.ref.injEq] at ha hb
        rcases Nat.lt_or_ge i d with hi1 | hi1
        · rcases Nat.lt_or_ge j d with hj1 | hj1
          · have hVi : V[i]? = vs[i]? := by rw [← hV, List.getElem?_set_ne (by omega)]
            have hVj : V[j]? = vs[j]? := by rw [← hV, List.getElem?_set_ne (by omega)]
            rw [hVi, ← ha.1.symm] at h1
            rw [hVj, ← hb.1.symm] at k1
            rw [← ha.1, ← hb.1]
            exact hne i j a' b' _ _ hi1 hj1 hij (by rw [← hVi, ‹V[i]? = vs[i]?›]; rw [ha.1]; exact h1) (by rw [hb.1]; exact k1)
          · have := h4 hi1; have := k3 (by omega); omega
        · have := h3 (by omega); have := k4 (by omega); omega
  · simp (disch := omega) only [f1, f2, f4, f5, f10, ↓SXd, SXu, slBounds, ↓sop, ↓aop, ↓reduceIte, LV.cells, AOp.dst, LV.I, LV.B, LV.U, LV.S, LV.nil, Nat.reduceEqDiff, Nat.reduceAdd, Nat.reduceMul, Nat.reduceSub, Nat.reduceLeDiff, Nat.reduceBEq, Nat.reduceDiv, Nat.reduceMod, Int.reduceToNat, Int.reduceLT, Int.reduceLE, Int.reduceAdd, Int.reduceSub, Int.reduceMul, Int.reduceEq, Int.reduceNeg, reduceCtorEq, resV, resAll, ARes.ev, LV.flat, ite_true, ite_false, exists_eq_left', exists_eq_left, keyOf, implies_true, fillC, capOf]
    have : d = 3 := by omega
    subst this
    obtain ⟨a0, e0, _, l0⟩ := hj 0 (by omega)
    obtain ⟨a1, e1, _, l1⟩ := hj 1 (by omega)
    obtain ⟨a2, e2, _, l2⟩ := hj 2 (by omega)
    have n01 := hne 0 1 _ _ _ _ (by omega) (by omega) (by omega) e0 e1
    have n02 := hne 0 2 _ _ _ _ (by omega) (by omega) (by omega) e0 e2
    have n12 := hne 1 2 _ _ _ _ (by omega) (by omega) (by omega) e1 e2
    simp (disch := omega) only [f1, f2, f4, f5, f10, b2.cell, b5.cell, e0, e1, e2, splice, ↓SXd, SXu, slBounds, ↓sop, ↓aop, ↓reduceIte, LV.cells, AOp.dst, LV.I, LV.B, LV.U, LV.S, LV.nil, Nat.reduceEqDiff, Nat.reduceAdd, Nat.reduceMul, Nat.reduceSub, Nat.reduceLeDiff, Nat.reduceBEq, Nat.reduceDiv, Nat.reduceMod, Int.reduceToNat, Int.reduceLT, Int.reduceLE, Int.reduceAdd, Int.reduceSub, Int.reduceMul, Int.reduceEq, Int.reduceNeg, reduceCtorEq, resV, resAll, ARes.ev, LV.flat, ite_true, ite_false, exists_eq_left', exists_eq_left, keyOf, implies_true, fillC, capOf]
    refine memK_box b4 (by simp) fun N3 q1 q2 q3 => ?_
    simp (disch := omega) only [f1, f2, f4, f5, f10, q2.cells, ↓SXd, SXu, slBounds, ↓sop, ↓aop, ↓reduceIte, LV.cells, AOp.dst, LV.I, LV.B, LV.U, LV.S, LV.nil, Nat.reduceEqDiff, Nat.reduceAdd, Nat.reduceMul, Nat.reduceSub, Nat.reduceLeDiff, Nat.reduceBEq, Nat.reduceDiv, Nat.reduceMod, Int.reduceToNat, Int.reduceLT, Int.reduceLE, Int.reduceAdd, Int.reduceSub, Int.reduceMul, Int.reduceEq, Int.reduceNeg, reduceCtorEq, resV, resAll, ARes.ev, LV.flat, ite_true, ite_false, exists_eq_left', exists_eq_left, keyOf, implies_true, fillC, capOf]
    exact ⟨a2, a1, a0, rfl, by omega, by omega, by omega, Ne.symm n12, Ne.symm n02, Ne.symm n01, live_step l2 (by omega) q3, live_step l1 (by omega) q3, live_step l0 (by omega) q3, pre_step hpre (by omega) (j := 0) q1 q3⟩
end Go.Ab

/- Contracts: whether a heap has a shadow, the program's side; IsShadowOf, both sides. -/
namespace Go.Ab
open Go
set_option linter.unusedSimpArgs false
set_option linter.unusedVariables false
set_option maxRecDepth 20000

theorem beqXYZ {a b c a' b' c' : Int} : (a == a' && (b == b' && c == c')) = decide (a = a' ∧ b = b' ∧ c = c') := by
  rw [Bool.eq_iff_iff]; simp
theorem g_Shadow_same {x y z x' y' z' : Int} {t o t' o' t2 o2 u v u' v' u2 v2 : Nat} {tp fr sd tp' fr' sd' : List Int} {M : Mem} (h1 : Ints M t o tp) (h2 : Ints M t' o' fr) (h3 : Ints M t2 o2 sd) (l1 : tp.length ≤ 1000000000) (l2 : fr.length ≤ 1000000000) (l3 : sd.length ≤ 1000000000)
    (k1 : Ints M u v tp') (k2 : Ints M u' v' fr') (k3 : Ints M u2 v2 sd') (m1 : tp'.length ≤ 1000000000) (m2 : fr'.length ≤ 1000000000) (m3 : sd'.length ≤ 1000000000) :
    CallsTo PG F.impl_Shadow_same [.agg [.I x, .I y, .I z, .ref t o tp.length, .ref t' o' fr.length, .ref t2 o2 sd.length], .agg [.I x', .I y', .I z', .ref u v tp'.length, .ref u' v' fr'.length, .ref u2 v2 sd'.length]] M
      (.B (decide ((x = x' ∧ y = y' ∧ z = z') ∧ tp = tp' ∧ fr = fr' ∧ sd = sd'))) M := by
  refine calls_run K.impl_Shadow_same rfl ?_
  simp (disch := omega) only [C.impl_Shadow_same, ↓SXd, SXu, slBounds, ↓sop, ↓aop, ↓reduceIte, LV.cells, AOp.dst, LV.I, LV.B, LV.U, LV.S, LV.nil, Nat.reduceEqDiff, Nat.reduceAdd, Nat.reduceMul, Nat.reduceSub, Nat.reduceLeDiff, Nat.reduceBEq, Nat.reduceDiv, Nat.reduceMod, Int.reduceToNat, Int.reduceLT, Int.reduceLE, Int.reduceAdd, Int.reduceSub, Int.reduceMul, Int.reduceEq, Int.reduceNeg, reduceCtorEq, resV, resAll, ARes.ev, LV.flat, ite_true, ite_false, exists_eq_left', exists_eq_left, keyOf, implies_true, fillC, capOf]
  refine callK_of (g_Shadow_box) ?_
  simp (disch := omega) only [↓SXd, SXu, slBounds, ↓sop, ↓aop, ↓reduceIte, LV.cells, AOp.dst, LV.I, LV.B, LV.U, LV.S, LV.nil, Nat.reduceEqDiff, Nat.reduceAdd, Nat.reduceMul, Nat.reduceSub, Nat.reduceLeDiff, Nat.reduceBEq, Nat.reduceDiv, Nat.reduceMod, Int.reduceToNat, Int.reduceLT, Int.reduceLE, Int.reduceAdd, Int.reduceSub, Int.reduceMul, Int.reduceEq, Int.reduceNeg, reduceCtorEq, resV, resAll, ARes.ev, LV.flat, ite_true, ite_false, exists_eq_left', exists_eq_left, keyOf, implies_true, fillC, capOf]
  refine callK_of (g_Shadow_box) ?_
  simp (disch := omega) only [eqV, eqC, if_true, ite_true, Bool.and_true, ↓SXd, SXu, slBounds, ↓sop, ↓aop, ↓reduceIte, LV.cells, AOp.dst, LV.I, LV.B, LV.U, LV.S, LV.nil, Nat.reduceEqDiff, Nat.reduceAdd, Nat.reduceMul, Nat.reduceSub, Nat.reduceLeDiff, Nat.reduceBEq, Nat.reduceDiv, Nat.reduceMod, Int.reduceToNat, Int.reduceLT, Int.reduceLE, Int.reduceAdd, Int.reduceSub, Int.reduceMul, Int.reduceEq, Int.reduceNeg, reduceCtorEq, resV, resAll, ARes.ev, LV.flat, ite_true, ite_false, exists_eq_left', exists_eq_left, keyOf, implies_true, fillC, capOf]
  rw [beqXYZ]
  by_cases hd : x = x' ∧ y = y' ∧ z = z'
  · simp (disch := omega) only [hd, true_and, ↓SXd, SXu, slBounds, ↓sop, ↓aop, ↓reduceIte, LV.cells, AOp.dst, LV.I, LV.B, LV.U, LV.S, LV.nil, Nat.reduceEqDiff, Nat.reduceAdd, Nat.reduceMul, Nat.reduceSub, Nat.reduceLeDiff, Nat.reduceBEq, Nat.reduceDiv, Nat.reduceMod, Int.reduceToNat, Int.reduceLT, Int.reduceLE, Int.reduceAdd, Int.reduceSub, Int.reduceMul, Int.reduceEq, Int.reduceNeg, reduceCtorEq, resV, resAll, ARes.ev, LV.flat, ite_true, ite_false, exists_eq_left', exists_eq_left, keyOf, implies_true, fillC, capOf]
    refine callK_of (g_equalI h1.app k1.app l1 m1) ?_
    simp (disch := omega) only [↓SXd, SXu, slBounds, ↓sop, ↓aop, ↓reduceIte, LV.cells, AOp.dst, LV.I, LV.B, LV.U, LV.S, LV.nil, Nat.reduceEqDiff, Nat.reduceAdd, Nat.reduceMul, Nat.reduceSub, Nat.reduceLeDiff, Nat.reduceBEq, Nat.reduceDiv, Nat.reduceMod, Int.reduceToNat, Int.reduceLT, Int.reduceLE, Int.reduceAdd, Int.reduceSub, Int.reduceMul, Int.reduceEq, Int.reduceNeg, reduceCtorEq, resV, resAll, ARes.ev, LV.flat, ite_true, ite_false, exists_eq_left', exists_eq_left, keyOf, implies_true, fillC, capOf]
    by_cases e1 : tp = tp'
    · simp (disch := omega) only [e1, true_and, ↓SXd, SXu, slBounds, ↓sop, ↓aop, ↓reduceIte, LV.cells, AOp.dst, LV.I, LV.B, LV.U, LV.S, LV.nil, Nat.reduceEqDiff, Nat.reduceAdd, Nat.reduceMul, Nat.reduceSub, Nat.reduceLeDiff, Nat.reduceBEq, Nat.reduceDiv, Nat.reduceMod, Int.reduceToNat, Int.reduceLT, Int.reduceLE, Int.reduceAdd, Int.reduceSub, Int.reduceMul, Int.reduceEq, Int.reduceNeg, reduceCtorEq, resV, resAll, ARes.ev, LV.flat, ite_true, ite_false, exists_eq_left', exists_eq_left, keyOf, implies_true, fillC, capOf]
      refine callK_of (g_equalI h2.app k2.app l2 m2) ?_
      simp (disch := omega) only [↓SXd, SXu, slBounds, ↓sop, ↓aop, ↓reduceIte, LV.cells, AOp.dst, LV.I, LV.B, LV.U, LV.S, LV.nil, Nat.reduceEqDiff, Nat.reduceAdd, Nat.reduceMul, Nat.reduceSub, Nat.reduceLeDiff, Nat.reduceBEq, Nat.reduceDiv, Nat.reduceMod, Int.reduceToNat, Int.reduceLT, Int.reduceLE, Int.reduceAdd, Int.reduceSub, Int.reduceMul, Int.reduceEq, Int.reduceNeg, reduceCtorEq, resV, resAll, ARes.ev, LV.flat, ite_true, ite_false, exists_eq_left', exists_eq_left, keyOf, implies_true, fillC, capOf]
      by_cases e2 : fr = fr'
      · simp (disch := omega) only [e2, true_and, ↓SXd, SXu, slBounds, ↓sop, ↓aop, ↓reduceIte, LV.cells, AOp.dst, LV.I, LV.B, LV.U, LV.S, LV.nil, Nat.reduceEqDiff, Nat.reduceAdd, Nat.reduceMul, Nat.reduceSub, Nat.reduceLeDiff, Nat.reduceBEq, Nat.reduceDiv, Nat.reduceMod, Int.reduceToNat, Int.reduceLT, Int.reduceLE, Int.reduceAdd, Int.reduceSub, Int.reduceMul, Int.reduceEq, Int.reduceNeg, reduceCtorEq, resV, resAll, ARes.ev, LV.flat, ite_true, ite_false, exists_eq_left', exists_eq_left, keyOf, implies_true, fillC, capOf]
        refine callK_of (g_equalI h3.app k3.app l3 m3) ?_
        simp (disch := omega) only [↓SXd, SXu, slBounds, ↓sop, ↓aop, ↓reduceIte, LV.cells, AOp.dst, LV.I, LV.B, LV.U, LV.S, LV.nil, Nat.reduceEqDiff, Nat.reduceAdd, Nat.reduceMul, Nat.reduceSub, Nat.reduceLeDiff, Nat.reduceBEq, Nat.reduceDiv, Nat.reduceMod, Int.reduceToNat, Int.reduceLT, Int.reduceLE, Int.reduceAdd, Int.reduceSub, Int.reduceMul, Int.reduceEq, Int.reduceNeg, reduceCtorEq, resV, resAll, ARes.ev, LV.flat, ite_true, ite_false, exists_eq_left', exists_eq_left, keyOf, implies_true, fillC, capOf]
        exact cmp_drop rfl
      · simp (disch := omega) only [e2, false_and, ↓SXd, SXu, slBounds, ↓sop, ↓aop, ↓reduceIte, LV.cells, AOp.dst, LV.I, LV.B, LV.U, LV.S, LV.nil, Nat.reduceEqDiff, Nat.reduceAdd, Nat.reduceMul, Nat.reduceSub, Nat.reduceLeDiff, Nat.reduceBEq, Nat.reduceDiv, Nat.reduceMod, Int.reduceToNat, Int.reduceLT, Int.reduceLE, Int.reduceAdd, Int.reduceSub, Int.reduceMul, Int.reduceEq, Int.reduceNeg, reduceCtorEq, resV, resAll, ARes.ev, LV.flat, ite_true, ite_false, exists_eq_left', exists_eq_left, keyOf, implies_true, fillC, capOf]
        exact cmp_drop rfl
    · simp (disch := omega) only [e1, false_and, ↓SXd, SXu, slBounds, ↓sop, ↓aop, ↓reduceIte, LV.cells, AOp.dst, LV.I, LV.B, LV.U, LV.S, LV.nil, Nat.reduceEqDiff, Nat.reduceAdd, Nat.reduceMul, Nat.reduceSub, Nat.reduceLeDiff, Nat.reduceBEq, Nat.reduceDiv, Nat.reduceMod, Int.reduceToNat, Int.reduceLT, Int.reduceLE, Int.reduceAdd, Int.reduceSub, Int.reduceMul, Int.reduceEq, Int.reduceNeg, reduceCtorEq, resV, resAll, ARes.ev, LV.flat, ite_true, ite_false, exists_eq_left', exists_eq_left, keyOf, implies_true, fillC, capOf]
      exact cmp_drop rfl
  · simp (disch := omega) only [hd, false_and, ↓SXd, SXu, slBounds, ↓sop, ↓aop, ↓reduceIte, LV.cells, AOp.dst, LV.I, LV.B, LV.U, LV.S, LV.nil, Nat.reduceEqDiff, Nat.reduceAdd, Nat.reduceMul, Nat.reduceSub, Nat.reduceLeDiff, Nat.reduceBEq, Nat.reduceDiv, Nat.reduceMod, Int.reduceToNat, Int.reduceLT, Int.reduceLE, Int.reduceAdd, Int.reduceSub, Int.reduceMul, Int.reduceEq, Int.reduceNeg, reduceCtorEq, resV, resAll, ARes.ev, LV.flat, ite_true, ite_false, exists_eq_left', exists_eq_left, keyOf, implies_true, fillC, capOf]
    exact cmp_drop rfl
section
variable {x y z : Int} {t o t' o' t2 o2 : Nat} {tp fr sd : List Int} {M : Mem} (h1 : Ints M t o tp) (h2 : Ints M t' o' fr) (h3 : Ints M t2 o2 sd) (l1 : tp.length ≤ 1000000000) (l2 : fr.length ≤ 1000000000) (l3 : sd.length ≤ 1000000000)
include h1 h2 h3 l1 l2 l3
theorem g_isOf {p : Cell → Bool} (hS : Sides x y z) :
    CallsR PG F.impl_Shadow_isOf [.agg [.I x, .I y, .I z, .ref t o tp.length, .ref t' o' fr.length, .ref t2 o2 sd.length], .W (bs x y z p)] M fun v N => v = .B (decide (HasShd x y z tp fr sd (pick x y z p))) ∧ Pre M N := by
  have q2 := lines_le hS (d := 2) (by omega)
  have q1 := lines_le hS (d := 1) (by omega)
  have q0 := lines_le hS (d := 0) (by omega)
  have k2 := shdOf_len (x := x) (y := y) (z := z) (d := 2) (cs := pick x y z p)
  have k1 := shdOf_len (x := x) (y := y) (z := z) (d := 1) (cs := pick x y z p)
  have k0 := shdOf_len (x := x) (y := y) (z := z) (d := 0) (cs := pick x y z p)
  refine callsR_run K.impl_Shadow_isOf rfl ?_
  simp (disch := omega) only [C.impl_Shadow_isOf, ↓SXd, SXu, slBounds, ↓sop, ↓aop, ↓reduceIte, LV.cells, AOp.dst, LV.I, LV.B, LV.U, LV.S, LV.nil, Nat.reduceEqDiff, Nat.reduceAdd, Nat.reduceMul, Nat.reduceSub, Nat.reduceLeDiff, Nat.reduceBEq, Nat.reduceDiv, Nat.reduceMod, Int.reduceToNat, Int.reduceLT, Int.reduceLE, Int.reduceAdd, Int.reduceSub, Int.reduceMul, Int.reduceEq, Int.reduceNeg, reduceCtorEq, resV, resAll, ARes.ev, LV.flat, ite_true, ite_false, exists_eq_left', exists_eq_left, keyOf, implies_true, fillC, capOf]
  refine callK_of (g_Shadow_box) ?_
  simp (disch := omega) only [↓SXd, SXu, slBounds, ↓sop, ↓aop, ↓reduceIte, LV.cells, AOp.dst, LV.I, LV.B, LV.U, LV.S, LV.nil, Nat.reduceEqDiff, Nat.reduceAdd, Nat.reduceMul, Nat.reduceSub, Nat.reduceLeDiff, Nat.reduceBEq, Nat.reduceDiv, Nat.reduceMod, Int.reduceToNat, Int.reduceLT, Int.reduceLE, Int.reduceAdd, Int.reduceSub, Int.reduceMul, Int.reduceEq, Int.reduceNeg, reduceCtorEq, resV, resAll, ARes.ev, LV.flat, ite_true, ite_false, exists_eq_left', exists_eq_left, keyOf, implies_true, fillC, capOf]
  refine callR_of (g_shadow hS) ?_
  rintro _ N ⟨a, b, c, rfl, ha, hb, hc, _, _, _, la, lb, lc, hp⟩
  have hM : Pre M N := (Pre.app _ _).trans hp
  simp (disch := omega) only [(keepL_pr hp), ↓SXd, SXu, slBounds, ↓sop, ↓aop, ↓reduceIte, LV.cells, AOp.dst, LV.I, LV.B, LV.U, LV.S, LV.nil, Nat.reduceEqDiff, Nat.reduceAdd, Nat.reduceMul, Nat.reduceSub, Nat.reduceLeDiff, Nat.reduceBEq, Nat.reduceDiv, Nat.reduceMod, Int.reduceToNat, Int.reduceLT, Int.reduceLE, Int.reduceAdd, Int.reduceSub, Int.reduceMul, Int.reduceEq, Int.reduceNeg, reduceCtorEq, resV, resAll, ARes.ev, LV.flat, ite_true, ite_false, exists_eq_left', exists_eq_left, keyOf, implies_true, fillC, capOf]
  refine callK_of (g_Shadow_same (h1.pre hM) (h2.pre hM) (h3.pre hM) l1 l2 l3 la.has lb.has lc.has (by omega) (by omega) (by omega)) ?_
  simp (disch := omega) only [↓SXd, SXu, slBounds, ↓sop, ↓aop, ↓reduceIte, LV.cells, AOp.dst, LV.I, LV.B, LV.U, LV.S, LV.nil, Nat.reduceEqDiff, Nat.reduceAdd, Nat.reduceMul, Nat.reduceSub, Nat.reduceLeDiff, Nat.reduceBEq, Nat.reduceDiv, Nat.reduceMod, Int.reduceToNat, Int.reduceLT, Int.reduceLE, Int.reduceAdd, Int.reduceSub, Int.reduceMul, Int.reduceEq, Int.reduceNeg, reduceCtorEq, resV, resAll, ARes.ev, LV.flat, ite_true, ite_false, exists_eq_left', exists_eq_left, keyOf, implies_true, fillC, capOf]
  refine ⟨eqB (decide_eq_decide.2 ⟨fun h => ⟨h.1.symm, h.2.1.symm, h.2.2.symm⟩, fun h => ⟨h.1.symm, h.2.1.symm, h.2.2.symm⟩⟩), hM⟩
theorem g_fits (hok : ShdOK x y z tp fr sd) :
    CallsR PG F.impl_Shadow_fits [.agg [.I x, .I y, .I z, .ref t o tp.length, .ref t' o' fr.length, .ref t2 o2 sd.length]] M fun v N => v = .B (decide (HasShd x y z tp fr sd (pick x y z (allowedB y z tp fr sd)))) ∧ Pre M N := by
  refine callsR_run K.impl_Shadow_fits rfl ?_
  simp (disch := omega) only [C.impl_Shadow_fits, ↓SXd, SXu, slBounds, ↓sop, ↓aop, ↓reduceIte, LV.cells, AOp.dst, LV.I, LV.B, LV.U, LV.S, LV.nil, Nat.reduceEqDiff, Nat.reduceAdd, Nat.reduceMul, Nat.reduceSub, Nat.reduceLeDiff, Nat.reduceBEq, Nat.reduceDiv, Nat.reduceMod, Int.reduceToNat, Int.reduceLT, Int.reduceLE, Int.reduceAdd, Int.reduceSub, Int.reduceMul, Int.reduceEq, Int.reduceNeg, reduceCtorEq, resV, resAll, ARes.ev, LV.flat, ite_true, ite_false, exists_eq_left', exists_eq_left, keyOf, implies_true, fillC, capOf]
  refine callK_of (g_allowed h1.app h2.app h3.app hok) ?_
  simp (disch := omega) only [↓SXd, SXu, slBounds, ↓sop, ↓aop, ↓reduceIte, LV.cells, AOp.dst, LV.I, LV.B, LV.U, LV.S, LV.nil, Nat.reduceEqDiff, Nat.reduceAdd, Nat.reduceMul, Nat.reduceSub, Nat.reduceLeDiff, Nat.reduceBEq, Nat.reduceDiv, Nat.reduceMod, Int.reduceToNat, Int.reduceLT, Int.reduceLE, Int.reduceAdd, Int.reduceSub, Int.reduceMul, Int.reduceEq, Int.reduceNeg, reduceCtorEq, resV, resAll, ARes.ev, LV.flat, ite_true, ite_false, exists_eq_left', exists_eq_left, keyOf, implies_true, fillC, capOf]
  refine callR_of (g_isOf h1.app h2.app h3.app l1 l2 l3 hok.1) ?_
  rintro _ N ⟨rfl, hp⟩
  simp (disch := omega) only [↓SXd, SXu, slBounds, ↓sop, ↓aop, ↓reduceIte, LV.cells, AOp.dst, LV.I, LV.B, LV.U, LV.S, LV.nil, Nat.reduceEqDiff, Nat.reduceAdd, Nat.reduceMul, Nat.reduceSub, Nat.reduceLeDiff, Nat.reduceBEq, Nat.reduceDiv, Nat.reduceMod, Int.reduceToNat, Int.reduceLT, Int.reduceLE, Int.reduceAdd, Int.reduceSub, Int.reduceMul, Int.reduceEq, Int.reduceNeg, reduceCtorEq, resV, resAll, ARes.ev, LV.flat, ite_true, ite_false, exists_eq_left', exists_eq_left, keyOf, implies_true, fillC, capOf]
  exact ⟨rfl, (Pre.app _ _).trans hp⟩
/-- A valid shadow whose lists fit together. -/
theorem g_isFitting :
    CallsR PG F.impl_isFitting [.agg [.I x, .I y, .I z, .ref t o tp.length, .ref t' o' fr.length, .ref t2 o2 sd.length]] M fun v N => v = .B (decide (ShdOK x y z tp fr sd ∧ HasShd x y z tp fr sd (pick x y z (allowedB y z tp fr sd)))) ∧ Pre M N := by
  refine callsR_run K.impl_isFitting rfl ?_
  simp (disch := omega) only [C.impl_isFitting, ↓SXd, SXu, slBounds, ↓sop, ↓aop, ↓reduceIte, LV.cells, AOp.dst, LV.I, LV.B, LV.U, LV.S, LV.nil, Nat.reduceEqDiff, Nat.reduceAdd, Nat.reduceMul, Nat.reduceSub, Nat.reduceLeDiff, Nat.reduceBEq, Nat.reduceDiv, Nat.reduceMod, Int.reduceToNat, Int.reduceLT, Int.reduceLE, Int.reduceAdd, Int.reduceSub, Int.reduceMul, Int.reduceEq, Int.reduceNeg, reduceCtorEq, resV, resAll, ARes.ev, LV.flat, ite_true, ite_false, exists_eq_left', exists_eq_left, keyOf, implies_true, fillC, capOf]
  refine callK_of (g_IsShadow h1.app h2.app h3.app l1 l2 l3) ?_
  simp (disch := omega) only [↓SXd, SXu, slBounds, ↓sop, ↓aop, ↓reduceIte, LV.cells, AOp.dst, LV.I, LV.B, LV.U, LV.S, LV.nil, Nat.reduceEqDiff, Nat.reduceAdd, Nat.reduceMul, Nat.reduceSub, Nat.reduceLeDiff, Nat.reduceBEq, Nat.reduceDiv, Nat.reduceMod, Int.reduceToNat, Int.reduceLT, Int.reduceLE, Int.reduceAdd, Int.reduceSub, Int.reduceMul, Int.reduceEq, Int.reduceNeg, reduceCtorEq, resV, resAll, ARes.ev, LV.flat, ite_true, ite_false, exists_eq_left', exists_eq_left, keyOf, implies_true, fillC, capOf]
  by_cases hok : ShdOK x y z tp fr sd
  · simp (disch := omega) only [hok, ↓SXd, SXu, slBounds, ↓sop, ↓aop, ↓reduceIte, LV.cells, AOp.dst, LV.I, LV.B, LV.U, LV.S, LV.nil, Nat.reduceEqDiff, Nat.reduceAdd, Nat.reduceMul, Nat.reduceSub, Nat.reduceLeDiff, Nat.reduceBEq, Nat.reduceDiv, Nat.reduceMod, Int.reduceToNat, Int.reduceLT, Int.reduceLE, Int.reduceAdd, Int.reduceSub, Int.reduceMul, Int.reduceEq, Int.reduceNeg, reduceCtorEq, resV, resAll, ARes.ev, LV.flat, ite_true, ite_false, exists_eq_left', exists_eq_left, keyOf, implies_true, fillC, capOf]
    refine callR_of (g_fits h1.app h2.app h3.app l1 l2 l3 hok) ?_
    rintro _ N ⟨rfl, hp⟩
    simp (disch := omega) only [↓SXd, SXu, slBounds, ↓sop, ↓aop, ↓reduceIte, LV.cells, AOp.dst, LV.I, LV.B, LV.U, LV.S, LV.nil, Nat.reduceEqDiff, Nat.reduceAdd, Nat.reduceMul, Nat.reduceSub, Nat.reduceLeDiff, Nat.reduceBEq, Nat.reduceDiv, Nat.reduceMod, Int.reduceToNat, Int.reduceLT, Int.reduceLE, Int.reduceAdd, Int.reduceSub, Int.reduceMul, Int.reduceEq, Int.reduceNeg, reduceCtorEq, resV, resAll, ARes.ev, LV.flat, ite_true, ite_false, exists_eq_left', exists_eq_left, keyOf, implies_true, fillC, capOf]
    exact ⟨rfl, (Pre.app _ _).trans hp⟩
  · simp (disch := omega) only [hok, false_and, ↓SXd, SXu, slBounds, ↓sop, ↓aop, ↓reduceIte, LV.cells, AOp.dst, LV.I, LV.B, LV.U, LV.S, LV.nil, Nat.reduceEqDiff, Nat.reduceAdd, Nat.reduceMul, Nat.reduceSub, Nat.reduceLeDiff, Nat.reduceBEq, Nat.reduceDiv, Nat.reduceMod, Int.reduceToNat, Int.reduceLT, Int.reduceLE, Int.reduceAdd, Int.reduceSub, Int.reduceMul, Int.reduceEq, Int.reduceNeg, reduceCtorEq, resV, resAll, ARes.ev, LV.flat, ite_true, ite_false, exists_eq_left', exists_eq_left, keyOf, implies_true, fillC, capOf]
    exact ⟨rfl, Pre.app _ _⟩

/-- What IsShadowOf returns. -/
noncomputable def isShdOf (x y z : Int) (tp fr sd : List Int) (x' y' z' : Int) (cs : List Cell) : LV := .tup [.B (decide ((ShdOK x y z tp fr sd ∧ HeapOK x' y' z' cs) ∧ (x = x' ∧ y = y' ∧ z = z') ∧ HasShd x y z tp fr sd cs)), .B (decide (ShdOK x y z tp fr sd ∧ HeapOK x' y' z' cs))]
variable {x' y' z' : Int} {q r : Nat} {cs : List Cell} (h : Tri M q r cs) (hn : cs.length ≤ 1000000000)
include h hn
theorem h_sIsShadowOf : CallsTo PG F.spec_IsShadowOf [.agg [.I x, .I y, .I z, .ref t o tp.length, .ref t' o' fr.length, .ref t2 o2 sd.length], .agg [.I x', .I y', .I z', .ref q r cs.length]] M (isShdOf x y z tp fr sd x' y' z' cs) M := by
  unfold isShdOf
  refine calls_run K.spec_IsShadowOf rfl ?_
  simp (disch := omega) only [C.spec_IsShadowOf, ↓SXd, SXu, slBounds, ↓sop, ↓aop, ↓reduceIte, LV.cells, AOp.dst, LV.I, LV.B, LV.U, LV.S, LV.nil, Nat.reduceEqDiff, Nat.reduceAdd, Nat.reduceMul, Nat.reduceSub, Nat.reduceLeDiff, Nat.reduceBEq, Nat.reduceDiv, Nat.reduceMod, Int.reduceToNat, Int.reduceLT, Int.reduceLE, Int.reduceAdd, Int.reduceSub, Int.reduceMul, Int.reduceEq, Int.reduceNeg, reduceCtorEq, resV, resAll, ARes.ev, LV.flat, ite_true, ite_false, exists_eq_left', exists_eq_left, keyOf, implies_true, fillC, capOf]
  refine callK_of (h_l3Shadow h1.app h2.app h3.app l1 l2 l3) ?_
  simp (disch := omega) only [↓SXd, SXu, slBounds, ↓sop, ↓aop, ↓reduceIte, LV.cells, AOp.dst, LV.I, LV.B, LV.U, LV.S, LV.nil, Nat.reduceEqDiff, Nat.reduceAdd, Nat.reduceMul, Nat.reduceSub, Nat.reduceLeDiff, Nat.reduceBEq, Nat.reduceDiv, Nat.reduceMod, Int.reduceToNat, Int.reduceLT, Int.reduceLE, Int.reduceAdd, Int.reduceSub, Int.reduceMul, Int.reduceEq, Int.reduceNeg, reduceCtorEq, resV, resAll, ARes.ev, LV.flat, ite_true, ite_false, exists_eq_left', exists_eq_left, keyOf, implies_true, fillC, capOf]
  by_cases hok : ShdOK x y z tp fr sd
  · simp (disch := omega) only [hok, true_and, ↓SXd, SXu, slBounds, ↓sop, ↓aop, ↓reduceIte, LV.cells, AOp.dst, LV.I, LV.B, LV.U, LV.S, LV.nil, Nat.reduceEqDiff, Nat.reduceAdd, Nat.reduceMul, Nat.reduceSub, Nat.reduceLeDiff, Nat.reduceBEq, Nat.reduceDiv, Nat.reduceMod, Int.reduceToNat, Int.reduceLT, Int.reduceLE, Int.reduceAdd, Int.reduceSub, Int.reduceMul, Int.reduceEq, Int.reduceNeg, reduceCtorEq, resV, resAll, ARes.ev, LV.flat, ite_true, ite_false, exists_eq_left', exists_eq_left, keyOf, implies_true, fillC, capOf]
    refine callK_of (h_l2Heap h.app hn) ?_
    simp (disch := omega) only [↓SXd, SXu, slBounds, ↓sop, ↓aop, ↓reduceIte, LV.cells, AOp.dst, LV.I, LV.B, LV.U, LV.S, LV.nil, Nat.reduceEqDiff, Nat.reduceAdd, Nat.reduceMul, Nat.reduceSub, Nat.reduceLeDiff, Nat.reduceBEq, Nat.reduceDiv, Nat.reduceMod, Int.reduceToNat, Int.reduceLT, Int.reduceLE, Int.reduceAdd, Int.reduceSub, Int.reduceMul, Int.reduceEq, Int.reduceNeg, reduceCtorEq, resV, resAll, ARes.ev, LV.flat, ite_true, ite_false, exists_eq_left', exists_eq_left, keyOf, implies_true, fillC, capOf]
    by_cases hH : HeapOK x' y' z' cs
    · simp (disch := omega) only [hH, true_and, ↓SXd, SXu, slBounds, ↓sop, ↓aop, ↓reduceIte, LV.cells, AOp.dst, LV.I, LV.B, LV.U, LV.S, LV.nil, Nat.reduceEqDiff, Nat.reduceAdd, Nat.reduceMul, Nat.reduceSub, Nat.reduceLeDiff, Nat.reduceBEq, Nat.reduceDiv, Nat.reduceMod, Int.reduceToNat, Int.reduceLT, Int.reduceLE, Int.reduceAdd, Int.reduceSub, Int.reduceMul, Int.reduceEq, Int.reduceNeg, reduceCtorEq, resV, resAll, ARes.ev, LV.flat, ite_true, ite_false, exists_eq_left', exists_eq_left, keyOf, implies_true, fillC, capOf]
      by_cases e1 : x = x'
      · by_cases e2 : y = y'
        · by_cases e3 : z = z'
          · subst e1 e2 e3
            simp (disch := omega) only [true_and, ↓SXd, SXu, slBounds, ↓sop, ↓aop, ↓reduceIte, LV.cells, AOp.dst, LV.I, LV.B, LV.U, LV.S, LV.nil, Nat.reduceEqDiff, Nat.reduceAdd, Nat.reduceMul, Nat.reduceSub, Nat.reduceLeDiff, Nat.reduceBEq, Nat.reduceDiv, Nat.reduceMod, Int.reduceToNat, Int.reduceLT, Int.reduceLE, Int.reduceAdd, Int.reduceSub, Int.reduceMul, Int.reduceEq, Int.reduceNeg, reduceCtorEq, resV, resAll, ARes.ev, LV.flat, ite_true, ite_false, exists_eq_left', exists_eq_left, keyOf, implies_true, fillC, capOf]
            refine callK_of (h_l3Has h1.app h2.app h3.app l1 l2 l3 h.app hH) ?_
            simp (disch := omega) only [↓SXd, SXu, slBounds, ↓sop, ↓aop, ↓reduceIte, LV.cells, AOp.dst, LV.I, LV.B, LV.U, LV.S, LV.nil, Nat.reduceEqDiff, Nat.reduceAdd, Nat.reduceMul, Nat.reduceSub, Nat.reduceLeDiff, Nat.reduceBEq, Nat.reduceDiv, Nat.reduceMod, Int.reduceToNat, Int.reduceLT, Int.reduceLE, Int.reduceAdd, Int.reduceSub, Int.reduceMul, Int.reduceEq, Int.reduceNeg, reduceCtorEq, resV, resAll, ARes.ev, LV.flat, ite_true, ite_false, exists_eq_left', exists_eq_left, keyOf, implies_true, fillC, capOf]
            exact cmp_drop rfl
          · simp (disch := omega) only [e1, e2, e3, true_and, false_and, ↓SXd, SXu, slBounds, ↓sop, ↓aop, ↓reduceIte, LV.cells, AOp.dst, LV.I, LV.B, LV.U, LV.S, LV.nil, Nat.reduceEqDiff, Nat.reduceAdd, Nat.reduceMul, Nat.reduceSub, Nat.reduceLeDiff, Nat.reduceBEq, Nat.reduceDiv, Nat.reduceMod, Int.reduceToNat, Int.reduceLT, Int.reduceLE, Int.reduceAdd, Int.reduceSub, Int.reduceMul, Int.reduceEq, Int.reduceNeg, reduceCtorEq, resV, resAll, ARes.ev, LV.flat, ite_true, ite_false, exists_eq_left', exists_eq_left, keyOf, implies_true, fillC, capOf]
            exact cmp_drop rfl
        · simp (disch := omega) only [e1, e2, true_and, false_and, ↓SXd, SXu, slBounds, ↓sop, ↓aop, ↓reduceIte, LV.cells, AOp.dst, LV.I, LV.B, LV.U, LV.S, LV.nil, Nat.reduceEqDiff, Nat.reduceAdd, Nat.reduceMul, Nat.reduceSub, Nat.reduceLeDiff, Nat.reduceBEq, Nat.reduceDiv, Nat.reduceMod, Int.reduceToNat, Int.reduceLT, Int.reduceLE, Int.reduceAdd, Int.reduceSub, Int.reduceMul, Int.reduceEq, Int.reduceNeg, reduceCtorEq, resV, resAll, ARes.ev, LV.flat, ite_true, ite_false, exists_eq_left', exists_eq_left, keyOf, implies_true, fillC, capOf]
          exact cmp_drop rfl
      · simp (disch := omega) only [e1, false_and, ↓SXd, SXu, slBounds, ↓sop, ↓aop, ↓reduceIte, LV.cells, AOp.dst, LV.I, LV.B, LV.U, LV.S, LV.nil, Nat.reduceEqDiff, Nat.reduceAdd, Nat.reduceMul, Nat.reduceSub, Nat.reduceLeDiff, Nat.reduceBEq, Nat.reduceDiv, Nat.reduceMod, Int.reduceToNat, Int.reduceLT, Int.reduceLE, Int.reduceAdd, Int.reduceSub, Int.reduceMul, Int.reduceEq, Int.reduceNeg, reduceCtorEq, resV, resAll, ARes.ev, LV.flat, ite_true, ite_false, exists_eq_left', exists_eq_left, keyOf, implies_true, fillC, capOf]
        exact cmp_drop rfl
    · simp (disch := omega) only [hH, false_and, ↓SXd, SXu, slBounds, ↓sop, ↓aop, ↓reduceIte, LV.cells, AOp.dst, LV.I, LV.B, LV.U, LV.S, LV.nil, Nat.reduceEqDiff, Nat.reduceAdd, Nat.reduceMul, Nat.reduceSub, Nat.reduceLeDiff, Nat.reduceBEq, Nat.reduceDiv, Nat.reduceMod, Int.reduceToNat, Int.reduceLT, Int.reduceLE, Int.reduceAdd, Int.reduceSub, Int.reduceMul, Int.reduceEq, Int.reduceNeg, reduceCtorEq, resV, resAll, ARes.ev, LV.flat, ite_true, ite_false, exists_eq_left', exists_eq_left, keyOf, implies_true, fillC, capOf]
      exact cmp_drop rfl
  · simp (disch := omega) only [hok, false_and, ↓SXd, SXu, slBounds, ↓sop, ↓aop, ↓reduceIte, LV.cells, AOp.dst, LV.I, LV.B, LV.U, LV.S, LV.nil, Nat.reduceEqDiff, Nat.reduceAdd, Nat.reduceMul, Nat.reduceSub, Nat.reduceLeDiff, Nat.reduceBEq, Nat.reduceDiv, Nat.reduceMod, Int.reduceToNat, Int.reduceLT, Int.reduceLE, Int.reduceAdd, Int.reduceSub, Int.reduceMul, Int.reduceEq, Int.reduceNeg, reduceCtorEq, resV, resAll, ARes.ev, LV.flat, ite_true, ite_false, exists_eq_left', exists_eq_left, keyOf, implies_true, fillC, capOf]
    exact cmp_drop rfl
theorem g_sIsShadowOf : CallsR PG F.impl_IsShadowOf [.agg [.I x, .I y, .I z, .ref t o tp.length, .ref t' o' fr.length, .ref t2 o2 sd.length], .agg [.I x', .I y', .I z', .ref q r cs.length]] M fun v N => v = isShdOf x y z tp fr sd x' y' z' cs ∧ Pre M N := by
  unfold isShdOf
  refine callsR_run K.impl_IsShadowOf rfl ?_
  simp (disch := omega) only [C.impl_IsShadowOf, ↓SXd, SXu, slBounds, ↓sop, ↓aop, ↓reduceIte, LV.cells, AOp.dst, LV.I, LV.B, LV.U, LV.S, LV.nil, Nat.reduceEqDiff, Nat.reduceAdd, Nat.reduceMul, Nat.reduceSub, Nat.reduceLeDiff, Nat.reduceBEq, Nat.reduceDiv, Nat.reduceMod, Int.reduceToNat, Int.reduceLT, Int.reduceLE, Int.reduceAdd, Int.reduceSub, Int.reduceMul, Int.reduceEq, Int.reduceNeg, reduceCtorEq, resV, resAll, ARes.ev, LV.flat, ite_true, ite_false, exists_eq_left', exists_eq_left, keyOf, implies_true, fillC, capOf]
  refine callK_of (g_IsShadow h1.app h2.app h3.app l1 l2 l3) ?_
  simp (disch := omega) only [↓SXd, SXu, slBounds, ↓sop, ↓aop, ↓reduceIte, LV.cells, AOp.dst, LV.I, LV.B, LV.U, LV.S, LV.nil, Nat.reduceEqDiff, Nat.reduceAdd, Nat.reduceMul, Nat.reduceSub, Nat.reduceLeDiff, Nat.reduceBEq, Nat.reduceDiv, Nat.reduceMod, Int.reduceToNat, Int.reduceLT, Int.reduceLE, Int.reduceAdd, Int.reduceSub, Int.reduceMul, Int.reduceEq, Int.reduceNeg, reduceCtorEq, resV, resAll, ARes.ev, LV.flat, ite_true, ite_false, exists_eq_left', exists_eq_left, keyOf, implies_true, fillC, capOf]
  by_cases hok : ShdOK x y z tp fr sd
  · simp (disch := omega) only [hok, true_and, ↓SXd, SXu, slBounds, ↓sop, ↓aop, ↓reduceIte, LV.cells, AOp.dst, LV.I, LV.B, LV.U, LV.S, LV.nil, Nat.reduceEqDiff, Nat.reduceAdd, Nat.reduceMul, Nat.reduceSub, Nat.reduceLeDiff, Nat.reduceBEq, Nat.reduceDiv, Nat.reduceMod, Int.reduceToNat, Int.reduceLT, Int.reduceLE, Int.reduceAdd, Int.reduceSub, Int.reduceMul, Int.reduceEq, Int.reduceNeg, reduceCtorEq, resV, resAll, ARes.ev, LV.flat, ite_true, ite_false, exists_eq_left', exists_eq_left, keyOf, implies_true, fillC, capOf]
    refine callK_of (g_IsHeap h.app hn) ?_
    simp (disch := omega) only [↓SXd, SXu, slBounds, ↓sop, ↓aop, ↓reduceIte, LV.cells, AOp.dst, LV.I, LV.B, LV.U, LV.S, LV.nil, Nat.reduceEqDiff, Nat.reduceAdd, Nat.reduceMul, Nat.reduceSub, Nat.reduceLeDiff, Nat.reduceBEq, Nat.reduceDiv, Nat.reduceMod, Int.reduceToNat, Int.reduceLT, Int.reduceLE, Int.reduceAdd, Int.reduceSub, Int.reduceMul, Int.reduceEq, Int.reduceNeg, reduceCtorEq, resV, resAll, ARes.ev, LV.flat, ite_true, ite_false, exists_eq_left', exists_eq_left, keyOf, implies_true, fillC, capOf]
    by_cases hH : HeapOK x' y' z' cs
    · simp (disch := omega) only [hH, true_and, ↓SXd, SXu, slBounds, ↓sop, ↓aop, ↓reduceIte, LV.cells, AOp.dst, LV.I, LV.B, LV.U, LV.S, LV.nil, Nat.reduceEqDiff, Nat.reduceAdd, Nat.reduceMul, Nat.reduceSub, Nat.reduceLeDiff, Nat.reduceBEq, Nat.reduceDiv, Nat.reduceMod, Int.reduceToNat, Int.reduceLT, Int.reduceLE, Int.reduceAdd, Int.reduceSub, Int.reduceMul, Int.reduceEq, Int.reduceNeg, reduceCtorEq, resV, resAll, ARes.ev, LV.flat, ite_true, ite_false, exists_eq_left', exists_eq_left, keyOf, implies_true, fillC, capOf]
      refine callK_of (g_Shadow_box) ?_
      simp (disch := omega) only [↓SXd, SXu, slBounds, ↓sop, ↓aop, ↓reduceIte, LV.cells, AOp.dst, LV.I, LV.B, LV.U, LV.S, LV.nil, Nat.reduceEqDiff, Nat.reduceAdd, Nat.reduceMul, Nat.reduceSub, Nat.reduceLeDiff, Nat.reduceBEq, Nat.reduceDiv, Nat.reduceMod, Int.reduceToNat, Int.reduceLT, Int.reduceLE, Int.reduceAdd, Int.reduceSub, Int.reduceMul, Int.reduceEq, Int.reduceNeg, reduceCtorEq, resV, resAll, ARes.ev, LV.flat, ite_true, ite_false, exists_eq_left', exists_eq_left, keyOf, implies_true, fillC, capOf]
      refine callK_of (g_box) ?_
      simp (disch := omega) only [eqV, eqC, if_true, ite_true, Bool.and_true, ↓SXd, SXu, slBounds, ↓sop, ↓aop, ↓reduceIte, LV.cells, AOp.dst, LV.I, LV.B, LV.U, LV.S, LV.nil, Nat.reduceEqDiff, Nat.reduceAdd, Nat.reduceMul, Nat.reduceSub, Nat.reduceLeDiff, Nat.reduceBEq, Nat.reduceDiv, Nat.reduceMod, Int.reduceToNat, Int.reduceLT, Int.reduceLE, Int.reduceAdd, Int.reduceSub, Int.reduceMul, Int.reduceEq, Int.reduceNeg, reduceCtorEq, resV, resAll, ARes.ev, LV.flat, ite_true, ite_false, exists_eq_left', exists_eq_left, keyOf, implies_true, fillC, capOf]
      rw [beqXYZ]
      by_cases hd : x = x' ∧ y = y' ∧ z = z'
      · obtain ⟨rfl, rfl, rfl⟩ := hd
        have hmem : ∀ c ∈ cs, c.inBox x y z := fun c hc => hH.mem hc
        have hpk := hH.pick
        simp (disch := omega) only [true_and, ↓SXd, SXu, slBounds, ↓sop, ↓aop, ↓reduceIte, LV.cells, AOp.dst, LV.I, LV.B, LV.U, LV.S, LV.nil, Nat.reduceEqDiff, Nat.reduceAdd, Nat.reduceMul, Nat.reduceSub, Nat.reduceLeDiff, Nat.reduceBEq, Nat.reduceDiv, Nat.reduceMod, Int.reduceToNat, Int.reduceLT, Int.reduceLE, Int.reduceAdd, Int.reduceSub, Int.reduceMul, Int.reduceEq, Int.reduceNeg, reduceCtorEq, resV, resAll, ARes.ev, LV.flat, ite_true, ite_false, exists_eq_left', exists_eq_left, keyOf, implies_true, fillC, capOf]
        refine callK_of (g_cubes h.app hn hH.1 hmem) ?_
        simp (disch := omega) only [↓SXd, SXu, slBounds, ↓sop, ↓aop, ↓reduceIte, LV.cells, AOp.dst, LV.I, LV.B, LV.U, LV.S, LV.nil, Nat.reduceEqDiff, Nat.reduceAdd, Nat.reduceMul, Nat.reduceSub, Nat.reduceLeDiff, Nat.reduceBEq, Nat.reduceDiv, Nat.reduceMod, Int.reduceToNat, Int.reduceLT, Int.reduceLE, Int.reduceAdd, Int.reduceSub, Int.reduceMul, Int.reduceEq, Int.reduceNeg, reduceCtorEq, resV, resAll, ARes.ev, LV.flat, ite_true, ite_false, exists_eq_left', exists_eq_left, keyOf, implies_true, fillC, capOf]
        refine callR_of (g_isOf h1.app h2.app h3.app l1 l2 l3 hH.1) ?_
        rintro _ N ⟨rfl, hp⟩
        rw [← hpk]
        simp (disch := omega) only [↓SXd, SXu, slBounds, ↓sop, ↓aop, ↓reduceIte, LV.cells, AOp.dst, LV.I, LV.B, LV.U, LV.S, LV.nil, Nat.reduceEqDiff, Nat.reduceAdd, Nat.reduceMul, Nat.reduceSub, Nat.reduceLeDiff, Nat.reduceBEq, Nat.reduceDiv, Nat.reduceMod, Int.reduceToNat, Int.reduceLT, Int.reduceLE, Int.reduceAdd, Int.reduceSub, Int.reduceMul, Int.reduceEq, Int.reduceNeg, reduceCtorEq, resV, resAll, ARes.ev, LV.flat, ite_true, ite_false, exists_eq_left', exists_eq_left, keyOf, implies_true, fillC, capOf]
        exact ⟨rfl, (Pre.app _ _).trans hp⟩
      · simp (disch := omega) only [hd, false_and, ↓SXd, SXu, slBounds, ↓sop, ↓aop, ↓reduceIte, LV.cells, AOp.dst, LV.I, LV.B, LV.U, LV.S, LV.nil, Nat.reduceEqDiff, Nat.reduceAdd, Nat.reduceMul, Nat.reduceSub, Nat.reduceLeDiff, Nat.reduceBEq, Nat.reduceDiv, Nat.reduceMod, Int.reduceToNat, Int.reduceLT, Int.reduceLE, Int.reduceAdd, Int.reduceSub, Int.reduceMul, Int.reduceEq, Int.reduceNeg, reduceCtorEq, resV, resAll, ARes.ev, LV.flat, ite_true, ite_false, exists_eq_left', exists_eq_left, keyOf, implies_true, fillC, capOf]
        exact ⟨rfl, Pre.app _ _⟩
    · simp (disch := omega) only [hH, false_and, ↓SXd, SXu, slBounds, ↓sop, ↓aop, ↓reduceIte, LV.cells, AOp.dst, LV.I, LV.B, LV.U, LV.S, LV.nil, Nat.reduceEqDiff, Nat.reduceAdd, Nat.reduceMul, Nat.reduceSub, Nat.reduceLeDiff, Nat.reduceBEq, Nat.reduceDiv, Nat.reduceMod, Int.reduceToNat, Int.reduceLT, Int.reduceLE, Int.reduceAdd, Int.reduceSub, Int.reduceMul, Int.reduceEq, Int.reduceNeg, reduceCtorEq, resV, resAll, ARes.ev, LV.flat, ite_true, ite_false, exists_eq_left', exists_eq_left, keyOf, implies_true, fillC, capOf]
      exact ⟨rfl, Pre.app _ _⟩
  · simp (disch := omega) only [hok, false_and, ↓SXd, SXu, slBounds, ↓sop, ↓aop, ↓reduceIte, LV.cells, AOp.dst, LV.I, LV.B, LV.U, LV.S, LV.nil, Nat.reduceEqDiff, Nat.reduceAdd, Nat.reduceMul, Nat.reduceSub, Nat.reduceLeDiff, Nat.reduceBEq, Nat.reduceDiv, Nat.reduceMod, Int.reduceToNat, Int.reduceLT, Int.reduceLE, Int.reduceAdd, Int.reduceSub, Int.reduceMul, Int.reduceEq, Int.reduceNeg, reduceCtorEq, resV, resAll, ARes.ev, LV.flat, ite_true, ite_false, exists_eq_left', exists_eq_left, keyOf, implies_true, fillC, capOf]
    exact ⟨rfl, Pre.app _ _⟩
end
end Go.Ab

/- The abstract code of some functions (written by a program of mine from the translation, by way of prepF). -/
namespace Go.Ab.C
open Go.Ab
def math_bits_OnesCount64 : AFn :=
  ⟨1, 35, [.tmp 2],
    .seq (.ops [(none, .mv 2 (.c (.I 0)))])
    (.seq (.ops [(none, .mv 3 (.t 0)),
        (none, .bin 4 .shr (.t 3) (.c (.U 1))),
        (none, .bin 5 .and (.t 4) (.c (.U 6148914691236517205))),
        (none, .mv 6 (.t 0)),
        (none, .bin 7 .and (.t 6) (.c (.U 6148914691236517205))),
        (none, .bin 8 .add (.t 5) (.t 7)),
        (none, .mv 0 (.t 8))])
     (.seq (.ops [(none, .mv 9 (.t 0)),
         (none, .bin 10 .shr (.t 9) (.c (.U 2))),
         (none, .bin 11 .and (.t 10) (.c (.U 3689348814741910323))),
         (none, .mv 12 (.t 0)),
         (none, .bin 13 .and (.t 12) (.c (.U 3689348814741910323))),
         (none, .bin 14 .add (.t 11) (.t 13)),
         (none, .mv 0 (.t 14))])
      (.seq (.ops [(none, .mv 15 (.t 0)),
          (none, .bin 16 .shr (.t 15) (.c (.U 4))),
          (none, .mv 17 (.t 0)),
          (none, .bin 18 .add (.t 16) (.t 17)),
          (none, .bin 19 .and (.t 18) (.c (.U 1085102592571150095))),
          (none, .mv 0 (.t 19))])
       (.seq (.ops [(none, .mv 20 (.t 0)),
           (none, .mv 21 (.t 0)),
           (none, .bin 22 .shr (.t 21) (.c (.U 8))),
           (none, .bin 23 .add (.t 20) (.t 22)),
           (none, .mv 0 (.t 23))])
        (.seq (.ops [(none, .mv 24 (.t 0)),
            (none, .mv 25 (.t 0)),
            (none, .bin 26 .shr (.t 25) (.c (.U 16))),
            (none, .bin 27 .add (.t 24) (.t 26)),
            (none, .mv 0 (.t 27))])
         (.seq (.ops [(none, .mv 28 (.t 0)),
             (none, .mv 29 (.t 0)),
             (none, .bin 30 .shr (.t 29) (.c (.U 32))),
             (none, .bin 31 .add (.t 28) (.t 30)),
             (none, .mv 0 (.t 31))])
          (.seq (.ops [(none, .mv 32 (.t 0)),
              (none, .conv 33 .i64 (.t 32)),
              (none, .bin 34 .and (.t 33) (.c (.I 127))),
              (none, .mv 2 (.t 34))])
           (.ret))))))))⟩
def impl_set_count : AFn :=
  ⟨1, 5, [.tmp 2],
    .seq (.ops [(none, .mv 2 (.c (.I 0)))])
    (.seq (.ops [(none, .mv 3 (.t 0)),
        (none, .call (some 4) F.math_bits_OnesCount64 [(.t 3)]),
        (none, .mv 2 (.t 4))])
     (.ret))⟩
end Go.Ab.C

/- That the program has this code. -/
namespace Go.Ab.K
open Go Go.Ab
theorem math_bits_OnesCount64 : prepF Go.Proofs.Try.prog F.math_bits_OnesCount64 = some C.math_bits_OnesCount64 := by kernel_rfl
theorem impl_set_count : prepF Go.Proofs.Try.prog F.impl_set_count = some C.impl_set_count := by kernel_rfl
end Go.Ab.K

/- Plain words: how many cells a set has, as the library counts. -/
namespace Go.Ab

def swar1 (x : BitVec 64) : BitVec 64 := (x >>> 1 &&& 6148914691236517205#64) + (x &&& 6148914691236517205#64)
def swar2 (x : BitVec 64) : BitVec 64 := (x >>> 2 &&& 3689348814741910323#64) + (x &&& 3689348814741910323#64)
def swar3 (x : BitVec 64) : BitVec 64 := (x >>> 4 + x) &&& 1085102592571150095#64
def swar4 (x : BitVec 64) : BitVec 64 := x + x >>> 8
def swar5 (x : BitVec 64) : BitVec 64 := x + x >>> 16
def swar6 (x : BitVec 64) : BitVec 64 := x + x >>> 32
def swar (x : BitVec 64) : BitVec 64 := swar6 (swar5 (swar4 (swar3 (swar2 (swar1 x))))) &&& 127#64

def onRim (x y z : Int) (c : Cell) : Bool := decide (c.a = 0 ∨ c.b = 0 ∨ c.c = 0 ∨ c.a = x - 1 ∨ c.b = y - 1 ∨ c.c = z - 1)
theorem rim_small : ∀ x : Nat, x < 4 → ∀ y : Nat, y < 4 → ∀ z : Nat, z < 4 → ∀ i : Nat, i < (x + 1) * (y + 1) * (z + 1) →
    decide ((swar (bs ((x + 1 : Nat) : Int) ((y + 1 : Nat) : Int) ((z + 1 : Nat) : Int) fun d => decide (apart (cellAt ((y + 1 : Nat) : Int) ((z + 1 : Nat) : Int) i) d = 1))).toNat < 6) = onRim ((x + 1 : Nat) : Int) ((y + 1 : Nat) : Int) ((z + 1 : Nat) : Int) (cellAt ((y + 1 : Nat) : Int) ((z + 1 : Nat) : Int) i) := by
  decide +kernel
end Go.Ab

/- The abstract code of some functions (written by a program of mine from the translation, by way of prepF). -/
namespace Go.Ab.C
open Go.Ab
end Go.Ab.C

/- That the program has this code. -/
namespace Go.Ab.K
open Go Go.Ab
end Go.Ab.K

/- Contracts: neighbours; what grows. -/
namespace Go.Ab
open Go
set_option linter.unusedSimpArgs false
set_option linter.unusedVariables false

/-- The first k neighbours of a cell. -/
def nbrK (c : Cell) (k : Nat) (e : Cell) : Bool := decide (e ∈ (nbrs c).take k)
theorem nbrK_step {c : Cell} {k : Nat} (hk : k < 6) (e : Cell) : nbrK c (k + 1) e = (nbrK c k e || decide (e = (nbrs c).getD k default)) := (take_dec (cs := nbrs c) (by simpa [nbrs] using hk)).symm

section
variable {x y z : Int} (hS : Sides x y z)
include hS
end
end Go.Ab

/- Contracts: counts of sets. -/
namespace Go.Ab
open Go
set_option linter.unusedSimpArgs false
set_option linter.unusedVariables false

theorem w_add {s u : BitVec 64} : binV .add (.val (.int .u64 ((s.toNat : Nat) : Int))) (.val (.int .u64 ((u.toNat : Nat) : Int))) = some (.val (.int .u64 (((s + u).toNat : Nat) : Int)), True) := by
  rw [bv_add, IntKind.wrap_u64, BitVec.toNat_add]
  congr 4
theorem w_andc {s : BitVec 64} {c : Nat} (hc : c < 18446744073709551616) : binV .and (.val (.int .u64 ((s.toNat : Nat) : Int))) (.val (.int .u64 (c : Int))) = some (.val (.int .u64 (((s &&& BitVec.ofNat 64 c).toNat : Nat) : Int)), True) := by
  have h := w_and (s := s) (u := BitVec.ofNat 64 c)
  rw [BitVec.toNat_ofNat, Nat.mod_eq_of_lt hc] at h; exact h
theorem w_m1 {s : BitVec 64} : binV .and (.val (.int .u64 ((s.toNat : Nat) : Int))) (.val (.int .u64 6148914691236517205)) = some (.val (.int .u64 (((s &&& 6148914691236517205#64).toNat : Nat) : Int)), True) := w_andc (c := 6148914691236517205) (by decide)
theorem w_m2 {s : BitVec 64} : binV .and (.val (.int .u64 ((s.toNat : Nat) : Int))) (.val (.int .u64 3689348814741910323)) = some (.val (.int .u64 (((s &&& 3689348814741910323#64).toNat : Nat) : Int)), True) := w_andc (c := 3689348814741910323) (by decide)
theorem w_m3 {s : BitVec 64} : binV .and (.val (.int .u64 ((s.toNat : Nat) : Int))) (.val (.int .u64 1085102592571150095)) = some (.val (.int .u64 (((s &&& 1085102592571150095#64).toNat : Nat) : Int)), True) := w_andc (c := 1085102592571150095) (by decide)

theorem conv_and {x : BitVec 64} : IntKind.i64.wrap (((BitVec.ofInt 64 (IntKind.i64.wrap ((x.toNat : Nat) : Int)) &&& BitVec.ofInt 64 127).toNat : Nat) : Int) = (((x &&& 127#64).toNat : Nat) : Int) := by
  have h1 : BitVec.ofInt 64 (IntKind.i64.wrap ((x.toNat : Nat) : Int)) = x := by
    apply BitVec.eq_of_toNat_eq
    have := x.isLt
    rw [BitVec.toNat_ofInt, IntKind.wrap_i64]
    omega
  have h2 : BitVec.ofInt 64 127 = 127#64 := rfl
  rw [h1, h2, IntKind.wrap_i64]
  have h3 : (x &&& 127#64).toNat ≤ 127 := by
    rw [BitVec.toNat_and]; exact Nat.and_le_right
  omega
theorem swar_le {s : BitVec 64} : (swar s).toNat ≤ 127 := by
  unfold swar
  rw [BitVec.toNat_and]; exact Nat.and_le_right

theorem g_OnesCount64 {s : BitVec 64} {M : Mem} : CallsTo PG F.math_bits_OnesCount64 [.W s] M (.I (((swar s).toNat : Nat) : Int)) M := by
  refine calls_run K.math_bits_OnesCount64 rfl ?_
  simp (disch := omega) only [C.math_bits_OnesCount64, w_shr, w_m1, w_m2, w_m3, w_add, ↓SXd, SXu, slBounds, ↓sop, ↓aop, ↓reduceIte, LV.cells, AOp.dst, LV.I, LV.B, LV.U, LV.S, LV.nil, Nat.reduceEqDiff, Nat.reduceAdd, Nat.reduceMul, Nat.reduceSub, Nat.reduceLeDiff, Nat.reduceBEq, Nat.reduceDiv, Nat.reduceMod, Int.reduceToNat, Int.reduceLT, Int.reduceLE, Int.reduceAdd, Int.reduceSub, Int.reduceMul, Int.reduceEq, Int.reduceNeg, reduceCtorEq, resV, resAll, ARes.ev, LV.flat, ite_true, ite_false, exists_eq_left', exists_eq_left, keyOf, implies_true, fillC, capOf]
  rw [conv_and]
  exact cmp_pre (Pre.refl _) rfl
theorem g_count {s : BitVec 64} {M : Mem} : CallsTo PG F.impl_set_count [.W s] M (.I (((swar s).toNat : Nat) : Int)) M := by
  refine calls_run K.impl_set_count rfl ?_
  simp (disch := omega) only [C.impl_set_count, ↓SXd, SXu, slBounds, ↓sop, ↓aop, ↓reduceIte, LV.cells, AOp.dst, LV.I, LV.B, LV.U, LV.S, LV.nil, Nat.reduceEqDiff, Nat.reduceAdd, Nat.reduceMul, Nat.reduceSub, Nat.reduceLeDiff, Nat.reduceBEq, Nat.reduceDiv, Nat.reduceMod, Int.reduceToNat, Int.reduceLT, Int.reduceLE, Int.reduceAdd, Int.reduceSub, Int.reduceMul, Int.reduceEq, Int.reduceNeg, reduceCtorEq, resV, resAll, ARes.ev, LV.flat, ite_true, ite_false, exists_eq_left', exists_eq_left, keyOf, implies_true, fillC, capOf]
  refine callK_of (g_OnesCount64) ?_
  simp (disch := omega) only [↓SXd, SXu, slBounds, ↓sop, ↓aop, ↓reduceIte, LV.cells, AOp.dst, LV.I, LV.B, LV.U, LV.S, LV.nil, Nat.reduceEqDiff, Nat.reduceAdd, Nat.reduceMul, Nat.reduceSub, Nat.reduceLeDiff, Nat.reduceBEq, Nat.reduceDiv, Nat.reduceMod, Int.reduceToNat, Int.reduceLT, Int.reduceLE, Int.reduceAdd, Int.reduceSub, Int.reduceMul, Int.reduceEq, Int.reduceNeg, reduceCtorEq, resV, resAll, ARes.ev, LV.flat, ite_true, ite_false, exists_eq_left', exists_eq_left, keyOf, implies_true, fillC, capOf]
  exact cmp_pre (Pre.refl _) rfl

theorem onRim_iff {x y z : Int} {c : Cell} (hc : c.inBox x y z) : onRim x y z c = true ↔ ∃ d : Cell, apart c d = 1 ∧ ¬ d.inBox x y z := by
  obtain ⟨⟨h1, h2⟩, ⟨h3, h4⟩, ⟨h5, h6⟩⟩ := hc
  unfold onRim
  rw [decide_eq_true_iff]
  constructor
  · rintro (h | h | h | h | h | h)
    · exact ⟨⟨c.a - 1, c.b, c.c⟩, by unfold apart; simp only; omega, fun k => by have := k.1.1; simp only at this; omega⟩
    · exact ⟨⟨c.a, c.b - 1, c.c⟩, by unfold apart; simp only; omega, fun k => by have := k.2.1.1; simp only at this; omega⟩
    · exact ⟨⟨c.a, c.b, c.c - 1⟩, by unfold apart; simp only; omega, fun k => by have := k.2.2.1; simp only at this; omega⟩
    · exact ⟨⟨c.a + 1, c.b, c.c⟩, by unfold apart; simp only; omega, fun k => by have := k.1.2; simp only at this; omega⟩
    · exact ⟨⟨c.a, c.b + 1, c.c⟩, by unfold apart; simp only; omega, fun k => by have := k.2.1.2; simp only at this; omega⟩
    · exact ⟨⟨c.a, c.b, c.c + 1⟩, by unfold apart; simp only; omega, fun k => by have := k.2.2.2; simp only at this; omega⟩
  · rintro ⟨d, hd, hk⟩
    apply Classical.byContradiction
    intro hno
    refine hk ⟨⟨?_, ?_⟩, ⟨?_, ?_⟩, ⟨?_, ?_⟩⟩ <;> (unfold apart at hd; omega)

theorem rim_count {x y z : Int} (hS : Sides x y z) {c : Cell} (hc : c.inBox x y z) : decide ((((swar (bs x y z fun d => decide (apart c d = 1))).toNat : Nat) : Int) < 6) = onRim x y z c := by
  obtain ⟨⟨_, _⟩, ⟨_, _⟩, ⟨_, _⟩⟩ := id hS
  obtain ⟨k1, k2, k3⟩ := idx_in hS hc
  obtain ⟨X, hX, hX4⟩ : ∃ X : Nat, x = ((X + 1 : Nat) : Int) ∧ X < 4 := ⟨(x - 1).toNat, by omega, by omega⟩
  obtain ⟨Y, hY, hY4⟩ : ∃ Y : Nat, y = ((Y + 1 : Nat) : Int) ∧ Y < 4 := ⟨(y - 1).toNat, by omega, by omega⟩
  obtain ⟨Z, hZ, hZ4⟩ : ∃ Z : Nat, z = ((Z + 1 : Nat) : Int) ∧ Z < 4 := ⟨(z - 1).toNat, by omega, by omega⟩
  obtain ⟨i, hi⟩ : ∃ i : Nat, idx y z c = i := ⟨(idx y z c).toNat, by omega⟩
  have hv : i < (X + 1) * (Y + 1) * (Z + 1) := by
    have h : (i : Int) < ((X + 1 : Nat) : Int) * ((Y + 1 : Nat) : Int) * ((Z + 1 : Nat) : Int) := by rw [← hX, ← hY, ← hZ, ← hi]; exact k2
    rw [← Int.natCast_mul, ← Int.natCast_mul] at h
    omega
  have := rim_small X hX4 Y hY4 Z hZ4 i hv
  rw [← hX, ← hY, ← hZ, ← hi, k3] at this
  rw [← this]
  exact decide_eq_decide.2 (by omega)
end Go.Ab
