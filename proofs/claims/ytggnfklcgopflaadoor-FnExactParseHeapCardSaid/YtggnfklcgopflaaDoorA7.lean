/- Parts of the proof of FnExactParseHeapCardSaid: Po LParseHeap Ra Rb. -/
import Derived.Test.YtggnfklcgopflaaDoorA6
import Derived.Test.YtggnfklcgopflaaDoorA4
import Derived.Test.YtggnfklcgopflaaDoorA5
import Derived.Test.YtggnfklcgopflaaDoorA3
import Derived.Below
import Derived.Lib.SmallJoins
import Derived.Deep.Slices
import Derived.Laws.IdiomArrays
set_option linter.all false
namespace Go.Ab
open Go
set_option maxRecDepth 20000

theorem g_dig {b : Nat} {M : Mem} (hb : b < 256) : CallsTo PG F.impl_ParseHeap_1 [.val (.int .u8 (b : Int))] M (.I ((b : Int) - 48)) M := by
  refine calls_run K.impl_ParseHeap_1 rfl ?_
  simp (disch := omega) only [C.impl_ParseHeap_1, ↓SXd, SXu, slBounds, ↓sop, ↓aop, ↓reduceIte, LV.cells, AOp.dst, LV.I, LV.B, LV.U, LV.S, LV.nil, Nat.reduceEqDiff, Nat.reduceAdd, Nat.reduceMul, Nat.reduceSub, Nat.reduceLeDiff, Nat.reduceBEq, Nat.reduceDiv, Nat.reduceMod, Int.reduceToNat, Int.reduceLT, Int.reduceLE, Int.reduceAdd, Int.reduceSub, Int.reduceMul, Int.reduceEq, Int.reduceNeg, reduceCtorEq, resV, resAll, ARes.ev, LV.flat, ite_true, ite_false, exists_eq_left', exists_eq_left, keyOf, implies_true, fillC, capOf]
  exact cmp_drop0 rfl
theorem g_IsHeapN {x y z : Int} {M : Mem} : CallsTo PG F.impl_IsHeap [.agg [.I x, .I y, .I z, .nil]] M (.B (decide (HeapOK x y z []))) M := by
  have e : decide (HeapOK x y z []) = decide (Sides x y z) := by
    by_cases h : Sides x y z
    · rw [decide_eq_true h, decide_eq_true ⟨h, fun k hk => absurd hk (by simp)⟩]
    · rw [decide_eq_false h, decide_eq_false fun hh => h hh.1]
  rw [e]
  refine calls_run K.impl_IsHeap rfl ?_
  simp (disch := omega) only [C.impl_IsHeap, ↓SXd, SXu, slBounds, ↓sop, ↓aop, ↓reduceIte, LV.cells, AOp.dst, LV.I, LV.B, LV.U, LV.S, LV.nil, Nat.reduceEqDiff, Nat.reduceAdd, Nat.reduceMul, Nat.reduceSub, Nat.reduceLeDiff, Nat.reduceBEq, Nat.reduceDiv, Nat.reduceMod, Int.reduceToNat, Int.reduceLT, Int.reduceLE, Int.reduceAdd, Int.reduceSub, Int.reduceMul, Int.reduceEq, Int.reduceNeg, reduceCtorEq, resV, resAll, ARes.ev, LV.flat, ite_true, ite_false, exists_eq_left', exists_eq_left, keyOf, implies_true, fillC, capOf]
  refine callK_of g_box ?_
  simp (disch := omega) only [↓SXd, SXu, slBounds, ↓sop, ↓aop, ↓reduceIte, LV.cells, AOp.dst, LV.I, LV.B, LV.U, LV.S, LV.nil, Nat.reduceEqDiff, Nat.reduceAdd, Nat.reduceMul, Nat.reduceSub, Nat.reduceLeDiff, Nat.reduceBEq, Nat.reduceDiv, Nat.reduceMod, Int.reduceToNat, Int.reduceLT, Int.reduceLE, Int.reduceAdd, Int.reduceSub, Int.reduceMul, Int.reduceEq, Int.reduceNeg, reduceCtorEq, resV, resAll, ARes.ev, LV.flat, ite_true, ite_false, exists_eq_left', exists_eq_left, keyOf, implies_true, fillC, capOf]
  refine callK_of g_valid ?_
  simp (disch := omega) only [↓SXd, SXu, slBounds, ↓sop, ↓aop, ↓reduceIte, LV.cells, AOp.dst, LV.I, LV.B, LV.U, LV.S, LV.nil, Nat.reduceEqDiff, Nat.reduceAdd, Nat.reduceMul, Nat.reduceSub, Nat.reduceLeDiff, Nat.reduceBEq, Nat.reduceDiv, Nat.reduceMod, Int.reduceToNat, Int.reduceLT, Int.reduceLE, Int.reduceAdd, Int.reduceSub, Int.reduceMul, Int.reduceEq, Int.reduceNeg, reduceCtorEq, resV, resAll, ARes.ev, LV.flat, ite_true, ite_false, exists_eq_left', exists_eq_left, keyOf, implies_true, fillC, capOf]
  by_cases hS : Sides x y z
  · simp (disch := omega) only [hS, ↓SXd, SXu, slBounds, ↓sop, ↓aop, ↓reduceIte, LV.cells, AOp.dst, LV.I, LV.B, LV.U, LV.S, LV.nil, Nat.reduceEqDiff, Nat.reduceAdd, Nat.reduceMul, Nat.reduceSub, Nat.reduceLeDiff, Nat.reduceBEq, Nat.reduceDiv, Nat.reduceMod, Int.reduceToNat, Int.reduceLT, Int.reduceLE, Int.reduceAdd, Int.reduceSub, Int.reduceMul, Int.reduceEq, Int.reduceNeg, reduceCtorEq, resV, resAll, ARes.ev, LV.flat, ite_true, ite_false, exists_eq_left', exists_eq_left, keyOf, implies_true, fillC, capOf]
    refine ev_loop (fun m fr M' => Pre M M' ∧ fr 11 = .I 0 ∧ fr 12 = .I 0) 0 ⟨Pre.app _ _, rfl, rfl⟩ ?_
    rintro m fr M' ⟨hpre, f11, f12⟩
    simp (disch := omega) only [f11, f12, ↓SXd, SXu, slBounds, ↓sop, ↓aop, ↓reduceIte, LV.cells, AOp.dst, LV.I, LV.B, LV.U, LV.S, LV.nil, Nat.reduceEqDiff, Nat.reduceAdd, Nat.reduceMul, Nat.reduceSub, Nat.reduceLeDiff, Nat.reduceBEq, Nat.reduceDiv, Nat.reduceMod, Int.reduceToNat, Int.reduceLT, Int.reduceLE, Int.reduceAdd, Int.reduceSub, Int.reduceMul, Int.reduceEq, Int.reduceNeg, reduceCtorEq, resV, resAll, ARes.ev, LV.flat, ite_true, ite_false, exists_eq_left', exists_eq_left, keyOf, implies_true, fillC, capOf]
    exact cmp_pre hpre rfl
  · simp (disch := omega) only [hS, ↓SXd, SXu, slBounds, ↓sop, ↓aop, ↓reduceIte, LV.cells, AOp.dst, LV.I, LV.B, LV.U, LV.S, LV.nil, Nat.reduceEqDiff, Nat.reduceAdd, Nat.reduceMul, Nat.reduceSub, Nat.reduceLeDiff, Nat.reduceBEq, Nat.reduceDiv, Nat.reduceMod, Int.reduceToNat, Int.reduceLT, Int.reduceLE, Int.reduceAdd, Int.reduceSub, Int.reduceMul, Int.reduceEq, Int.reduceNeg, reduceCtorEq, resV, resAll, ARes.ev, LV.flat, ite_true, ite_false, exists_eq_left', exists_eq_left, keyOf, implies_true, fillC, capOf]
    exact cmp_drop rfl
theorem g_heapTextN {x y z : Int} {M : Mem} (hH : HeapOK x y z []) : CallsTo PG F.impl_heapText [.agg [.I x, .I y, .I z, .nil]] M (.S (txH x y z [])) M := by
  obtain ⟨⟨_, _⟩, ⟨_, _⟩, ⟨_, _⟩⟩ := id hH.1
  refine calls_run K.impl_heapText rfl ?_
  simp (disch := omega) only [C.impl_heapText, ↓SXd, SXu, slBounds, ↓sop, ↓aop, ↓reduceIte, LV.cells, AOp.dst, LV.I, LV.B, LV.U, LV.S, LV.nil, Nat.reduceEqDiff, Nat.reduceAdd, Nat.reduceMul, Nat.reduceSub, Nat.reduceLeDiff, Nat.reduceBEq, Nat.reduceDiv, Nat.reduceMod, Int.reduceToNat, Int.reduceLT, Int.reduceLE, Int.reduceAdd, Int.reduceSub, Int.reduceMul, Int.reduceEq, Int.reduceNeg, reduceCtorEq, resV, resAll, ARes.ev, LV.flat, ite_true, ite_false, exists_eq_left', exists_eq_left, keyOf, implies_true, fillC, capOf]
  refine callK_of (g_Itoa (by omega)) ?_
  simp (disch := omega) only [bvs_add, ByteArray.size_append, dgS_size, szX, szB, ↓SXd, SXu, slBounds, ↓sop, ↓aop, ↓reduceIte, LV.cells, AOp.dst, LV.I, LV.B, LV.U, LV.S, LV.nil, Nat.reduceEqDiff, Nat.reduceAdd, Nat.reduceMul, Nat.reduceSub, Nat.reduceLeDiff, Nat.reduceBEq, Nat.reduceDiv, Nat.reduceMod, Int.reduceToNat, Int.reduceLT, Int.reduceLE, Int.reduceAdd, Int.reduceSub, Int.reduceMul, Int.reduceEq, Int.reduceNeg, reduceCtorEq, resV, resAll, ARes.ev, LV.flat, ite_true, ite_false, exists_eq_left', exists_eq_left, keyOf, implies_true, fillC, capOf]
  refine callK_of (g_Itoa (by omega)) ?_
  simp (disch := omega) only [bvs_add, ByteArray.size_append, dgS_size, szX, szB, ↓SXd, SXu, slBounds, ↓sop, ↓aop, ↓reduceIte, LV.cells, AOp.dst, LV.I, LV.B, LV.U, LV.S, LV.nil, Nat.reduceEqDiff, Nat.reduceAdd, Nat.reduceMul, Nat.reduceSub, Nat.reduceLeDiff, Nat.reduceBEq, Nat.reduceDiv, Nat.reduceMod, Int.reduceToNat, Int.reduceLT, Int.reduceLE, Int.reduceAdd, Int.reduceSub, Int.reduceMul, Int.reduceEq, Int.reduceNeg, reduceCtorEq, resV, resAll, ARes.ev, LV.flat, ite_true, ite_false, exists_eq_left', exists_eq_left, keyOf, implies_true, fillC, capOf]
  refine callK_of (g_Itoa (by omega)) ?_
  simp (disch := omega) only [bvs_add, ByteArray.size_append, dgS_size, szX, szB, ↓SXd, SXu, slBounds, ↓sop, ↓aop, ↓reduceIte, LV.cells, AOp.dst, LV.I, LV.B, LV.U, LV.S, LV.nil, Nat.reduceEqDiff, Nat.reduceAdd, Nat.reduceMul, Nat.reduceSub, Nat.reduceLeDiff, Nat.reduceBEq, Nat.reduceDiv, Nat.reduceMod, Int.reduceToNat, Int.reduceLT, Int.reduceLE, Int.reduceAdd, Int.reduceSub, Int.reduceMul, Int.reduceEq, Int.reduceNeg, reduceCtorEq, resV, resAll, ARes.ev, LV.flat, ite_true, ite_false, exists_eq_left', exists_eq_left, keyOf, implies_true, fillC, capOf]
  refine ev_loop (fun m fr M' => Pre M M' ∧ fr 3 = .S (txH x y z []) ∧ fr 21 = .I 0 ∧ fr 22 = .I 0) 0 ⟨Pre.app _ _, rfl, rfl, rfl⟩ ?_
  rintro m fr M' ⟨hpre, f3, f21, f22⟩
  simp (disch := omega) only [f3, f21, f22, ↓SXd, SXu, slBounds, ↓sop, ↓aop, ↓reduceIte, LV.cells, AOp.dst, LV.I, LV.B, LV.U, LV.S, LV.nil, Nat.reduceEqDiff, Nat.reduceAdd, Nat.reduceMul, Nat.reduceSub, Nat.reduceLeDiff, Nat.reduceBEq, Nat.reduceDiv, Nat.reduceMod, Int.reduceToNat, Int.reduceLT, Int.reduceLE, Int.reduceAdd, Int.reduceSub, Int.reduceMul, Int.reduceEq, Int.reduceNeg, reduceCtorEq, resV, resAll, ARes.ev, LV.flat, ite_true, ite_false, exists_eq_left', exists_eq_left, keyOf, implies_true, fillC, capOf]
  exact cmp_pre hpre rfl
def GrowC (b : Nat) (K : Mem) (v : LV) (l : List Cell) : Prop := (v = .nil ∧ l = []) ∨ ∃ u, v = .ref u 0 l.length ∧ b < u ∧ Live K u (.row (triL l) true 3)
theorem GrowC.slC {b : Nat} {K : Mem} {v : LV} {l : List Cell} (h : GrowC b K v l) : SlC K v l := by
  rcases h with ⟨rfl, rfl⟩ | ⟨u, rfl, _, h⟩
  · exact SlC.nil
  · exact SlC.of h
theorem GrowC.keep {b : Nat} {K K' : Mem} {v : LV} {l : List Cell} (h : GrowC b K v l) (hk : ∀ u, b < u → u < K.length → K'[u]? = K[u]?) : GrowC b K' v l := by
  rcases h with h | ⟨u, h1, h2, h3⟩
  · exact .inl h
  · exact .inr ⟨u, h1, h2, by unfold Live; rw [hk u h2 h3.lt]; exact h3⟩
theorem GrowC.newer {b : Nat} {M K : Mem} {v : LV} {l : List Cell} (h : GrowC b K v l) (hb : M.length ≤ b) : Newer M v := by
  rcases h with ⟨rfl, _⟩ | ⟨u, rfl, h2, _⟩
  · exact Newer.nil
  · exact Newer.of (by omega)
theorem GrowC.isHeap {b : Nat} {M : Mem} {v : LV} {l : List Cell} {x y z : Int} (h : GrowC b M v l) (hl : l.length ≤ 1000000000) : CallsTo PG F.impl_IsHeap [.agg [.I x, .I y, .I z, v]] M (.B (decide (HeapOK x y z l))) M := by
  rcases h with ⟨rfl, rfl⟩ | ⟨u, rfl, _, h⟩
  · exact g_IsHeapN
  · exact g_IsHeap h.has hl
theorem GrowC.text {b : Nat} {M : Mem} {v : LV} {l : List Cell} {x y z : Int} (h : GrowC b M v l) (hH : HeapOK x y z l) : CallsTo PG F.impl_heapText [.agg [.I x, .I y, .I z, v]] M (.S (txH x y z l)) M := by
  rcases h with ⟨rfl, rfl⟩ | ⟨u, rfl, _, h⟩
  · exact g_heapTextN hH
  · exact g_heapText h.has hH
theorem appendK_grow {b : Nat} {M : Mem} {v : LV} {l : List Cell} {x y z : Int} {A : LV → Mem → Prop} (h : GrowC b M v l) (hl : l.length ≤ 1000000000) (hb : b < M.length)
    (hA : ∀ u M', M'.length = M.length + 2 → b < u → Live M' u (.row (triL (l ++ [⟨x, y, z⟩])) true 3) → (∀ q, q ≤ b → M'[q]? = M[q]?) → A (.ref u 0 (l ++ [(⟨x, y, z⟩ : Cell)]).length) M') :
    appendK 3 24 v (.ref M.length 0 1) (M ++ [some (.row [LV.val (.int .i64 x), LV.val (.int .i64 y), LV.val (.int .i64 z)] true 3)]) A := by
  rcases h with ⟨rfl, rfl⟩ | ⟨u, rfl, hu, h⟩
  · have hw : getCells (M ++ [some (.row [LV.val (.int .i64 x), LV.val (.int .i64 y), LV.val (.int .i64 z)] true 3)]) M.length 0 (1 * 3) = some [LV.val (.int .i64 x), LV.val (.int .i64 y), LV.val (.int .i64 z)] := (Live.new (b := .row [LV.val (.int .i64 x), LV.val (.int .i64 y), LV.val (.int .i64 z)] true 3)).cells
    have := hA (M.length + 1) (M ++ [some (.row [LV.val (.int .i64 x), LV.val (.int .i64 y), LV.val (.int .i64 z)] true 3)] ++ [some (.row [LV.val (.int .i64 x), LV.val (.int .i64 y), LV.val (.int .i64 z)] true 3)]) (by simp) (by omega) (by unfold Live; simp [triL, Cell.row]) fun u hu => by rw [List.append_assoc, List.getElem?_append_left (by omega)]
    show appendK 3 24 (.val (.slice none 0 0)) _ _ _
    simp [appendK, lenS, winC, appV, appK, hw, andK]
    refine .inl ?_
    simpa using this
  · exact appendK_cell h hl fun M' h1 h2 h3 => hA _ M' h1 (by omega) h2 fun q hq => h3 q (by omega) (by omega)
theorem words_first {c : UInt8} {s w : ByteArray} {ws : List ByteArray} (h : words c s = w :: ws) : w.size ≤ s.size := words_small (c := c) (by rw [h]; exact List.mem_cons_self)
theorem g_ParseHeap {s : ByteArray} {M : Mem} (hs : s.size ≤ 1048576) : CallsR PG F.impl_ParseHeap [.S s] M (HeapRes M (phOf s) []) := by
  refine callsR_run K.impl_ParseHeap rfl ?_
  simp (disch := omega) only [C.impl_ParseHeap, lenT_s, ↓SXd, SXu, slBounds, ↓sop, ↓aop, ↓reduceIte, LV.cells, AOp.dst, LV.I, LV.B, LV.U, LV.S, LV.nil, Nat.reduceEqDiff, Nat.reduceAdd, Nat.reduceMul, Nat.reduceSub, Nat.reduceLeDiff, Nat.reduceBEq, Nat.reduceDiv, Nat.reduceMod, Int.reduceToNat, Int.reduceLT, Int.reduceLE, Int.reduceAdd, Int.reduceSub, Int.reduceMul, Int.reduceEq, Int.reduceNeg, reduceCtorEq, resV, resAll, ARes.ev, LV.flat, ite_true, ite_false, exists_eq_left', exists_eq_left, keyOf, implies_true, fillC, capOf]
  refine callR_of (g_Split (c := 32) hs) ?_
  rintro _ N1 ⟨t1, rfl, a1, a3⟩
  have p2 : Live N1 M.length (.row [.I 0, .I 0, .I 0, .nil] true 0) := Live.new.pre a3
  have hM1 : Pre M N1 := (Pre.app _ _).trans a3
  obtain ⟨w0, ws, hw⟩ := words_ne (c := 32) (s := s)
  have hwl : ws.length ≤ s.size := by
    have h1 := words_len (c := 32) (r := s)
    rw [hw, List.length_cons] at h1
    have h2 : s.data.toList.count 32 ≤ s.data.toList.length := List.count_le_length
    rw [ba_size]; omega
  rw [hw] at a1 ⊢
  have l1 := a1.lt
  have l2 := p2.lt
  have hg0 : getCell N1 t1 0 = some (.S w0) := by rw [a1.cell]; rfl
  have hfail : ∀ {N : Mem}, (∀ x y z cs, HeapOK x y z cs → txH x y z cs = s → False) → Pre M N → HeapRes M (phOf s) [] (.tup [.agg [.I 0, .I 0, .I 0, .nil], .B false]) N := fun h hp => ph_fail h hp
  simp (disch := omega) only [lenT_s, ↓SXd, SXu, slBounds, ↓sop, ↓aop, ↓reduceIte, LV.cells, AOp.dst, LV.I, LV.B, LV.U, LV.S, LV.nil, Nat.reduceEqDiff, Nat.reduceAdd, Nat.reduceMul, Nat.reduceSub, Nat.reduceLeDiff, Nat.reduceBEq, Nat.reduceDiv, Nat.reduceMod, Int.reduceToNat, Int.reduceLT, Int.reduceLE, Int.reduceAdd, Int.reduceSub, Int.reduceMul, Int.reduceEq, Int.reduceNeg, reduceCtorEq, resV, resAll, ARes.ev, LV.flat, ite_true, ite_false, exists_eq_left', exists_eq_left, keyOf, implies_true, fillC, capOf]
  by_cases h300 : (300 : Int) < s.size
  · simp (disch := omega) only [decide_eq_true, h300, ↓SXd, SXu, slBounds, ↓sop, ↓aop, ↓reduceIte, LV.cells, AOp.dst, LV.I, LV.B, LV.U, LV.S, LV.nil, Nat.reduceEqDiff, Nat.reduceAdd, Nat.reduceMul, Nat.reduceSub, Nat.reduceLeDiff, Nat.reduceBEq, Nat.reduceDiv, Nat.reduceMod, Int.reduceToNat, Int.reduceLT, Int.reduceLE, Int.reduceAdd, Int.reduceSub, Int.reduceMul, Int.reduceEq, Int.reduceNeg, reduceCtorEq, resV, resAll, ARes.ev, LV.flat, ite_true, ite_false, exists_eq_left', exists_eq_left, keyOf, implies_true, fillC, capOf]
    refine memK_all p2 rfl fun N k1 k2 k3 => ?_
    simp (disch := omega) only [k2.cells, C.impl_ParseHeap, ↓SXd, SXu, slBounds, ↓sop, ↓aop, ↓reduceIte, LV.cells, AOp.dst, LV.I, LV.B, LV.U, LV.S, LV.nil, Nat.reduceEqDiff, Nat.reduceAdd, Nat.reduceMul, Nat.reduceSub, Nat.reduceLeDiff, Nat.reduceBEq, Nat.reduceDiv, Nat.reduceMod, Int.reduceToNat, Int.reduceLT, Int.reduceLE, Int.reduceAdd, Int.reduceSub, Int.reduceMul, Int.reduceEq, Int.reduceNeg, reduceCtorEq, resV, resAll, ARes.ev, LV.flat, ite_true, ite_false, exists_eq_left', exists_eq_left, keyOf, implies_true, fillC, capOf]
    exact ph_fail (fun x y z cs hH e => by have := tx_size hH e; omega) (pre_step (j := 0) hM1 (Nat.le_refl _) k1 k3)
  simp (disch := omega) only [decide_eq_false, h300, hg0, lenT_s, List.length_cons, Nat.mul_one, Nat.zero_add, ↓SXd, SXu, slBounds, ↓sop, ↓aop, ↓reduceIte, LV.cells, AOp.dst, LV.I, LV.B, LV.U, LV.S, LV.nil, Nat.reduceEqDiff, Nat.reduceAdd, Nat.reduceMul, Nat.reduceSub, Nat.reduceLeDiff, Nat.reduceBEq, Nat.reduceDiv, Nat.reduceMod, Int.reduceToNat, Int.reduceLT, Int.reduceLE, Int.reduceAdd, Int.reduceSub, Int.reduceMul, Int.reduceEq, Int.reduceNeg, reduceCtorEq, resV, resAll, ARes.ev, LV.flat, ite_true, ite_false, exists_eq_left', exists_eq_left, keyOf, implies_true, fillC, capOf]
  refine condC_dec (fun h5 => ?_) (fun h5 => ?_)
  rotate_left
  · simp (disch := omega) only [↓SXd, SXu, slBounds, ↓sop, ↓aop, ↓reduceIte, LV.cells, AOp.dst, LV.I, LV.B, LV.U, LV.S, LV.nil, Nat.reduceEqDiff, Nat.reduceAdd, Nat.reduceMul, Nat.reduceSub, Nat.reduceLeDiff, Nat.reduceBEq, Nat.reduceDiv, Nat.reduceMod, Int.reduceToNat, Int.reduceLT, Int.reduceLE, Int.reduceAdd, Int.reduceSub, Int.reduceMul, Int.reduceEq, Int.reduceNeg, reduceCtorEq, resV, resAll, ARes.ev, LV.flat, ite_true, ite_false, exists_eq_left', exists_eq_left, keyOf, implies_true, fillC, capOf]
    refine memK_all p2 rfl fun N k1 k2 k3 => ?_
    simp (disch := omega) only [k2.cells, C.impl_ParseHeap, ↓SXd, SXu, slBounds, ↓sop, ↓aop, ↓reduceIte, LV.cells, AOp.dst, LV.I, LV.B, LV.U, LV.S, LV.nil, Nat.reduceEqDiff, Nat.reduceAdd, Nat.reduceMul, Nat.reduceSub, Nat.reduceLeDiff, Nat.reduceBEq, Nat.reduceDiv, Nat.reduceMod, Int.reduceToNat, Int.reduceLT, Int.reduceLE, Int.reduceAdd, Int.reduceSub, Int.reduceMul, Int.reduceEq, Int.reduceNeg, reduceCtorEq, resV, resAll, ARes.ev, LV.flat, ite_true, ite_false, exists_eq_left', exists_eq_left, keyOf, implies_true, fillC, capOf]
    refine ph_fail (fun x y z cs hH e => ?_) (pre_step (j := 0) hM1 (Nat.le_refl _) k1 k3)
    rw [(tx_words hH e hw).1] at h5
    exact h5 rfl
  have hs5 : 5 ≤ s.size := by have := words_first hw; omega
  have u0 := (s.data.toList.getD 0 0).toNat_lt
  have u1 := (s.data.toList.getD 2 0).toNat_lt
  have u2 := (s.data.toList.getD 4 0).toNat_lt
  have hdec : decH s = ⟨((s.data.toList.getD 0 0).toNat : Int) - 48, ((s.data.toList.getD 2 0).toNat : Int) - 48, ((s.data.toList.getD 4 0).toNat : Int) - 48, ws.map cellW⟩ := by
    unfold decH; rw [hw]; rfl
  obtain ⟨d0, h0⟩ : ∃ d, (s.data.toList.getD 0 0).toNat = d := ⟨_, rfl⟩
  obtain ⟨d1, h1⟩ : ∃ d, (s.data.toList.getD 2 0).toNat = d := ⟨_, rfl⟩
  obtain ⟨d2, h2⟩ : ∃ d, (s.data.toList.getD 4 0).toNat = d := ⟨_, rfl⟩
  rw [h0, h1, h2] at hdec
  rw [h0] at u0
  rw [h1] at u1
  rw [h2] at u2
  simp (disch := omega) only [h0, h1, h2, ↓SXd, SXu, slBounds, ↓sop, ↓aop, ↓reduceIte, LV.cells, AOp.dst, LV.I, LV.B, LV.U, LV.S, LV.nil, Nat.reduceEqDiff, Nat.reduceAdd, Nat.reduceMul, Nat.reduceSub, Nat.reduceLeDiff, Nat.reduceBEq, Nat.reduceDiv, Nat.reduceMod, Int.reduceToNat, Int.reduceLT, Int.reduceLE, Int.reduceAdd, Int.reduceSub, Int.reduceMul, Int.reduceEq, Int.reduceNeg, reduceCtorEq, resV, resAll, ARes.ev, LV.flat, ite_true, ite_false, exists_eq_left', exists_eq_left, keyOf, implies_true, fillC, capOf]
  refine callK_of (g_dig (by omega)) ?_
  simp (disch := omega) only [h0, h1, h2, ↓SXd, SXu, slBounds, ↓sop, ↓aop, ↓reduceIte, LV.cells, AOp.dst, LV.I, LV.B, LV.U, LV.S, LV.nil, Nat.reduceEqDiff, Nat.reduceAdd, Nat.reduceMul, Nat.reduceSub, Nat.reduceLeDiff, Nat.reduceBEq, Nat.reduceDiv, Nat.reduceMod, Int.reduceToNat, Int.reduceLT, Int.reduceLE, Int.reduceAdd, Int.reduceSub, Int.reduceMul, Int.reduceEq, Int.reduceNeg, reduceCtorEq, resV, resAll, ARes.ev, LV.flat, ite_true, ite_false, exists_eq_left', exists_eq_left, keyOf, implies_true, fillC, capOf]
  refine callK_of (g_dig (by omega)) ?_
  simp (disch := omega) only [h0, h1, h2, ↓SXd, SXu, slBounds, ↓sop, ↓aop, ↓reduceIte, LV.cells, AOp.dst, LV.I, LV.B, LV.U, LV.S, LV.nil, Nat.reduceEqDiff, Nat.reduceAdd, Nat.reduceMul, Nat.reduceSub, Nat.reduceLeDiff, Nat.reduceBEq, Nat.reduceDiv, Nat.reduceMod, Int.reduceToNat, Int.reduceLT, Int.reduceLE, Int.reduceAdd, Int.reduceSub, Int.reduceMul, Int.reduceEq, Int.reduceNeg, reduceCtorEq, resV, resAll, ARes.ev, LV.flat, ite_true, ite_false, exists_eq_left', exists_eq_left, keyOf, implies_true, fillC, capOf]
  refine callK_of (g_dig (by omega)) ?_
  simp (disch := omega) only [h0, h1, h2, splice, ↓SXd, SXu, slBounds, ↓sop, ↓aop, ↓reduceIte, LV.cells, AOp.dst, LV.I, LV.B, LV.U, LV.S, LV.nil, Nat.reduceEqDiff, Nat.reduceAdd, Nat.reduceMul, Nat.reduceSub, Nat.reduceLeDiff, Nat.reduceBEq, Nat.reduceDiv, Nat.reduceMod, Int.reduceToNat, Int.reduceLT, Int.reduceLE, Int.reduceAdd, Int.reduceSub, Int.reduceMul, Int.reduceEq, Int.reduceNeg, reduceCtorEq, resV, resAll, ARes.ev, LV.flat, ite_true, ite_false, exists_eq_left', exists_eq_left, keyOf, implies_true, fillC, capOf]
  have hes : ∀ {L : Mem}, getEsz (N1 ++ L) t1 = some 1 := (a1.app).esz
  simp (disch := omega) only [hes, if_true, ite_true, ↓SXd, SXu, slBounds, ↓sop, ↓aop, ↓reduceIte, LV.cells, AOp.dst, LV.I, LV.B, LV.U, LV.S, LV.nil, Nat.reduceEqDiff, Nat.reduceAdd, Nat.reduceMul, Nat.reduceSub, Nat.reduceLeDiff, Nat.reduceBEq, Nat.reduceDiv, Nat.reduceMod, Int.reduceToNat, Int.reduceLT, Int.reduceLE, Int.reduceAdd, Int.reduceSub, Int.reduceMul, Int.reduceEq, Int.reduceNeg, reduceCtorEq, resV, resAll, ARes.ev, LV.flat, ite_true, ite_false, exists_eq_left', exists_eq_left, keyOf, implies_true, fillC, capOf]
  refine ev_loop (fun m fr K => ∃ (j : Nat) (acc : List Cell) (wv : LV), j + m = ws.length ∧ acc = (ws.take j).map cellW ∧ Pre N1 K ∧ GrowC N1.length K wv acc ∧ Live K N1.length (.row [.I ((d0 : Int) - 48), .I ((d1 : Int) - 48), .I ((d2 : Int) - 48), wv] true 0) ∧
    fr 0 = .S s ∧ fr 2 = .ptr M.length 0 ∧ fr 5 = .clo F.impl_ParseHeap_1 [] ∧ fr 6 = .ptr N1.length 0 ∧ fr 36 = .ref t1 1 ws.length ∧ fr 37 = .I ws.length ∧ fr 38 = .I j) ws.length
    ⟨0, [], .nil, by omega, rfl, Pre.app _ _, .inl ⟨rfl, rfl⟩, Live.new, rfl, rfl, rfl, rfl, rfl, eqI (by omega), rfl⟩ ?_
  clear hg0 hes
  rintro m fr K ⟨j, acc, wv, hj, hacc, hpk, bu, b6, f0, f2, f5, f6, f36, f37, f38⟩
  have hal : acc.length = j := by rw [hacc, List.length_map, List.length_take]; omega
  have l6 := b6.lt
  have pk2 := p2.pre hpk
  have hMk := hM1.trans hpk
  have hfin : ∀ x y z cs, HeapOK x y z cs → txH x y z cs = s → x = (d0 : Int) - 48 ∧ y = (d1 : Int) - 48 ∧ z = (d2 : Int) - 48 ∧ ws.map cellW = cs := fun x y z cs hH e => by
    have e1 := dec_tx hH
    rw [e, hdec] at e1
    injection e1 with e1 e2 e3 e4
    exact ⟨e1.symm, e2.symm, e3.symm, e4⟩
  simp (disch := omega) only [f0, f2, f5, f6, f36, f37, f38, ↓SXd, SXu, slBounds, ↓sop, ↓aop, ↓reduceIte, LV.cells, AOp.dst, LV.I, LV.B, LV.U, LV.S, LV.nil, Nat.reduceEqDiff, Nat.reduceAdd, Nat.reduceMul, Nat.reduceSub, Nat.reduceLeDiff, Nat.reduceBEq, Nat.reduceDiv, Nat.reduceMod, Int.reduceToNat, Int.reduceLT, Int.reduceLE, Int.reduceAdd, Int.reduceSub, Int.reduceMul, Int.reduceEq, Int.reduceNeg, reduceCtorEq, resV, resAll, ARes.ev, LV.flat, ite_true, ite_false, exists_eq_left', exists_eq_left, keyOf, implies_true, fillC, capOf]
  refine condC_dec (fun hlt => ?_) (fun hlt => ?_)
  · have hjl : j < ws.length := by omega
    have hgj : getCell K t1 (1 + j) = some (.S (ws.getD j default)) := by
      rw [(a1.pre hpk).cell, strL_get (by rw [List.length_cons]; omega), Nat.add_comm]; rfl
    have htk : (ws.take (j + 1)).map cellW = acc ++ [cellW (ws.getD j default)] := by
      rw [List.take_succ_eq_append_getElem hjl, List.map_append, hacc, List.getD_eq_getElem?_getD, List.getElem?_eq_getElem hjl]; rfl
    have hth : ∀ x y z cs, HeapOK x y z cs → txH x y z cs = s → (ws.getD j default).size = 3 := fun x y z cs hH e => tx_three (tx_words hH e hw).2 hjl
    generalize ws.getD j default = w at *
    simp (disch := omega) only [f0, f2, f5, f6, f36, f37, f38, hgj, lenT_s, Nat.mul_one, Nat.zero_add, ↓SXd, SXu, slBounds, ↓sop, ↓aop, ↓reduceIte, LV.cells, AOp.dst, LV.I, LV.B, LV.U, LV.S, LV.nil, Nat.reduceEqDiff, Nat.reduceAdd, Nat.reduceMul, Nat.reduceSub, Nat.reduceLeDiff, Nat.reduceBEq, Nat.reduceDiv, Nat.reduceMod, Int.reduceToNat, Int.reduceLT, Int.reduceLE, Int.reduceAdd, Int.reduceSub, Int.reduceMul, Int.reduceEq, Int.reduceNeg, reduceCtorEq, resV, resAll, ARes.ev, LV.flat, ite_true, ite_false, exists_eq_left', exists_eq_left, keyOf, implies_true, fillC, capOf]
    refine condC_dec (fun h3 => ?_) (fun h3 => ?_)
    rotate_left
    · simp (disch := omega) only [f0, f2, f5, f6, f36, f37, f38, ↓SXd, SXu, slBounds, ↓sop, ↓aop, ↓reduceIte, LV.cells, AOp.dst, LV.I, LV.B, LV.U, LV.S, LV.nil, Nat.reduceEqDiff, Nat.reduceAdd, Nat.reduceMul, Nat.reduceSub, Nat.reduceLeDiff, Nat.reduceBEq, Nat.reduceDiv, Nat.reduceMod, Int.reduceToNat, Int.reduceLT, Int.reduceLE, Int.reduceAdd, Int.reduceSub, Int.reduceMul, Int.reduceEq, Int.reduceNeg, reduceCtorEq, resV, resAll, ARes.ev, LV.flat, ite_true, ite_false, exists_eq_left', exists_eq_left, keyOf, implies_true, fillC, capOf]
      refine memK_all pk2 rfl fun N k1 k2 k3 => ?_
      simp (disch := omega) only [f0, f2, f5, f6, f36, f37, f38, k2.cells, C.impl_ParseHeap, ↓SXd, SXu, slBounds, ↓sop, ↓aop, ↓reduceIte, LV.cells, AOp.dst, LV.I, LV.B, LV.U, LV.S, LV.nil, Nat.reduceEqDiff, Nat.reduceAdd, Nat.reduceMul, Nat.reduceSub, Nat.reduceLeDiff, Nat.reduceBEq, Nat.reduceDiv, Nat.reduceMod, Int.reduceToNat, Int.reduceLT, Int.reduceLE, Int.reduceAdd, Int.reduceSub, Int.reduceMul, Int.reduceEq, Int.reduceNeg, reduceCtorEq, resV, resAll, ARes.ev, LV.flat, ite_true, ite_false, exists_eq_left', exists_eq_left, keyOf, implies_true, fillC, capOf]
      refine ph_fail (fun x y z cs hH e => ?_) (pre_step (j := 0) hMk (Nat.le_refl _) k1 k3)
      have := hth x y z cs hH e
      omega
    · have hw3 : w.size = 3 := by omega
      have v0 := (w.data.toList.getD 0 0).toNat_lt
      have v1 := (w.data.toList.getD 1 0).toNat_lt
      have v2 := (w.data.toList.getD 2 0).toNat_lt
      have hc : cellW w = ⟨((w.data.toList.getD 0 0).toNat : Int) - 48, ((w.data.toList.getD 1 0).toNat : Int) - 48, ((w.data.toList.getD 2 0).toNat : Int) - 48⟩ := rfl
      rw [hc] at htk
      obtain ⟨c0, g0⟩ : ∃ d, (w.data.toList.getD 0 0).toNat = d := ⟨_, rfl⟩
      obtain ⟨c1, g1⟩ : ∃ d, (w.data.toList.getD 1 0).toNat = d := ⟨_, rfl⟩
      obtain ⟨c2, g2⟩ : ∃ d, (w.data.toList.getD 2 0).toNat = d := ⟨_, rfl⟩
      rw [g0, g1, g2] at htk
      rw [g0] at v0
      rw [g1] at v1
      rw [g2] at v2
      simp (disch := omega) only [f0, f2, f5, f6, f36, f37, f38, b6.cell, hgj, lenT_s, hw3, g0, g1, g2, Nat.mul_one, Nat.zero_add, splice, ↓SXd, SXu, slBounds, ↓sop, ↓aop, ↓reduceIte, LV.cells, AOp.dst, LV.I, LV.B, LV.U, LV.S, LV.nil, Nat.reduceEqDiff, Nat.reduceAdd, Nat.reduceMul, Nat.reduceSub, Nat.reduceLeDiff, Nat.reduceBEq, Nat.reduceDiv, Nat.reduceMod, Int.reduceToNat, Int.reduceLT, Int.reduceLE, Int.reduceAdd, Int.reduceSub, Int.reduceMul, Int.reduceEq, Int.reduceNeg, reduceCtorEq, resV, resAll, ARes.ev, LV.flat, ite_true, ite_false, exists_eq_left', exists_eq_left, keyOf, implies_true, fillC, capOf]
      refine callK_of (g_dig (by omega)) ?_
      simp (disch := omega) only [f0, f2, f5, f6, f36, f37, f38, b6.cell, hw3, g0, g1, g2, Nat.mul_one, Nat.zero_add, splice, ↓SXd, SXu, slBounds, ↓sop, ↓aop, ↓reduceIte, LV.cells, AOp.dst, LV.I, LV.B, LV.U, LV.S, LV.nil, Nat.reduceEqDiff, Nat.reduceAdd, Nat.reduceMul, Nat.reduceSub, Nat.reduceLeDiff, Nat.reduceBEq, Nat.reduceDiv, Nat.reduceMod, Int.reduceToNat, Int.reduceLT, Int.reduceLE, Int.reduceAdd, Int.reduceSub, Int.reduceMul, Int.reduceEq, Int.reduceNeg, reduceCtorEq, resV, resAll, ARes.ev, LV.flat, ite_true, ite_false, exists_eq_left', exists_eq_left, keyOf, implies_true, fillC, capOf]
      refine callK_of (g_dig (by omega)) ?_
      simp (disch := omega) only [f0, f2, f5, f6, f36, f37, f38, b6.cell, hw3, g0, g1, g2, Nat.mul_one, Nat.zero_add, splice, ↓SXd, SXu, slBounds, ↓sop, ↓aop, ↓reduceIte, LV.cells, AOp.dst, LV.I, LV.B, LV.U, LV.S, LV.nil, Nat.reduceEqDiff, Nat.reduceAdd, Nat.reduceMul, Nat.reduceSub, Nat.reduceLeDiff, Nat.reduceBEq, Nat.reduceDiv, Nat.reduceMod, Int.reduceToNat, Int.reduceLT, Int.reduceLE, Int.reduceAdd, Int.reduceSub, Int.reduceMul, Int.reduceEq, Int.reduceNeg, reduceCtorEq, resV, resAll, ARes.ev, LV.flat, ite_true, ite_false, exists_eq_left', exists_eq_left, keyOf, implies_true, fillC, capOf]
      refine callK_of (g_dig (by omega)) ?_
      simp (disch := omega) only [f0, f2, f5, f6, f36, f37, f38, b6.cell, hw3, g0, g1, g2, Nat.mul_one, Nat.zero_add, splice, ↓SXd, SXu, slBounds, ↓sop, ↓aop, ↓reduceIte, LV.cells, AOp.dst, LV.I, LV.B, LV.U, LV.S, LV.nil, Nat.reduceEqDiff, Nat.reduceAdd, Nat.reduceMul, Nat.reduceSub, Nat.reduceLeDiff, Nat.reduceBEq, Nat.reduceDiv, Nat.reduceMod, Int.reduceToNat, Int.reduceLT, Int.reduceLE, Int.reduceAdd, Int.reduceSub, Int.reduceMul, Int.reduceEq, Int.reduceNeg, reduceCtorEq, resV, resAll, ARes.ev, LV.flat, ite_true, ite_false, exists_eq_left', exists_eq_left, keyOf, implies_true, fillC, capOf]
      refine appendK_grow bu (by omega) l6 fun u K1 k1 k2 k3 k4 => ?_
      have c6 : Live K1 N1.length (.row [.I ((d0 : Int) - 48), .I ((d1 : Int) - 48), .I ((d2 : Int) - 48), wv] true 0) := by unfold Live; rw [k4 _ (Nat.le_refl _)]; exact b6
      have hp1 : Pre N1 K1 := ⟨by have := hpk.1; omega, fun q hq => by rw [k4 q (by omega)]; exact hpk.2 q hq⟩
      simp (disch := omega) only [f0, f2, f5, f6, f36, f37, f38, ↓SXd, SXu, slBounds, ↓sop, ↓aop, ↓reduceIte, LV.cells, AOp.dst, LV.I, LV.B, LV.U, LV.S, LV.nil, Nat.reduceEqDiff, Nat.reduceAdd, Nat.reduceMul, Nat.reduceSub, Nat.reduceLeDiff, Nat.reduceBEq, Nat.reduceDiv, Nat.reduceMod, Int.reduceToNat, Int.reduceLT, Int.reduceLE, Int.reduceAdd, Int.reduceSub, Int.reduceMul, Int.reduceEq, Int.reduceNeg, reduceCtorEq, resV, resAll, ARes.ev, LV.flat, ite_true, ite_false, exists_eq_left', exists_eq_left, keyOf, implies_true, fillC, capOf]
      refine memK_st c6 (by simp) fun K2 q1 q2 q3 => ?_
      have q2' : Live K2 N1.length (.row [.I ((d0 : Int) - 48), .I ((d1 : Int) - 48), .I ((d2 : Int) - 48), .ref u 0 (acc ++ [(⟨(c0 : Int) - 48, (c1 : Int) - 48, (c2 : Int) - 48⟩ : Cell)]).length] true 0) := q2
      simp (disch := omega) only [f0, f2, f5, f6, f36, f37, f38, ↓SXd, SXu, slBounds, ↓sop, ↓aop, ↓reduceIte, LV.cells, AOp.dst, LV.I, LV.B, LV.U, LV.S, LV.nil, Nat.reduceEqDiff, Nat.reduceAdd, Nat.reduceMul, Nat.reduceSub, Nat.reduceLeDiff, Nat.reduceBEq, Nat.reduceDiv, Nat.reduceMod, Int.reduceToNat, Int.reduceLT, Int.reduceLE, Int.reduceAdd, Int.reduceSub, Int.reduceMul, Int.reduceEq, Int.reduceNeg, reduceCtorEq, resV, resAll, ARes.ev, LV.flat, ite_true, ite_false, exists_eq_left', exists_eq_left, keyOf, implies_true, fillC, capOf]
      refine ⟨m - 1, by omega, j + 1, acc ++ [⟨(c0 : Int) - 48, (c1 : Int) - 48, (c2 : Int) - 48⟩], _, by omega, htk.symm, pre_step (j := 0) hp1 (Nat.le_refl _) q1 q3, .inr ⟨u, rfl, k2, live_step k3 (by omega) q3⟩, q2', f0, f2, f5, f6, f36, f37, eqI (natI _)⟩
  · have hjw : j = ws.length := by omega
    subst hjw
    rw [List.take_length] at hacc
    simp (disch := omega) only [f0, f2, f5, f6, f36, f37, f38, b6.cells, ↓SXd, SXu, slBounds, ↓sop, ↓aop, ↓reduceIte, LV.cells, AOp.dst, LV.I, LV.B, LV.U, LV.S, LV.nil, Nat.reduceEqDiff, Nat.reduceAdd, Nat.reduceMul, Nat.reduceSub, Nat.reduceLeDiff, Nat.reduceBEq, Nat.reduceDiv, Nat.reduceMod, Int.reduceToNat, Int.reduceLT, Int.reduceLE, Int.reduceAdd, Int.reduceSub, Int.reduceMul, Int.reduceEq, Int.reduceNeg, reduceCtorEq, resV, resAll, ARes.ev, LV.flat, ite_true, ite_false, exists_eq_left', exists_eq_left, keyOf, implies_true, fillC, capOf]
    refine callK_of (bu.isHeap (by omega)) ?_
    by_cases hH : HeapOK ((d0 : Int) - 48) ((d1 : Int) - 48) ((d2 : Int) - 48) acc
    · simp (disch := omega) only [f0, f2, f5, f6, f36, f37, f38, hH, b6.cells, ↓SXd, SXu, slBounds, ↓sop, ↓aop, ↓reduceIte, LV.cells, AOp.dst, LV.I, LV.B, LV.U, LV.S, LV.nil, Nat.reduceEqDiff, Nat.reduceAdd, Nat.reduceMul, Nat.reduceSub, Nat.reduceLeDiff, Nat.reduceBEq, Nat.reduceDiv, Nat.reduceMod, Int.reduceToNat, Int.reduceLT, Int.reduceLE, Int.reduceAdd, Int.reduceSub, Int.reduceMul, Int.reduceEq, Int.reduceNeg, reduceCtorEq, resV, resAll, ARes.ev, LV.flat, ite_true, ite_false, exists_eq_left', exists_eq_left, keyOf, implies_true, fillC, capOf]
      refine callK_of (bu.text hH) ?_
      by_cases hts : txH ((d0 : Int) - 48) ((d1 : Int) - 48) ((d2 : Int) - 48) acc = s
      · simp (disch := omega) only [f0, f2, f5, f6, f36, f37, f38, bvs_neq, ba_beq, decide_eq_true, hts, Bool.not_true, b6.cells, ↓SXd, SXu, slBounds, ↓sop, ↓aop, ↓reduceIte, LV.cells, AOp.dst, LV.I, LV.B, LV.U, LV.S, LV.nil, Nat.reduceEqDiff, Nat.reduceAdd, Nat.reduceMul, Nat.reduceSub, Nat.reduceLeDiff, Nat.reduceBEq, Nat.reduceDiv, Nat.reduceMod, Int.reduceToNat, Int.reduceLT, Int.reduceLE, Int.reduceAdd, Int.reduceSub, Int.reduceMul, Int.reduceEq, Int.reduceNeg, reduceCtorEq, resV, resAll, ARes.ev, LV.flat, ite_true, ite_false, exists_eq_left', exists_eq_left, keyOf, implies_true, fillC, capOf]
        refine memK_all pk2 rfl fun N k1 k2 k3 => ?_
        simp (disch := omega) only [f0, f2, f5, f6, f36, f37, f38, k2.cells, C.impl_ParseHeap, ↓SXd, SXu, slBounds, ↓sop, ↓aop, ↓reduceIte, LV.cells, AOp.dst, LV.I, LV.B, LV.U, LV.S, LV.nil, Nat.reduceEqDiff, Nat.reduceAdd, Nat.reduceMul, Nat.reduceSub, Nat.reduceLeDiff, Nat.reduceBEq, Nat.reduceDiv, Nat.reduceMod, Int.reduceToNat, Int.reduceLT, Int.reduceLE, Int.reduceAdd, Int.reduceSub, Int.reduceMul, Int.reduceEq, Int.reduceNeg, reduceCtorEq, resV, resAll, ARes.ev, LV.flat, ite_true, ite_false, exists_eq_left', exists_eq_left, keyOf, implies_true, fillC, capOf]
        show HeapRes M (phOf s) [] _ _
        rw [ph_some hH hts]
        exact ⟨wv, rfl, (bu.keep fun q h1 h2 => k3 q (by omega) h2).slC, bu.newer (by omega), pre_step (j := 0) hMk (Nat.le_refl _) k1 k3⟩
      · simp (disch := omega) only [f0, f2, f5, f6, f36, f37, f38, bvs_neq, ba_beq, decide_eq_false, hts, Bool.not_false, ↓SXd, SXu, slBounds, ↓sop, ↓aop, ↓reduceIte, LV.cells, AOp.dst, LV.I, LV.B, LV.U, LV.S, LV.nil, Nat.reduceEqDiff, Nat.reduceAdd, Nat.reduceMul, Nat.reduceSub, Nat.reduceLeDiff, Nat.reduceBEq, Nat.reduceDiv, Nat.reduceMod, Int.reduceToNat, Int.reduceLT, Int.reduceLE, Int.reduceAdd, Int.reduceSub, Int.reduceMul, Int.reduceEq, Int.reduceNeg, reduceCtorEq, resV, resAll, ARes.ev, LV.flat, ite_true, ite_false, exists_eq_left', exists_eq_left, keyOf, implies_true, fillC, capOf]
        refine memK_all pk2 rfl fun N k1 k2 k3 => ?_
        simp (disch := omega) only [f0, f2, f5, f6, f36, f37, f38, k2.cells, C.impl_ParseHeap, ↓SXd, SXu, slBounds, ↓sop, ↓aop, ↓reduceIte, LV.cells, AOp.dst, LV.I, LV.B, LV.U, LV.S, LV.nil, Nat.reduceEqDiff, Nat.reduceAdd, Nat.reduceMul, Nat.reduceSub, Nat.reduceLeDiff, Nat.reduceBEq, Nat.reduceDiv, Nat.reduceMod, Int.reduceToNat, Int.reduceLT, Int.reduceLE, Int.reduceAdd, Int.reduceSub, Int.reduceMul, Int.reduceEq, Int.reduceNeg, reduceCtorEq, resV, resAll, ARes.ev, LV.flat, ite_true, ite_false, exists_eq_left', exists_eq_left, keyOf, implies_true, fillC, capOf]
        refine ph_fail (fun x y z cs hH e => ?_) (pre_step (j := 0) hMk (Nat.le_refl _) k1 k3)
        obtain ⟨rfl, rfl, rfl, e4⟩ := hfin x y z cs hH e
        rw [hacc, e4] at hts
        exact hts e
    · simp (disch := omega) only [f0, f2, f5, f6, f36, f37, f38, hH, ↓SXd, SXu, slBounds, ↓sop, ↓aop, ↓reduceIte, LV.cells, AOp.dst, LV.I, LV.B, LV.U, LV.S, LV.nil, Nat.reduceEqDiff, Nat.reduceAdd, Nat.reduceMul, Nat.reduceSub, Nat.reduceLeDiff, Nat.reduceBEq, Nat.reduceDiv, Nat.reduceMod, Int.reduceToNat, Int.reduceLT, Int.reduceLE, Int.reduceAdd, Int.reduceSub, Int.reduceMul, Int.reduceEq, Int.reduceNeg, reduceCtorEq, resV, resAll, ARes.ev, LV.flat, ite_true, ite_false, exists_eq_left', exists_eq_left, keyOf, implies_true, fillC, capOf]
      refine memK_all pk2 rfl fun N k1 k2 k3 => ?_
      simp (disch := omega) only [f0, f2, f5, f6, f36, f37, f38, k2.cells, C.impl_ParseHeap, ↓SXd, SXu, slBounds, ↓sop, ↓aop, ↓reduceIte, LV.cells, AOp.dst, LV.I, LV.B, LV.U, LV.S, LV.nil, Nat.reduceEqDiff, Nat.reduceAdd, Nat.reduceMul, Nat.reduceSub, Nat.reduceLeDiff, Nat.reduceBEq, Nat.reduceDiv, Nat.reduceMod, Int.reduceToNat, Int.reduceLT, Int.reduceLE, Int.reduceAdd, Int.reduceSub, Int.reduceMul, Int.reduceEq, Int.reduceNeg, reduceCtorEq, resV, resAll, ARes.ev, LV.flat, ite_true, ite_false, exists_eq_left', exists_eq_left, keyOf, implies_true, fillC, capOf]
      refine ph_fail (fun x y z cs hH' e => ?_) (pre_step (j := 0) hMk (Nat.le_refl _) k1 k3)
      obtain ⟨rfl, rfl, rfl, e4⟩ := hfin x y z cs hH' e
      rw [hacc, e4] at hH
      exact hH hH'
end Go.Ab

namespace Go.Ab
open Go
set_option maxRecDepth 20000

theorem l_ParseHeap {s : ByteArray} {M : Mem} : CallsR PG F.laws_FnExactParseHeap [.S s] M fun v _ => v = .B true := by
  refine callsR_run K.laws_FnExactParseHeap rfl ?_
  simp (disch := omega) only [C.laws_FnExactParseHeap, lenT_s, ↓SXd, SXu, slBounds, ↓sop, ↓aop, ↓reduceIte, LV.cells, AOp.dst, LV.I, LV.B, LV.U, LV.S, LV.nil, Nat.reduceEqDiff, Nat.reduceAdd, Nat.reduceMul, Nat.reduceSub, Nat.reduceLeDiff, Nat.reduceBEq, Nat.reduceDiv, Nat.reduceMod, Int.reduceToNat, Int.reduceLT, Int.reduceLE, Int.reduceAdd, Int.reduceSub, Int.reduceMul, Int.reduceEq, Int.reduceNeg, reduceCtorEq, resV, resAll, ARes.ev, LV.flat, ite_true, ite_false, exists_eq_left', exists_eq_left, keyOf, implies_true, fillC, capOf]
  refine condC_dec (fun hl => ?_) (fun hl => ?_)
  · simp (disch := omega) only [C.laws_FnExactParseHeap, ↓SXd, SXu, slBounds, ↓sop, ↓aop, ↓reduceIte, LV.cells, AOp.dst, LV.I, LV.B, LV.U, LV.S, LV.nil, Nat.reduceEqDiff, Nat.reduceAdd, Nat.reduceMul, Nat.reduceSub, Nat.reduceLeDiff, Nat.reduceBEq, Nat.reduceDiv, Nat.reduceMod, Int.reduceToNat, Int.reduceLT, Int.reduceLE, Int.reduceAdd, Int.reduceSub, Int.reduceMul, Int.reduceEq, Int.reduceNeg, reduceCtorEq, resV, resAll, ARes.ev, LV.flat, ite_true, ite_false, exists_eq_left', exists_eq_left, keyOf, implies_true, fillC, capOf]
    rfl
  · have hs : s.size ≤ 1048576 := by omega
    have hrl : ((phOf s).getD Hp.none).cs.length ≤ 1000000000 := Nat.le_trans ph_len (by omega)
    have hsp := fun {M : Mem} => h_sParseHeap (s := s) (M := M) hs
    have hgp := fun {M : Mem} => g_ParseHeap (s := s) (M := M) hs
    unfold HeapRes at hsp hgp
    obtain ⟨R, hR⟩ : ∃ R, (phOf s).getD Hp.none = R := ⟨_, rfl⟩
    obtain ⟨b, hb⟩ : ∃ b, (phOf s).isSome = b := ⟨_, rfl⟩
    rw [hR] at hrl
    rw [hR, hb] at hsp hgp
    clear hR hb
    have heqR : ∀ {v v' : LV} {M : Mem}, CellsV M v R.cs → CellsV M v' R.cs → CallsTo PG F.laws_eqHeap [.agg [.I R.x, .I R.y, .I R.z, v], .agg [.I R.x, .I R.y, .I R.z, v']] M (.B true) M := fun {v v' M} h1 h2 => by
      have := h_eqHeapV (x := R.x) (y := R.y) (z := R.z) (x' := R.x) (y' := R.y) (z' := R.z) h1 h2 hrl hrl
      rwa [decide_eq_true (by simp)] at this
    simp (disch := omega) only [C.laws_FnExactParseHeap, ↓SXd, SXu, slBounds, ↓sop, ↓aop, ↓reduceIte, LV.cells, AOp.dst, LV.I, LV.B, LV.U, LV.S, LV.nil, Nat.reduceEqDiff, Nat.reduceAdd, Nat.reduceMul, Nat.reduceSub, Nat.reduceLeDiff, Nat.reduceBEq, Nat.reduceDiv, Nat.reduceMod, Int.reduceToNat, Int.reduceLT, Int.reduceLE, Int.reduceAdd, Int.reduceSub, Int.reduceMul, Int.reduceEq, Int.reduceNeg, reduceCtorEq, resV, resAll, ARes.ev, LV.flat, ite_true, ite_false, exists_eq_left', exists_eq_left, keyOf, implies_true, fillC, capOf]
    refine callR_of hsp ?_
    rintro _ N1 ⟨w, rfl, hw, hwn, hp1⟩
    simp (disch := omega) only [List.nil_append, splice, ↓SXd, SXu, slBounds, ↓sop, ↓aop, ↓reduceIte, LV.cells, AOp.dst, LV.I, LV.B, LV.U, LV.S, LV.nil, Nat.reduceEqDiff, Nat.reduceAdd, Nat.reduceMul, Nat.reduceSub, Nat.reduceLeDiff, Nat.reduceBEq, Nat.reduceDiv, Nat.reduceMod, Int.reduceToNat, Int.reduceLT, Int.reduceLE, Int.reduceAdd, Int.reduceSub, Int.reduceMul, Int.reduceEq, Int.reduceNeg, reduceCtorEq, resV, resAll, ARes.ev, LV.flat, ite_true, ite_false, exists_eq_left', exists_eq_left, keyOf, implies_true, fillC, capOf]
    have w1 : Live (N1 ++ [some (R.row w)]) N1.length (R.row w) := Live.new
    have hw1 := hw.pre (Pre.app N1 [some (R.row w)])
    have hM1 : Pre M (N1 ++ [some (R.row w)]) := hp1.trans (Pre.app _ _)
    have hlW := w1.lt
    have how := hw.older
    clear hw hp1
    generalize hW : N1 ++ [some (R.row w)] = W at *
    refine callR_of hgp ?_
    rintro _ N2 ⟨g, rfl, hg, hgn, hp2⟩
    simp (disch := omega) only [List.nil_append, splice, ↓SXd, SXu, slBounds, ↓sop, ↓aop, ↓reduceIte, LV.cells, AOp.dst, LV.I, LV.B, LV.U, LV.S, LV.nil, Nat.reduceEqDiff, Nat.reduceAdd, Nat.reduceMul, Nat.reduceSub, Nat.reduceLeDiff, Nat.reduceBEq, Nat.reduceDiv, Nat.reduceMod, Int.reduceToNat, Int.reduceLT, Int.reduceLE, Int.reduceAdd, Int.reduceSub, Int.reduceMul, Int.reduceEq, Int.reduceNeg, reduceCtorEq, resV, resAll, ARes.ev, LV.flat, ite_true, ite_false, exists_eq_left', exists_eq_left, keyOf, implies_true, fillC, capOf]
    have hp12 : Pre W (N2 ++ [some (R.row g)]) := hp2.trans (Pre.app _ _)
    have w2 := w1.pre hp12
    have g2 : Live (N2 ++ [some (R.row g)]) N2.length (R.row g) := Live.new
    have hw2 := hw1.pre hp12
    have hg2 := hg.pre (Pre.app N2 [some (R.row g)])
    have hgo2 := hg.older
    clear hg hp2
    generalize hG : N2 ++ [some (R.row g)] = G at *
    simp (disch := omega) only [g2.cells, w2.cells, ↓SXd, SXu, slBounds, ↓sop, ↓aop, ↓reduceIte, LV.cells, AOp.dst, LV.I, LV.B, LV.U, LV.S, LV.nil, Nat.reduceEqDiff, Nat.reduceAdd, Nat.reduceMul, Nat.reduceSub, Nat.reduceLeDiff, Nat.reduceBEq, Nat.reduceDiv, Nat.reduceMod, Int.reduceToNat, Int.reduceLT, Int.reduceLE, Int.reduceAdd, Int.reduceSub, Int.reduceMul, Int.reduceEq, Int.reduceNeg, reduceCtorEq, resV, resAll, ARes.ev, LV.flat, ite_true, ite_false, exists_eq_left', exists_eq_left, keyOf, implies_true, fillC, capOf]
    refine callK_of (heqR hg2.v hw2.v) ?_
    simp (disch := omega) only [g2.cells, ↓SXd, SXu, slBounds, ↓sop, ↓aop, ↓reduceIte, LV.cells, AOp.dst, LV.I, LV.B, LV.U, LV.S, LV.nil, Nat.reduceEqDiff, Nat.reduceAdd, Nat.reduceMul, Nat.reduceSub, Nat.reduceLeDiff, Nat.reduceBEq, Nat.reduceDiv, Nat.reduceMod, Int.reduceToNat, Int.reduceLT, Int.reduceLE, Int.reduceAdd, Int.reduceSub, Int.reduceMul, Int.reduceEq, Int.reduceNeg, reduceCtorEq, resV, resAll, ARes.ev, LV.flat, ite_true, ite_false, exists_eq_left', exists_eq_left, keyOf, implies_true, fillC, capOf]
    refine callR_of (h_markHeap hg2 hrl (by omega)) ?_
    rintro _ N5 ⟨rfl, hg5, hN5a, hN5b⟩
    have hp5 : PreV g G N5 := ⟨hN5a, hN5b⟩
    have hgw : Apart g w := Newer.apart hgn hw1.older
    have hw5 := hp5.slC hw2 hgw
    have w5 := hp5.live w2 (hgn _ (by omega))
    have g5 := hp5.live g2 (hgo2.off (Nat.le_refl _))
    have hk2 : ¬ (1 + 3 * (R.cs.length : Int) < 0) := by omega
    simp (disch := omega) only [g5.cells, ↓SXd, SXu, slBounds, ↓sop, ↓aop, ↓reduceIte, LV.cells, AOp.dst, LV.I, LV.B, LV.U, LV.S, LV.nil, Nat.reduceEqDiff, Nat.reduceAdd, Nat.reduceMul, Nat.reduceSub, Nat.reduceLeDiff, Nat.reduceBEq, Nat.reduceDiv, Nat.reduceMod, Int.reduceToNat, Int.reduceLT, Int.reduceLE, Int.reduceAdd, Int.reduceSub, Int.reduceMul, Int.reduceEq, Int.reduceNeg, reduceCtorEq, resV, resAll, ARes.ev, LV.flat, ite_true, ite_false, exists_eq_left', exists_eq_left, keyOf, implies_true, fillC, capOf]
    refine callK_of (h_heldHeap hg5.v hrl (by omega)) ?_
    simp (disch := omega) only [hk2, ↓SXd, SXu, slBounds, ↓sop, ↓aop, ↓reduceIte, LV.cells, AOp.dst, LV.I, LV.B, LV.U, LV.S, LV.nil, Nat.reduceEqDiff, Nat.reduceAdd, Nat.reduceMul, Nat.reduceSub, Nat.reduceLeDiff, Nat.reduceBEq, Nat.reduceDiv, Nat.reduceMod, Int.reduceToNat, Int.reduceLT, Int.reduceLE, Int.reduceAdd, Int.reduceSub, Int.reduceMul, Int.reduceEq, Int.reduceNeg, reduceCtorEq, resV, resAll, ARes.ev, LV.flat, ite_true, ite_false, exists_eq_left', exists_eq_left, keyOf, implies_true, fillC, capOf]
    refine callR_of hgp ?_
    rintro _ N6 ⟨g6, rfl, hg6, hgn6, hp6⟩
    have hp56 : Pre N5 (N6 ++ [some (R.row g6)]) := hp6.trans (Pre.app _ _)
    have w6 := w5.pre hp56
    have g6' := g5.pre hp56
    have hg6' := hg6.pre (Pre.app N6 [some (R.row g6)])
    simp (disch := omega) only [List.nil_append, splice, w6.cells, (Live.new (M := N6) (b := R.row g6)).cells, ↓SXd, SXu, slBounds, ↓sop, ↓aop, ↓reduceIte, LV.cells, AOp.dst, LV.I, LV.B, LV.U, LV.S, LV.nil, Nat.reduceEqDiff, Nat.reduceAdd, Nat.reduceMul, Nat.reduceSub, Nat.reduceLeDiff, Nat.reduceBEq, Nat.reduceDiv, Nat.reduceMod, Int.reduceToNat, Int.reduceLT, Int.reduceLE, Int.reduceAdd, Int.reduceSub, Int.reduceMul, Int.reduceEq, Int.reduceNeg, reduceCtorEq, resV, resAll, ARes.ev, LV.flat, ite_true, ite_false, exists_eq_left', exists_eq_left, keyOf, implies_true, fillC, capOf]
    refine callK_of (heqR hg6'.v (hw5.pre hp56).v) ?_
    simp (disch := omega) only [g6'.cells, ↓SXd, SXu, slBounds, ↓sop, ↓aop, ↓reduceIte, LV.cells, AOp.dst, LV.I, LV.B, LV.U, LV.S, LV.nil, Nat.reduceEqDiff, Nat.reduceAdd, Nat.reduceMul, Nat.reduceSub, Nat.reduceLeDiff, Nat.reduceBEq, Nat.reduceDiv, Nat.reduceMod, Int.reduceToNat, Int.reduceLT, Int.reduceLE, Int.reduceAdd, Int.reduceSub, Int.reduceMul, Int.reduceEq, Int.reduceNeg, reduceCtorEq, resV, resAll, ARes.ev, LV.flat, ite_true, ite_false, exists_eq_left', exists_eq_left, keyOf, implies_true, fillC, capOf]
    refine callK_of (h_heldHeap (hg5.pre hp56).v hrl (by omega)) ?_
    simp (disch := omega) only [hk2, ↓SXd, SXu, slBounds, ↓sop, ↓aop, ↓reduceIte, LV.cells, AOp.dst, LV.I, LV.B, LV.U, LV.S, LV.nil, Nat.reduceEqDiff, Nat.reduceAdd, Nat.reduceMul, Nat.reduceSub, Nat.reduceLeDiff, Nat.reduceBEq, Nat.reduceDiv, Nat.reduceMod, Int.reduceToNat, Int.reduceLT, Int.reduceLE, Int.reduceAdd, Int.reduceSub, Int.reduceMul, Int.reduceEq, Int.reduceNeg, reduceCtorEq, resV, resAll, ARes.ev, LV.flat, ite_true, ite_false, exists_eq_left', exists_eq_left, keyOf, implies_true, fillC, capOf]
    rfl
end Go.Ab

namespace Go.Ab
open Go Go.RowKit

def NoOwn (M : Mem) : Prop := ∀ t b, Live M t b → b.isOwn = false

theorem law_callsR {P : Program} {f : FuncId} {args : List LV} {M : Mem} {b : Bool} {G : Gh} {w : World} {xs : List Value} (hc : CallsR P f args M fun v _ => v = .B b) (hi : Inv G M w) (hn : NoOwn M) (hx : All2 (VR G) args xs) :
    Calls P f xs.toArray w fun e w' => e = .returned (.bool b) ∧ Below w.heap.size w w' := by
  refine (hc.2 G w xs hi hx).mono ?_
  rintro e w' ⟨v, N, x, G', rfl, rfl, h1, h2, h3⟩
  refine ⟨by rw [(vr_val h1).1], h3.os, h3.tape, h3.output, h3.size, fun k hk => h3.keep k hk ?_⟩
  rintro ⟨t, blk, β, hl, ho, _⟩
  rw [hn t blk hl] at ho; cases ho
end Go.Ab

namespace Go.Ab
open Go Go.RowKit

section
variable {H : Type} {enc : TypeId × Value → H} {P : Program} {w : World} {held : Bool}

def RowOf (w : World) (a : Option Addr) (len cap : Nat) (cs : List Cell) : Prop :=
  cs.length = len ∧ len ≤ cap ∧ cap ≤ maxLen ∧ (cap = 0 ∨ ∃ b o c e fz, a = some ⟨b, o, none⟩ ∧ w.heap[b]? = some (.cells c e fz) ∧ ∀ i, i < len → ∀ j v, (cs.getD i default).row[j]? = some (.I v) → c[o + (i * 3 + j)]? = some (.int .i64 v))

end

theorem Inv.none (w : World) : Inv (fun _ => Option.none) [] w := ⟨fun t b h => by unfold Live at h; simp at h, fun t t' b b' _ _ _ h => by unfold Live at h; simp at h, fun _ _ => rfl⟩
theorem NoOwn.none : NoOwn [] := fun t b h => by unfold Live at h; simp at h

end Go.Ab
