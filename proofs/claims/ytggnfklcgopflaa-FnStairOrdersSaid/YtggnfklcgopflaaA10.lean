/- Parts of the proof of FnStairOrdersSaid: Jp C_Jj K_Jj Jj Jq Xi C_Jr K_Jr Jr C_Jd K_Jd Jd LFnStairOrders Re. -/
import Derived.Test.YtggnfklcgopflaaA9
import Derived.Test.YtggnfklcgopflaaA4
import Derived.Test.YtggnfklcgopflaaA8
import Derived.Test.YtggnfklcgopflaaA3
import Derived.Test.YtggnfklcgopflaaProg
import Derived.KernelRfl
import Derived.Test.YtggnfklcgopflaaA6
import Derived.Test.YtggnfklcgopflaaA7
set_option linter.all false
/- Contracts: shadows that fit together, greatest heaps, bounds, clean shadows, taken cubes. -/
namespace Go.Ab
open Go
set_option linter.unusedSimpArgs false
set_option linter.unusedVariables false
set_option maxRecDepth 20000

structure Shd where
  x : Int
  y : Int
  z : Int
  tp : List Int
  fr : List Int
  sd : List Int
def Shd.none : Shd := ⟨0, 0, 0, [], [], []⟩
/-- A shadow, or the one of all zeros and false; its lists may be read. -/
def ShdX (M : Mem) (r : Option Shd) (v : LV) (N : Mem) : Prop := ∃ a b c : Nat, v = .tup [.agg [.I (r.getD Shd.none).x, .I (r.getD Shd.none).y, .I (r.getD Shd.none).z, .ref a 0 (r.getD Shd.none).tp.length, .ref b 0 (r.getD Shd.none).fr.length, .ref c 0 (r.getD Shd.none).sd.length], .B r.isSome] ∧
  Ints N a 0 (r.getD Shd.none).tp ∧ Ints N b 0 (r.getD Shd.none).fr ∧ Ints N c 0 (r.getD Shd.none).sd ∧ Pre M N
section
variable (x y z : Int) (tp fr sd : List Int)
noncomputable def grtOf : Option Hp := by
  classical
  exact if Fits x y z tp fr sd then some ⟨x, y, z, pick x y z (allowedB y z tp fr sd)⟩ else none
noncomputable def clnOf : Option Shd := by
  classical
  exact if ShdOK x y z tp fr sd then some ⟨x, y, z, shdOf x y z 2 (pick x y z (allowedB y z tp fr sd)), shdOf x y z 1 (pick x y z (allowedB y z tp fr sd)), shdOf x y z 0 (pick x y z (allowedB y z tp fr sd))⟩ else none
noncomputable def lbdOf : Option Int := by
  classical
  exact if ShdOK x y z tp fr sd then some (max (litSum tp) (max (litSum fr) (litSum sd))) else none
end
section
variable {x y z : Int} {t o t' o' t2 o2 : Nat} {tp fr sd : List Int} {M : Mem} (h1 : Ints M t o tp) (h2 : Ints M t' o' fr) (h3 : Ints M t2 o2 sd) (l1 : tp.length ≤ 1000000000) (l2 : fr.length ≤ 1000000000) (l3 : sd.length ≤ 1000000000)
include h1 h2 h3 l1 l2 l3
end
theorem g_isCell {x y z : Int} {t o : Nat} {cs : List Cell} {c : Cell} {M : Mem} (h : Tri M t o cs) (hH : HeapOK x y z cs) (hc : c.inBox x y z) : CallsTo PG F.impl_isCell [.agg [.I x, .I y, .I z, .ref t o cs.length], .agg [.I c.a, .I c.b, .I c.c]] M (.B true) M := by
  have hlen := hH.len
  refine calls_run K.impl_isCell rfl ?_
  simp (disch := omega) only [C.impl_isCell, ↓SXd, SXu, slBounds, ↓sop, ↓aop, ↓reduceIte, LV.cells, AOp.dst, LV.I, LV.B, LV.U, LV.S, LV.nil, Nat.reduceEqDiff, Nat.reduceAdd, Nat.reduceMul, Nat.reduceSub, Nat.reduceLeDiff, Nat.reduceBEq, Nat.reduceDiv, Nat.reduceMod, Int.reduceToNat, Int.reduceLT, Int.reduceLE, Int.reduceAdd, Int.reduceSub, Int.reduceMul, Int.reduceEq, Int.reduceNeg, reduceCtorEq, resV, resAll, ARes.ev, LV.flat, ite_true, ite_false, exists_eq_left', exists_eq_left, keyOf, implies_true, fillC, capOf]
  refine callK_of (g_IsHeap h.app (by omega)) ?_
  simp (disch := omega) only [hH, ↓SXd, SXu, slBounds, ↓sop, ↓aop, ↓reduceIte, LV.cells, AOp.dst, LV.I, LV.B, LV.U, LV.S, LV.nil, Nat.reduceEqDiff, Nat.reduceAdd, Nat.reduceMul, Nat.reduceSub, Nat.reduceLeDiff, Nat.reduceBEq, Nat.reduceDiv, Nat.reduceMod, Int.reduceToNat, Int.reduceLT, Int.reduceLE, Int.reduceAdd, Int.reduceSub, Int.reduceMul, Int.reduceEq, Int.reduceNeg, reduceCtorEq, resV, resAll, ARes.ev, LV.flat, ite_true, ite_false, exists_eq_left', exists_eq_left, keyOf, implies_true, fillC, capOf]
  refine callK_of (g_box) ?_
  simp (disch := omega) only [↓SXd, SXu, slBounds, ↓sop, ↓aop, ↓reduceIte, LV.cells, AOp.dst, LV.I, LV.B, LV.U, LV.S, LV.nil, Nat.reduceEqDiff, Nat.reduceAdd, Nat.reduceMul, Nat.reduceSub, Nat.reduceLeDiff, Nat.reduceBEq, Nat.reduceDiv, Nat.reduceMod, Int.reduceToNat, Int.reduceLT, Int.reduceLE, Int.reduceAdd, Int.reduceSub, Int.reduceMul, Int.reduceEq, Int.reduceNeg, reduceCtorEq, resV, resAll, ARes.ev, LV.flat, ite_true, ite_false, exists_eq_left', exists_eq_left, keyOf, implies_true, fillC, capOf]
  refine callK_of (g_has hH.1) ?_
  simp (disch := omega) only [↓SXd, SXu, slBounds, ↓sop, ↓aop, ↓reduceIte, LV.cells, AOp.dst, LV.I, LV.B, LV.U, LV.S, LV.nil, Nat.reduceEqDiff, Nat.reduceAdd, Nat.reduceMul, Nat.reduceSub, Nat.reduceLeDiff, Nat.reduceBEq, Nat.reduceDiv, Nat.reduceMod, Int.reduceToNat, Int.reduceLT, Int.reduceLE, Int.reduceAdd, Int.reduceSub, Int.reduceMul, Int.reduceEq, Int.reduceNeg, reduceCtorEq, resV, resAll, ARes.ev, LV.flat, ite_true, ite_false, exists_eq_left', exists_eq_left, keyOf, implies_true, fillC, capOf]
  rw [cell_eta, decide_eq_true hc]
  exact cmp_drop rfl
theorem g_TakeCube {x y z : Int} {t : Nat} {cs : List Cell} {c : Cell} {M : Mem} (h : Tri M t 0 cs) (hH : HeapOK x y z cs) (hc : c ∈ cs) : CallsR PG F.impl_TakeCube [.agg [.I x, .I y, .I z, .ref t 0 cs.length], .agg [.I c.a, .I c.b, .I c.c]] M fun v N => HeapT M ⟨x, y, z, cs.filter fun e => !decide (e = c)⟩ v N ∧ Pre M N := by
  have hlen := hH.len
  have hcb := hH.mem hc
  have hix := idx_in hH.1 hcb
  have hlp := less_pick hH (c := c)
  refine callsR_run K.impl_TakeCube rfl ?_
  simp (disch := omega) only [C.impl_TakeCube, ↓SXd, SXu, slBounds, ↓sop, ↓aop, ↓reduceIte, LV.cells, AOp.dst, LV.I, LV.B, LV.U, LV.S, LV.nil, Nat.reduceEqDiff, Nat.reduceAdd, Nat.reduceMul, Nat.reduceSub, Nat.reduceLeDiff, Nat.reduceBEq, Nat.reduceDiv, Nat.reduceMod, Int.reduceToNat, Int.reduceLT, Int.reduceLE, Int.reduceAdd, Int.reduceSub, Int.reduceMul, Int.reduceEq, Int.reduceNeg, reduceCtorEq, resV, resAll, ARes.ev, LV.flat, ite_true, ite_false, exists_eq_left', exists_eq_left, keyOf, implies_true, fillC, capOf]
  refine callK_of (g_isCell h.app hH hcb) ?_
  simp (disch := omega) only [↓SXd, SXu, slBounds, ↓sop, ↓aop, ↓reduceIte, LV.cells, AOp.dst, LV.I, LV.B, LV.U, LV.S, LV.nil, Nat.reduceEqDiff, Nat.reduceAdd, Nat.reduceMul, Nat.reduceSub, Nat.reduceLeDiff, Nat.reduceBEq, Nat.reduceDiv, Nat.reduceMod, Int.reduceToNat, Int.reduceLT, Int.reduceLE, Int.reduceAdd, Int.reduceSub, Int.reduceMul, Int.reduceEq, Int.reduceNeg, reduceCtorEq, resV, resAll, ARes.ev, LV.flat, ite_true, ite_false, exists_eq_left', exists_eq_left, keyOf, implies_true, fillC, capOf]
  refine callK_of (g_hasCube h.app (by omega) hH.1 (fun c hc => hH.mem hc) hcb) ?_
  simp (disch := omega) only [hc, ↓SXd, SXu, slBounds, ↓sop, ↓aop, ↓reduceIte, LV.cells, AOp.dst, LV.I, LV.B, LV.U, LV.S, LV.nil, Nat.reduceEqDiff, Nat.reduceAdd, Nat.reduceMul, Nat.reduceSub, Nat.reduceLeDiff, Nat.reduceBEq, Nat.reduceDiv, Nat.reduceMod, Int.reduceToNat, Int.reduceLT, Int.reduceLE, Int.reduceAdd, Int.reduceSub, Int.reduceMul, Int.reduceEq, Int.reduceNeg, reduceCtorEq, resV, resAll, ARes.ev, LV.flat, ite_true, ite_false, exists_eq_left', exists_eq_left, keyOf, implies_true, fillC, capOf]
  refine callK_of (g_box) ?_
  simp (disch := omega) only [↓SXd, SXu, slBounds, ↓sop, ↓aop, ↓reduceIte, LV.cells, AOp.dst, LV.I, LV.B, LV.U, LV.S, LV.nil, Nat.reduceEqDiff, Nat.reduceAdd, Nat.reduceMul, Nat.reduceSub, Nat.reduceLeDiff, Nat.reduceBEq, Nat.reduceDiv, Nat.reduceMod, Int.reduceToNat, Int.reduceLT, Int.reduceLE, Int.reduceAdd, Int.reduceSub, Int.reduceMul, Int.reduceEq, Int.reduceNeg, reduceCtorEq, resV, resAll, ARes.ev, LV.flat, ite_true, ite_false, exists_eq_left', exists_eq_left, keyOf, implies_true, fillC, capOf]
  refine callK_of (g_cubes h.app (by omega) hH.1 (fun c hc => hH.mem hc)) ?_
  simp (disch := omega) only [↓SXd, SXu, slBounds, ↓sop, ↓aop, ↓reduceIte, LV.cells, AOp.dst, LV.I, LV.B, LV.U, LV.S, LV.nil, Nat.reduceEqDiff, Nat.reduceAdd, Nat.reduceMul, Nat.reduceSub, Nat.reduceLeDiff, Nat.reduceBEq, Nat.reduceDiv, Nat.reduceMod, Int.reduceToNat, Int.reduceLT, Int.reduceLE, Int.reduceAdd, Int.reduceSub, Int.reduceMul, Int.reduceEq, Int.reduceNeg, reduceCtorEq, resV, resAll, ARes.ev, LV.flat, ite_true, ite_false, exists_eq_left', exists_eq_left, keyOf, implies_true, fillC, capOf]
  refine callK_of (g_box) ?_
  simp (disch := omega) only [↓SXd, SXu, slBounds, ↓sop, ↓aop, ↓reduceIte, LV.cells, AOp.dst, LV.I, LV.B, LV.U, LV.S, LV.nil, Nat.reduceEqDiff, Nat.reduceAdd, Nat.reduceMul, Nat.reduceSub, Nat.reduceLeDiff, Nat.reduceBEq, Nat.reduceDiv, Nat.reduceMod, Int.reduceToNat, Int.reduceLT, Int.reduceLE, Int.reduceAdd, Int.reduceSub, Int.reduceMul, Int.reduceEq, Int.reduceNeg, reduceCtorEq, resV, resAll, ARes.ev, LV.flat, ite_true, ite_false, exists_eq_left', exists_eq_left, keyOf, implies_true, fillC, capOf]
  refine callK_of (g_index hH.1 hcb) ?_
  simp (disch := omega) only [↓SXd, SXu, slBounds, ↓sop, ↓aop, ↓reduceIte, LV.cells, AOp.dst, LV.I, LV.B, LV.U, LV.S, LV.nil, Nat.reduceEqDiff, Nat.reduceAdd, Nat.reduceMul, Nat.reduceSub, Nat.reduceLeDiff, Nat.reduceBEq, Nat.reduceDiv, Nat.reduceMod, Int.reduceToNat, Int.reduceLT, Int.reduceLE, Int.reduceAdd, Int.reduceSub, Int.reduceMul, Int.reduceEq, Int.reduceNeg, reduceCtorEq, resV, resAll, ARes.ev, LV.flat, ite_true, ite_false, exists_eq_left', exists_eq_left, keyOf, implies_true, fillC, capOf]
  rw [bs_one hH.1 hcb, bs_diff hH.1]
  refine callK_of (g_heap hH.1) ?_
  simp (disch := omega) only [splice, ↓SXd, SXu, slBounds, ↓sop, ↓aop, ↓reduceIte, LV.cells, AOp.dst, LV.I, LV.B, LV.U, LV.S, LV.nil, Nat.reduceEqDiff, Nat.reduceAdd, Nat.reduceMul, Nat.reduceSub, Nat.reduceLeDiff, Nat.reduceBEq, Nat.reduceDiv, Nat.reduceMod, Int.reduceToNat, Int.reduceLT, Int.reduceLE, Int.reduceAdd, Int.reduceSub, Int.reduceMul, Int.reduceEq, Int.reduceNeg, reduceCtorEq, resV, resAll, ARes.ev, LV.flat, ite_true, ite_false, exists_eq_left', exists_eq_left, keyOf, implies_true, fillC, capOf]
  rw [hlp]
  exact ⟨⟨M.length + 3, rfl, Live.newj (j := 3) rfl, by omega⟩, Pre.app _ _⟩
end Go.Ab

/- The abstract code of some functions (written by a program of mine from the translation, by way of prepF). -/
namespace Go.Ab.C
open Go.Ab
end Go.Ab.C

/- That the program has this code. -/
namespace Go.Ab.K
open Go Go.Ab
end Go.Ab.K

/- Contracts: what the law of heaps' forms draws. -/
namespace Go.Ab
open Go
set_option linter.unusedSimpArgs false
set_option linter.unusedVariables false
set_option maxRecDepth 20000

section
variable {t o : Nat} {bs : List Nat} {M : Mem} (hB : Bytes M t o bs) (h255 : ∀ b ∈ bs, b ≤ 255) (hl : bs.length ≤ 1000000000)
include hB h255 hl
end
end Go.Ab

/- Contracts: the shadows that a law draws. -/
namespace Go.Ab
open Go
set_option linter.unusedSimpArgs false
set_option linter.unusedVariables false
set_option maxRecDepth 20000

/-- A heap whose cells lie in a block of their own. -/
def HeapL (v : LV) (N : Mem) : Prop := ∃ (x y z : Int) (cs : List Cell) (u : Nat), v = .agg [.I x, .I y, .I z, .ref u 0 cs.length] ∧ Live N u (.row (triL cs) true 3) ∧ cs.length ≤ 65
theorem CurAt.ne3 {M : Mem} {p t o a u : Nat} {bs : List Nat} {cs : List LV} {w : Bool} (h : CurAt M p t o bs a) (hu : Live M u (.row cs w 3)) : u ≠ p := by
  obtain ⟨⟨_, _, _, hp⟩, _⟩ := h
  exact hu.ne_esz hp (by decide)
/-- A drawn shadow: its lists lie in new blocks. -/
def ShdL (M : Mem) (v : LV) (N : Mem) : Prop := ∃ (x y z : Int) (tp fr sd : List Int) (a b c : Nat), v = .agg [.I x, .I y, .I z, .ref a 0 tp.length, .ref b 0 fr.length, .ref c 0 sd.length] ∧
  Live N a (.row (intL tp) true 1) ∧ Live N b (.row (intL fr) true 1) ∧ Live N c (.row (intL sd) true 1) ∧ M.length ≤ a ∧ M.length ≤ b ∧ M.length ≤ c ∧ tp.length ≤ 17 ∧ fr.length ≤ 17 ∧ sd.length ≤ 17
section
variable {t o : Nat} {bs : List Nat} {M : Mem} (hB : Bytes M t o bs) (h255 : ∀ b ∈ bs, b ≤ 255) (hl : bs.length ≤ 1000000000)
include hB h255 hl
end
end Go.Ab

/- Contracts: staircases that the laws draw. -/
namespace Go.Ab
open Go
set_option linter.unusedSimpArgs false
set_option linter.unusedVariables false
set_option maxRecDepth 20000

theorem holl_with {x y z : Int} {ds : List Cell} {c : Cell} (hS : Sides x y z) (hc : c ∈ hollL x y z ds) : c.inBox x y z ∧ HeapOK x y z (pick x y z fun d => decide (d ∈ ds) || decide (d = c)) ∧ StairP x y z fun d => decide (d ∈ pick x y z fun d => decide (d ∈ ds) || decide (d = c)) := by
  obtain ⟨h1, h2, h3⟩ := hollC_in hc hS
  exact ⟨h1, pick_ok hS _, (with_stair hS).2 h3⟩
theorem empty_stair {x y z : Int} (hS : Sides x y z) : HeapOK x y z [] ∧ StairP x y z fun d => decide (d ∈ ([] : List Cell)) := by
  refine ⟨?_, fun c _ h => by simp at h⟩
  have := pick_ok hS fun _ => false
  rwa [show (pick x y z fun _ => false) = [] by unfold pick; rw [List.filter_eq_nil_iff]; simp] at this
theorem d_stair5D {p t o a : Nat} {bs : List Nat} {M : Mem} (h : CurAt M p t o bs a) (ha : a ≤ 900000) : CallsR PG F.spec_l1Cur_stair5 [.ptr p 0] M fun v N => HeapD M v N ∧ DrawN M p t o bs (a + 200) N := by
  obtain ⟨⟨_, _, _, hpl'⟩, hB, _⟩ := id h
  have hpl := hpl'.lt
  have htM := hB.lt
  refine callsR_run K.spec_l1Cur_stair5 rfl ?_
  simp (disch := omega) only [C.spec_l1Cur_stair5, ↓SXd, SXu, slBounds, ↓sop, ↓aop, ↓reduceIte, LV.cells, AOp.dst, LV.I, LV.B, LV.U, LV.S, LV.nil, Nat.reduceEqDiff, Nat.reduceAdd, Nat.reduceMul, Nat.reduceSub, Nat.reduceLeDiff, Nat.reduceBEq, Nat.reduceDiv, Nat.reduceMod, Int.reduceToNat, Int.reduceLT, Int.reduceLE, Int.reduceAdd, Int.reduceSub, Int.reduceMul, Int.reduceEq, Int.reduceNeg, reduceCtorEq, resV, resAll, ARes.ev, LV.flat, ite_true, ite_false, exists_eq_left', exists_eq_left, keyOf, implies_true, fillC, capOf]
  have h0 : CurAt (M ++ [some (.row [.I 0, .I 0, .I 0, .nil] true 0)]) p t o bs a := h.pre (Pre.app _ _)
  refine callR_of (d_heapE h0 (by omega)) ?_
  rintro _ N1 ⟨⟨x, y, z, cs, u, rfl, hu, hul, hcl⟩, hd1⟩
  rw [List.length_append] at hul
  simp only [List.length_cons, List.length_nil] at hul
  have hd1' : DrawN M p t o bs (a + 160) N1 := DrawN.of_pre (Pre.app _ _) hd1
  have b2 : Live N1 M.length (.row [.I 0, .I 0, .I 0, .nil] true 0) := hd1.live Live.new (by omega)
  have hN1 := hd1.2.1
  rw [List.length_append] at hN1
  simp only [List.length_cons, List.length_nil] at hN1
  have hul2 := hu.lt
  simp (disch := omega) only [splice, ↓SXd, SXu, slBounds, ↓sop, ↓aop, ↓reduceIte, LV.cells, AOp.dst, LV.I, LV.B, LV.U, LV.S, LV.nil, Nat.reduceEqDiff, Nat.reduceAdd, Nat.reduceMul, Nat.reduceSub, Nat.reduceLeDiff, Nat.reduceBEq, Nat.reduceDiv, Nat.reduceMod, Int.reduceToNat, Int.reduceLT, Int.reduceLE, Int.reduceAdd, Int.reduceSub, Int.reduceMul, Int.reduceEq, Int.reduceNeg, reduceCtorEq, resV, resAll, ARes.ev, LV.flat, ite_true, ite_false, exists_eq_left', exists_eq_left, keyOf, implies_true, fillC, capOf]
  have b3 : Live (N1 ++ [some (.row [.I x, .I y, .I z, .ref u 0 cs.length] true 0)]) N1.length (.row [.I x, .I y, .I z, .ref u 0 cs.length] true 0) := Live.new
  have c2 := b2.app (L := [some (.row [.I x, .I y, .I z, .ref u 0 cs.length] true 0)])
  have cu := hu.app (L := [some (.row [.I x, .I y, .I z, .ref u 0 cs.length] true 0)])
  have hD : DrawN M p t o bs (a + 160) (N1 ++ [some (.row [.I x, .I y, .I z, .ref u 0 cs.length] true 0)]) := hd1'.keep hpl htM (Nat.le_refl _) (by simp) fun q q1 => List.getElem?_append_left (by omega)
  generalize hm3 : N1.length = m3 at b3 ⊢
  have h3M : M.length < m3 := by omega
  have hu3 : u ≠ m3 := by omega
  generalize N1 ++ [some (Blk.row [.I x, .I y, .I z, .ref u 0 cs.length] true 0)] = N2 at b3 c2 cu hD ⊢
  have hup : u ≠ p := by omega
  -- the end: a heap comes into the result
  have fin : ∀ {N N' : Mem} {X Y Z : Int} {ds : List Cell} {v a' : Nat}, DrawN M p t o bs a' N → a' ≤ a + 200 → Live N v (.row (triL ds) true 3) → M.length < v → ds.length ≤ 65 → N'.length = N.length → (∀ q, q ≠ M.length → q < N.length → N'[q]? = N[q]?) → HeapD M (.agg [.I X, .I Y, .I Z, .ref v 0 ds.length]) N' ∧ DrawN M p t o bs (a + 200) N' := fun {N N' X Y Z ds v a'} k1 k2 k3 k4 k5 j1 j3 =>
    ⟨⟨X, Y, Z, _, ds, rfl, .inr ⟨v, rfl, live_step k3 (by omega) j3⟩, Newer.of (by omega), k5⟩, k1.keep hpl htM (by omega) (by omega) fun q q1 => j3 q (by omega) (by have := k1.2.1; omega)⟩
  refine callR_of (d_one hD.1 (by omega)) ?_
  rintro _ N3 ⟨⟨b, rfl⟩, hd2⟩
  have e2 := hd2.live c2 (by omega)
  have e3 := hd2.live b3 (by omega)
  have eu := hd2.live cu (by omega)
  have hD3 := hD.trans hd2
  cases b
  rotate_left
  · simp (disch := omega) only [e3.cells, ↓SXd, SXu, slBounds, ↓sop, ↓aop, ↓reduceIte, LV.cells, AOp.dst, LV.I, LV.B, LV.U, LV.S, LV.nil, Nat.reduceEqDiff, Nat.reduceAdd, Nat.reduceMul, Nat.reduceSub, Nat.reduceLeDiff, Nat.reduceBEq, Nat.reduceDiv, Nat.reduceMod, Int.reduceToNat, Int.reduceLT, Int.reduceLE, Int.reduceAdd, Int.reduceSub, Int.reduceMul, Int.reduceEq, Int.reduceNeg, reduceCtorEq, resV, resAll, ARes.ev, LV.flat, ite_true, ite_false, exists_eq_left', exists_eq_left, keyOf, implies_true, fillC, capOf]
    refine memK_box e2 (by simp) fun N5 i1 i2 i3 => ?_
    simp (disch := omega) only [i2.cells, ↓SXd, SXu, slBounds, ↓sop, ↓aop, ↓reduceIte, LV.cells, AOp.dst, LV.I, LV.B, LV.U, LV.S, LV.nil, Nat.reduceEqDiff, Nat.reduceAdd, Nat.reduceMul, Nat.reduceSub, Nat.reduceLeDiff, Nat.reduceBEq, Nat.reduceDiv, Nat.reduceMod, Int.reduceToNat, Int.reduceLT, Int.reduceLE, Int.reduceAdd, Int.reduceSub, Int.reduceMul, Int.reduceEq, Int.reduceNeg, reduceCtorEq, resV, resAll, ARes.ev, LV.flat, ite_true, ite_false, exists_eq_left', exists_eq_left, keyOf, implies_true, fillC, capOf]
    exact fin hD3 (by omega) eu (by omega) hcl i1 i3
  simp (disch := omega) only [↓SXd, SXu, slBounds, ↓sop, ↓aop, ↓reduceIte, LV.cells, AOp.dst, LV.I, LV.B, LV.U, LV.S, LV.nil, Nat.reduceEqDiff, Nat.reduceAdd, Nat.reduceMul, Nat.reduceSub, Nat.reduceLeDiff, Nat.reduceBEq, Nat.reduceDiv, Nat.reduceMod, Int.reduceToNat, Int.reduceLT, Int.reduceLE, Int.reduceAdd, Int.reduceSub, Int.reduceMul, Int.reduceEq, Int.reduceNeg, reduceCtorEq, resV, resAll, ARes.ev, LV.flat, ite_true, ite_false, exists_eq_left', exists_eq_left, keyOf, implies_true, fillC, capOf]
  refine callR_of (d_one hD3.1 (by omega)) ?_
  rintro _ N4 ⟨⟨b, rfl⟩, hd3⟩
  have g2 := hd3.live e2 (by omega)
  have g3 := hd3.live e3 (by omega)
  have gu := hd3.live eu (by omega)
  have hD4 := hD3.trans hd3
  have hl4 := hD4.2.1
  have hg3 := g3.lt
  cases b
  rotate_left
  · simp (disch := omega) only [g3.cells, ↓SXd, SXu, slBounds, ↓sop, ↓aop, ↓reduceIte, LV.cells, AOp.dst, LV.I, LV.B, LV.U, LV.S, LV.nil, Nat.reduceEqDiff, Nat.reduceAdd, Nat.reduceMul, Nat.reduceSub, Nat.reduceLeDiff, Nat.reduceBEq, Nat.reduceDiv, Nat.reduceMod, Int.reduceToNat, Int.reduceLT, Int.reduceLE, Int.reduceAdd, Int.reduceSub, Int.reduceMul, Int.reduceEq, Int.reduceNeg, reduceCtorEq, resV, resAll, ARes.ev, LV.flat, ite_true, ite_false, exists_eq_left', exists_eq_left, keyOf, implies_true, fillC, capOf]
    refine callR_of (h_sLeastStair gu (by omega)) ?_
    rintro _ N5 ⟨hr, hp5⟩
    have hl5 := hp5.1
    have hD5 : DrawN M p t o bs (a + 160 + 2 + 2) N5 := hD4.keep hpl htM (Nat.le_refl _) (by omega) fun q q1 => hp5.2 q (by omega)
    rcases hr with ⟨hH, v, rfl, hv, hvl⟩ | ⟨hH, rfl⟩
    · simp (disch := omega) only [↓SXd, SXu, slBounds, ↓sop, ↓aop, ↓reduceIte, LV.cells, AOp.dst, LV.I, LV.B, LV.U, LV.S, LV.nil, Nat.reduceEqDiff, Nat.reduceAdd, Nat.reduceMul, Nat.reduceSub, Nat.reduceLeDiff, Nat.reduceBEq, Nat.reduceDiv, Nat.reduceMod, Int.reduceToNat, Int.reduceLT, Int.reduceLE, Int.reduceAdd, Int.reduceSub, Int.reduceMul, Int.reduceEq, Int.reduceNeg, reduceCtorEq, resV, resAll, ARes.ev, LV.flat, ite_true, ite_false, exists_eq_left', exists_eq_left, keyOf, implies_true, fillC, capOf]
      refine memK_box (g3.pre hp5) (by simp) fun N6 j1 j2 j3 => ?_
      simp (disch := omega) only [j2.cells, ↓SXd, SXu, slBounds, ↓sop, ↓aop, ↓reduceIte, LV.cells, AOp.dst, LV.I, LV.B, LV.U, LV.S, LV.nil, Nat.reduceEqDiff, Nat.reduceAdd, Nat.reduceMul, Nat.reduceSub, Nat.reduceLeDiff, Nat.reduceBEq, Nat.reduceDiv, Nat.reduceMod, Int.reduceToNat, Int.reduceLT, Int.reduceLE, Int.reduceAdd, Int.reduceSub, Int.reduceMul, Int.reduceEq, Int.reduceNeg, reduceCtorEq, resV, resAll, ARes.ev, LV.flat, ite_true, ite_false, exists_eq_left', exists_eq_left, keyOf, implies_true, fillC, capOf]
      refine memK_box (live_step (g2.pre hp5) (by omega) j3) (by simp) fun N7 i1 i2 i3 => ?_
      simp (disch := omega) only [i2.cells, ↓SXd, SXu, slBounds, ↓sop, ↓aop, ↓reduceIte, LV.cells, AOp.dst, LV.I, LV.B, LV.U, LV.S, LV.nil, Nat.reduceEqDiff, Nat.reduceAdd, Nat.reduceMul, Nat.reduceSub, Nat.reduceLeDiff, Nat.reduceBEq, Nat.reduceDiv, Nat.reduceMod, Int.reduceToNat, Int.reduceLT, Int.reduceLE, Int.reduceAdd, Int.reduceSub, Int.reduceMul, Int.reduceEq, Int.reduceNeg, reduceCtorEq, resV, resAll, ARes.ev, LV.flat, ite_true, ite_false, exists_eq_left', exists_eq_left, keyOf, implies_true, fillC, capOf]
      have hD6 : DrawN M p t o bs (a + 160 + 2 + 2) N6 := hD5.keep hpl htM (Nat.le_refl _) (by omega) fun q q1 => j3 q (by omega) (by omega)
      exact fin (X := x) (Y := y) (Z := z) hD6 (by omega) (live_step hv (by omega) j3) (by omega) (by have := pick_len hH.1 (dnB x y z fun d => decide (d ∈ cs)); show (pick x y z _).length ≤ 65; omega) i1 i3
    · simp (disch := omega) only [↓SXd, SXu, slBounds, ↓sop, ↓aop, ↓reduceIte, LV.cells, AOp.dst, LV.I, LV.B, LV.U, LV.S, LV.nil, Nat.reduceEqDiff, Nat.reduceAdd, Nat.reduceMul, Nat.reduceSub, Nat.reduceLeDiff, Nat.reduceBEq, Nat.reduceDiv, Nat.reduceMod, Int.reduceToNat, Int.reduceLT, Int.reduceLE, Int.reduceAdd, Int.reduceSub, Int.reduceMul, Int.reduceEq, Int.reduceNeg, reduceCtorEq, resV, resAll, ARes.ev, LV.flat, ite_true, ite_false, exists_eq_left', exists_eq_left, keyOf, implies_true, fillC, capOf]
      refine memK_box (g3.pre hp5) (by simp) fun N6 j1 j2 j3 => ?_
      simp (disch := omega) only [j2.cells, ↓SXd, SXu, slBounds, ↓sop, ↓aop, ↓reduceIte, LV.cells, AOp.dst, LV.I, LV.B, LV.U, LV.S, LV.nil, Nat.reduceEqDiff, Nat.reduceAdd, Nat.reduceMul, Nat.reduceSub, Nat.reduceLeDiff, Nat.reduceBEq, Nat.reduceDiv, Nat.reduceMod, Int.reduceToNat, Int.reduceLT, Int.reduceLE, Int.reduceAdd, Int.reduceSub, Int.reduceMul, Int.reduceEq, Int.reduceNeg, reduceCtorEq, resV, resAll, ARes.ev, LV.flat, ite_true, ite_false, exists_eq_left', exists_eq_left, keyOf, implies_true, fillC, capOf]
      refine memK_box (live_step (g2.pre hp5) (by omega) j3) (by simp) fun N7 i1 i2 i3 => ?_
      simp (disch := omega) only [i2.cells, ↓SXd, SXu, slBounds, ↓sop, ↓aop, ↓reduceIte, LV.cells, AOp.dst, LV.I, LV.B, LV.U, LV.S, LV.nil, Nat.reduceEqDiff, Nat.reduceAdd, Nat.reduceMul, Nat.reduceSub, Nat.reduceLeDiff, Nat.reduceBEq, Nat.reduceDiv, Nat.reduceMod, Int.reduceToNat, Int.reduceLT, Int.reduceLE, Int.reduceAdd, Int.reduceSub, Int.reduceMul, Int.reduceEq, Int.reduceNeg, reduceCtorEq, resV, resAll, ARes.ev, LV.flat, ite_true, ite_false, exists_eq_left', exists_eq_left, keyOf, implies_true, fillC, capOf]
      exact ⟨⟨0, 0, 0, _, [], rfl, .inl ⟨rfl, rfl⟩, Newer.nil, by simp⟩, hD5.keep hpl htM (by omega) (by omega) fun q q1 => by rw [i3 q (by omega) (by omega), j3 q (by omega) (by omega)]⟩
  simp (disch := omega) only [g3.cells, g3.cell, ↓SXd, SXu, slBounds, ↓sop, ↓aop, ↓reduceIte, LV.cells, AOp.dst, LV.I, LV.B, LV.U, LV.S, LV.nil, Nat.reduceEqDiff, Nat.reduceAdd, Nat.reduceMul, Nat.reduceSub, Nat.reduceLeDiff, Nat.reduceBEq, Nat.reduceDiv, Nat.reduceMod, Int.reduceToNat, Int.reduceLT, Int.reduceLE, Int.reduceAdd, Int.reduceSub, Int.reduceMul, Int.reduceEq, Int.reduceNeg, reduceCtorEq, resV, resAll, ARes.ev, LV.flat, ite_true, ite_false, exists_eq_left', exists_eq_left, keyOf, implies_true, fillC, capOf]
  refine callK_of (h_l2Sides) ?_
  simp (disch := omega) only [↓SXd, SXu, slBounds, ↓sop, ↓aop, ↓reduceIte, LV.cells, AOp.dst, LV.I, LV.B, LV.U, LV.S, LV.nil, Nat.reduceEqDiff, Nat.reduceAdd, Nat.reduceMul, Nat.reduceSub, Nat.reduceLeDiff, Nat.reduceBEq, Nat.reduceDiv, Nat.reduceMod, Int.reduceToNat, Int.reduceLT, Int.reduceLE, Int.reduceAdd, Int.reduceSub, Int.reduceMul, Int.reduceEq, Int.reduceNeg, reduceCtorEq, resV, resAll, ARes.ev, LV.flat, ite_true, ite_false, exists_eq_left', exists_eq_left, keyOf, implies_true, fillC, capOf]
  by_cases hS : Sides x y z
  rotate_left
  · rw [decide_eq_false hS]
    simp (disch := omega) only [g3.cells, ↓SXd, SXu, slBounds, ↓sop, ↓aop, ↓reduceIte, LV.cells, AOp.dst, LV.I, LV.B, LV.U, LV.S, LV.nil, Nat.reduceEqDiff, Nat.reduceAdd, Nat.reduceMul, Nat.reduceSub, Nat.reduceLeDiff, Nat.reduceBEq, Nat.reduceDiv, Nat.reduceMod, Int.reduceToNat, Int.reduceLT, Int.reduceLE, Int.reduceAdd, Int.reduceSub, Int.reduceMul, Int.reduceEq, Int.reduceNeg, reduceCtorEq, resV, resAll, ARes.ev, LV.flat, ite_true, ite_false, exists_eq_left', exists_eq_left, keyOf, implies_true, fillC, capOf]
    refine memK_box g2 (by simp) fun N5 i1 i2 i3 => ?_
    simp (disch := omega) only [i2.cells, ↓SXd, SXu, slBounds, ↓sop, ↓aop, ↓reduceIte, LV.cells, AOp.dst, LV.I, LV.B, LV.U, LV.S, LV.nil, Nat.reduceEqDiff, Nat.reduceAdd, Nat.reduceMul, Nat.reduceSub, Nat.reduceLeDiff, Nat.reduceBEq, Nat.reduceDiv, Nat.reduceMod, Int.reduceToNat, Int.reduceLT, Int.reduceLE, Int.reduceAdd, Int.reduceSub, Int.reduceMul, Int.reduceEq, Int.reduceNeg, reduceCtorEq, resV, resAll, ARes.ev, LV.flat, ite_true, ite_false, exists_eq_left', exists_eq_left, keyOf, implies_true, fillC, capOf]
    exact fin hD4 (by omega) gu (by omega) hcl i1 i3
  rw [decide_eq_true hS]
  simp (disch := omega) only [g3.cell, ↓SXd, SXu, slBounds, ↓sop, ↓aop, ↓reduceIte, LV.cells, AOp.dst, LV.I, LV.B, LV.U, LV.S, LV.nil, Nat.reduceEqDiff, Nat.reduceAdd, Nat.reduceMul, Nat.reduceSub, Nat.reduceLeDiff, Nat.reduceBEq, Nat.reduceDiv, Nat.reduceMod, Int.reduceToNat, Int.reduceLT, Int.reduceLE, Int.reduceAdd, Int.reduceSub, Int.reduceMul, Int.reduceEq, Int.reduceNeg, reduceCtorEq, resV, resAll, ARes.ev, LV.flat, ite_true, ite_false, exists_eq_left', exists_eq_left, keyOf, implies_true, fillC, capOf]
  refine callK_of (h_l2Empty) ?_
  simp (disch := omega) only [splice, ↓SXd, SXu, slBounds, ↓sop, ↓aop, ↓reduceIte, LV.cells, AOp.dst, LV.I, LV.B, LV.U, LV.S, LV.nil, Nat.reduceEqDiff, Nat.reduceAdd, Nat.reduceMul, Nat.reduceSub, Nat.reduceLeDiff, Nat.reduceBEq, Nat.reduceDiv, Nat.reduceMod, Int.reduceToNat, Int.reduceLT, Int.reduceLE, Int.reduceAdd, Int.reduceSub, Int.reduceMul, Int.reduceEq, Int.reduceNeg, reduceCtorEq, resV, resAll, ARes.ev, LV.flat, ite_true, ite_false, exists_eq_left', exists_eq_left, keyOf, implies_true, fillC, capOf]
  have c4 : Live (N4 ++ [some (.row (triL []) true 3), some (.row [.I x, .I y, .I z, .ref N4.length 0 0] true 0)]) (N4.length + 1) (.row [.I x, .I y, .I z, .ref N4.length 0 0] true 0) := Live.newj rfl
  have cv : Live (N4 ++ [some (.row (triL []) true 3), some (.row [.I x, .I y, .I z, .ref N4.length 0 0] true 0)]) N4.length (.row (triL []) true 3) := Live.new
  have d2 := g2.app (L := [some (.row (triL []) true 3), some (.row [.I x, .I y, .I z, .ref N4.length 0 0] true 0)])
  have hD5 : DrawN M p t o bs (a + 160 + 2 + 2) (N4 ++ [some (.row (triL []) true 3), some (.row [.I x, .I y, .I z, .ref N4.length 0 0] true 0)]) := hD4.keep hpl htM (Nat.le_refl _) (by simp) fun q q1 => List.getElem?_append_left (by omega)
  rw [show triL [] = [] from rfl] at c4 cv d2 hD5
  generalize hm4 : N4.length = m4 at c4 cv d2 hD5 ⊢
  generalize N4 ++ [some (Blk.row [] true 3), some (.row [.I x, .I y, .I z, .ref m4 0 0] true 0)] = N5 at c4 cv d2 hD5 ⊢
  refine callR_of (d_pick hD5.1 (by omega)) ?_
  rintro _ N6 ⟨⟨k0, rfl, hk0⟩, hd6⟩
  simp (disch := omega) only [↓SXd, SXu, slBounds, ↓sop, ↓aop, ↓reduceIte, LV.cells, AOp.dst, LV.I, LV.B, LV.U, LV.S, LV.nil, Nat.reduceEqDiff, Nat.reduceAdd, Nat.reduceMul, Nat.reduceSub, Nat.reduceLeDiff, Nat.reduceBEq, Nat.reduceDiv, Nat.reduceMod, Int.reduceToNat, Int.reduceLT, Int.reduceLE, Int.reduceAdd, Int.reduceSub, Int.reduceMul, Int.reduceEq, Int.reduceNeg, reduceCtorEq, resV, resAll, ARes.ev, LV.flat, ite_true, ite_false, exists_eq_left', exists_eq_left, keyOf, implies_true, fillC, capOf]
  refine ev_loop (fun m fr N => ∃ (v a' : Nat) (ds : List Cell), m ≤ 9 ∧ a' + 2 * m = a + 184 ∧ (HeapOK x y z ds ∧ StairP x y z fun c => decide (c ∈ ds)) ∧ DrawN M p t o bs a' N ∧ Live N M.length (.row [.I 0, .I 0, .I 0, .nil] true 0) ∧ Live N (m4 + 1) (.row [.I x, .I y, .I z, .ref v 0 ds.length] true 0) ∧ Live N v (.row (triL ds) true 3) ∧ M.length < v ∧
    fr 0 = .ptr p 0 ∧ fr 2 = .ptr M.length 0 ∧ fr 4 = .ptr (m4 + 1) 0 ∧ fr 5 = .I m) k0
    ⟨m4, a + 184 - 2 * k0, [], by omega, by omega, empty_stair hS, (hD5.trans hd6).up (by omega), hd6.live d2 (by omega), hd6.live c4 (by omega), hd6.live cv (by omega), by omega, rfl, rfl, rfl, rfl⟩ ?_
  clear hd6 hD5 c4 cv d2
  rintro m fr N ⟨v, a', ds, hm9, ha', hV, hD, b2, b4, bv, hv, f0, f2, f4, f5⟩
  have hdl := hV.1.len
  have hlD := hD.2.1
  have hb4 := b4.lt
  simp (disch := omega) only [f0, f2, f4, f5, ↓SXd, SXu, slBounds, ↓sop, ↓aop, ↓reduceIte, LV.cells, AOp.dst, LV.I, LV.B, LV.U, LV.S, LV.nil, Nat.reduceEqDiff, Nat.reduceAdd, Nat.reduceMul, Nat.reduceSub, Nat.reduceLeDiff, Nat.reduceBEq, Nat.reduceDiv, Nat.reduceMod, Int.reduceToNat, Int.reduceLT, Int.reduceLE, Int.reduceAdd, Int.reduceSub, Int.reduceMul, Int.reduceEq, Int.reduceNeg, reduceCtorEq, resV, resAll, ARes.ev, LV.flat, ite_true, ite_false, exists_eq_left', exists_eq_left, keyOf, implies_true, fillC, capOf]
  refine condC_dec (fun hlt => ?_) (fun hlt => ?_)
  rotate_left
  · simp (disch := omega) only [f0, f2, f4, f5, b4.cells, ↓SXd, SXu, slBounds, ↓sop, ↓aop, ↓reduceIte, LV.cells, AOp.dst, LV.I, LV.B, LV.U, LV.S, LV.nil, Nat.reduceEqDiff, Nat.reduceAdd, Nat.reduceMul, Nat.reduceSub, Nat.reduceLeDiff, Nat.reduceBEq, Nat.reduceDiv, Nat.reduceMod, Int.reduceToNat, Int.reduceLT, Int.reduceLE, Int.reduceAdd, Int.reduceSub, Int.reduceMul, Int.reduceEq, Int.reduceNeg, reduceCtorEq, resV, resAll, ARes.ev, LV.flat, ite_true, ite_false, exists_eq_left', exists_eq_left, keyOf, implies_true, fillC, capOf]
    refine memK_box b2 (by simp) fun N7 i1 i2 i3 => ?_
    simp (disch := omega) only [i2.cells, f0, f2, f4, f5, ↓SXd, SXu, slBounds, ↓sop, ↓aop, ↓reduceIte, LV.cells, AOp.dst, LV.I, LV.B, LV.U, LV.S, LV.nil, Nat.reduceEqDiff, Nat.reduceAdd, Nat.reduceMul, Nat.reduceSub, Nat.reduceLeDiff, Nat.reduceBEq, Nat.reduceDiv, Nat.reduceMod, Int.reduceToNat, Int.reduceLT, Int.reduceLE, Int.reduceAdd, Int.reduceSub, Int.reduceMul, Int.reduceEq, Int.reduceNeg, reduceCtorEq, resV, resAll, ARes.ev, LV.flat, ite_true, ite_false, exists_eq_left', exists_eq_left, keyOf, implies_true, fillC, capOf]
    exact fin hD (by omega) bv (by omega) (by omega) i1 i3
  simp (disch := omega) only [f0, f2, f4, f5, b4.cells, ↓SXd, SXu, slBounds, ↓sop, ↓aop, ↓reduceIte, LV.cells, AOp.dst, LV.I, LV.B, LV.U, LV.S, LV.nil, Nat.reduceEqDiff, Nat.reduceAdd, Nat.reduceMul, Nat.reduceSub, Nat.reduceLeDiff, Nat.reduceBEq, Nat.reduceDiv, Nat.reduceMod, Int.reduceToNat, Int.reduceLT, Int.reduceLE, Int.reduceAdd, Int.reduceSub, Int.reduceMul, Int.reduceEq, Int.reduceNeg, reduceCtorEq, resV, resAll, ARes.ev, LV.flat, ite_true, ite_false, exists_eq_left', exists_eq_left, keyOf, implies_true, fillC, capOf]
  refine callK_of (h_sStairHollows bv hV) ?_
  have hal := pick_len hS (hollC x y z fun d => decide (d ∈ ds))
  have hcw := fun (c : Cell) (hc : c ∈ hollL x y z ds) => holl_with hS hc
  rw [show pick x y z (hollC x y z fun d => decide (d ∈ ds)) = hollL x y z ds from rfl] at hal
  generalize hollL x y z ds = L at hal hcw ⊢
  simp (disch := omega) only [f0, f2, f4, f5, ↓SXd, SXu, slBounds, ↓sop, ↓aop, ↓reduceIte, LV.cells, AOp.dst, LV.I, LV.B, LV.U, LV.S, LV.nil, Nat.reduceEqDiff, Nat.reduceAdd, Nat.reduceMul, Nat.reduceSub, Nat.reduceLeDiff, Nat.reduceBEq, Nat.reduceDiv, Nat.reduceMod, Int.reduceToNat, Int.reduceLT, Int.reduceLE, Int.reduceAdd, Int.reduceSub, Int.reduceMul, Int.reduceEq, Int.reduceNeg, reduceCtorEq, resV, resAll, ARes.ev, LV.flat, ite_true, ite_false, exists_eq_left', exists_eq_left, keyOf, implies_true, fillC, capOf]
  by_cases hz : ((L.length : Nat) : Int) = 0
  · simp (disch := omega) only [f0, f2, f4, f5, hz, b4.app.cells, ↓SXd, SXu, slBounds, ↓sop, ↓aop, ↓reduceIte, LV.cells, AOp.dst, LV.I, LV.B, LV.U, LV.S, LV.nil, Nat.reduceEqDiff, Nat.reduceAdd, Nat.reduceMul, Nat.reduceSub, Nat.reduceLeDiff, Nat.reduceBEq, Nat.reduceDiv, Nat.reduceMod, Int.reduceToNat, Int.reduceLT, Int.reduceLE, Int.reduceAdd, Int.reduceSub, Int.reduceMul, Int.reduceEq, Int.reduceNeg, reduceCtorEq, resV, resAll, ARes.ev, LV.flat, ite_true, ite_false, exists_eq_left', exists_eq_left, keyOf, implies_true, fillC, capOf]
    refine memK_box b2.app (by simp) fun N7 i1 i2 i3 => ?_
    simp (disch := omega) only [i2.cells, f0, f2, f4, f5, ↓SXd, SXu, slBounds, ↓sop, ↓aop, ↓reduceIte, LV.cells, AOp.dst, LV.I, LV.B, LV.U, LV.S, LV.nil, Nat.reduceEqDiff, Nat.reduceAdd, Nat.reduceMul, Nat.reduceSub, Nat.reduceLeDiff, Nat.reduceBEq, Nat.reduceDiv, Nat.reduceMod, Int.reduceToNat, Int.reduceLT, Int.reduceLE, Int.reduceAdd, Int.reduceSub, Int.reduceMul, Int.reduceEq, Int.reduceNeg, reduceCtorEq, resV, resAll, ARes.ev, LV.flat, ite_true, ite_false, exists_eq_left', exists_eq_left, keyOf, implies_true, fillC, capOf]
    have hDa : DrawN M p t o bs a' (N ++ [some (.row (triL L) true 3)]) := hD.keep hpl htM (Nat.le_refl _) (by simp) fun q q1 => List.getElem?_append_left (by omega)
    exact fin hDa (by omega) bv.app (by omega) (by omega) i1 i3
  · have bL : Live (N ++ [some (.row (triL L) true 3)]) N.length (.row (triL L) true 3) := Live.new
    have e4 := b4.app (L := [some (.row (triL L) true 3)])
    have e2 := b2.app (L := [some (.row (triL L) true 3)])
    have ev := bv.app (L := [some (.row (triL L) true 3)])
    have hDa : DrawN M p t o bs a' (N ++ [some (.row (triL L) true 3)]) := hD.keep hpl htM (Nat.le_refl _) (by simp) fun q q1 => List.getElem?_append_left (by omega)
    simp (disch := omega) only [f0, f2, f4, f5, hz, e4.cells, ↓SXd, SXu, slBounds, ↓sop, ↓aop, ↓reduceIte, LV.cells, AOp.dst, LV.I, LV.B, LV.U, LV.S, LV.nil, Nat.reduceEqDiff, Nat.reduceAdd, Nat.reduceMul, Nat.reduceSub, Nat.reduceLeDiff, Nat.reduceBEq, Nat.reduceDiv, Nat.reduceMod, Int.reduceToNat, Int.reduceLT, Int.reduceLE, Int.reduceAdd, Int.reduceSub, Int.reduceMul, Int.reduceEq, Int.reduceNeg, reduceCtorEq, resV, resAll, ARes.ev, LV.flat, ite_true, ite_false, exists_eq_left', exists_eq_left, keyOf, implies_true, fillC, capOf]
    refine callR_of (d_pick hDa.1 (by omega)) ?_
    rintro _ N7 ⟨⟨k, rfl, hk⟩, hd7⟩
    have hkl : k < L.length := by omega
    have hNl : (N ++ [some (Blk.row (triL L) true 3)]).length = N.length + 1 := by simp
    have g4 := hd7.live e4 (by omega)
    have g2 := hd7.live e2 (by omega)
    have gv := hd7.live ev (hDa.1.ne3 ev)
    have gL := hd7.live bL (hDa.1.ne3 bL)
    have hst := hd7.stay e4.lt (by omega)
    have hc := gL.tri0 hkl
    obtain ⟨hcb, hV'⟩ := hcw _ (getD_mem' (d := default) hkl)
    generalize L.getD k default = c at hc hcb hV'
    have hD7 := hDa.trans hd7
    have hl7 := hD7.2.1
    have hl77 := hd7.2.1
    simp (disch := omega) only [f0, f2, f4, f5, hc, Cell.row, ↓SXd, SXu, slBounds, ↓sop, ↓aop, ↓reduceIte, LV.cells, AOp.dst, LV.I, LV.B, LV.U, LV.S, LV.nil, Nat.reduceEqDiff, Nat.reduceAdd, Nat.reduceMul, Nat.reduceSub, Nat.reduceLeDiff, Nat.reduceBEq, Nat.reduceDiv, Nat.reduceMod, Int.reduceToNat, Int.reduceLT, Int.reduceLE, Int.reduceAdd, Int.reduceSub, Int.reduceMul, Int.reduceEq, Int.reduceNeg, reduceCtorEq, resV, resAll, ARes.ev, LV.flat, ite_true, ite_false, exists_eq_left', exists_eq_left, keyOf, implies_true, fillC, capOf]
    refine callH_of (h_l2With (c := c) gv hV.1 hcb) ?_
    intro v2 N8 hv2 hp8 hb8
    have hl8 := hp8.1
    simp (disch := omega) only [f0, f2, f4, f5, ↓SXd, SXu, slBounds, ↓sop, ↓aop, ↓reduceIte, LV.cells, AOp.dst, LV.I, LV.B, LV.U, LV.S, LV.nil, Nat.reduceEqDiff, Nat.reduceAdd, Nat.reduceMul, Nat.reduceSub, Nat.reduceLeDiff, Nat.reduceBEq, Nat.reduceDiv, Nat.reduceMod, Int.reduceToNat, Int.reduceLT, Int.reduceLE, Int.reduceAdd, Int.reduceSub, Int.reduceMul, Int.reduceEq, Int.reduceNeg, reduceCtorEq, resV, resAll, ARes.ev, LV.flat, ite_true, ite_false, exists_eq_left', exists_eq_left, keyOf, implies_true, fillC, capOf]
    refine memK_box (g4.pre hp8) (by simp) fun N9 j1 j2 j3 => ?_
    simp (disch := omega) only [f0, f2, f4, f5, ↓SXd, SXu, slBounds, ↓sop, ↓aop, ↓reduceIte, LV.cells, AOp.dst, LV.I, LV.B, LV.U, LV.S, LV.nil, Nat.reduceEqDiff, Nat.reduceAdd, Nat.reduceMul, Nat.reduceSub, Nat.reduceLeDiff, Nat.reduceBEq, Nat.reduceDiv, Nat.reduceMod, Int.reduceToNat, Int.reduceLT, Int.reduceLE, Int.reduceAdd, Int.reduceSub, Int.reduceMul, Int.reduceEq, Int.reduceNeg, reduceCtorEq, resV, resAll, ARes.ev, LV.flat, ite_true, ite_false, exists_eq_left', exists_eq_left, keyOf, implies_true, fillC, capOf]
    refine ⟨m - 1, by omega, v2, a' + 2, _, by omega, by omega, hV', hD7.keep hpl htM (Nat.le_refl _) (by omega) fun q q1 => ?_, live_step (g2.pre hp8) (by omega) j3, j2, live_step hb8 (by omega) j3, by omega, f0, f2, f4, ?_⟩
    · rw [j3 q (by omega) (by omega)]; exact hp8.2 q (by omega)
    · exact eqI (by omega)
theorem d_stair5E {p t o a : Nat} {bs : List Nat} {M : Mem} (h : CurAt M p t o bs a) (ha : a ≤ 900000) : CallsR PG F.spec_l1Cur_stair5 [.ptr p 0] M fun v N => HeapE M v N ∧ DrawN M p t o bs (a + 200) N := by
  obtain ⟨⟨_, _, _, hpl'⟩, hB, _⟩ := id h
  have hpl := hpl'.lt
  have htM := hB.lt
  refine (d_stair5D h ha).den (e := 3) ?_
  rintro v N ⟨⟨x, y, z, w, cs, rfl, hs, hnw, hl⟩, hd⟩
  rcases hs with ⟨rfl, rfl⟩ | ⟨u, rfl, hu⟩
  · exact .inr ⟨.agg [.I x, .I y, .I z, .ref N.length 0 0], .inl (.inr ⟨_, _, rfl, rfl, .rfl, .rfl, .rfl, .nil, trivial⟩), ⟨x, y, z, [], N.length, rfl, Live.new, hd.2.1, by simp⟩, hd.keep hpl htM (Nat.le_refl _) (by simp) fun q q1 => List.getElem?_append_left (by have := hd.2.1; omega)⟩
  · refine .inl ⟨⟨x, y, z, cs, u, rfl, hu, ?_, hl⟩, hd⟩
    rcases Nat.lt_or_ge u M.length with h1 | h1
    · exact absurd rfl (hnw u h1)
    · exact h1
section
variable {t o : Nat} {bs : List Nat} {M : Mem} (hB : Bytes M t o bs) (h255 : ∀ b ∈ bs, b ≤ 255) (hl : bs.length ≤ 1000000000)
include hB h255 hl
theorem d_DrawStairOrders : CallsR PG F.spec_DrawStairOrders [.ref t o bs.length] M fun v N => HeapE M v N ∧ Pre M N := by
  have htM := hB.lt
  refine callsR_run K.spec_DrawStairOrders rfl ?_
  simp (disch := omega) only [C.spec_DrawStairOrders, splice, ↓SXd, SXu, slBounds, ↓sop, ↓aop, ↓reduceIte, LV.cells, AOp.dst, LV.I, LV.B, LV.U, LV.S, LV.nil, Nat.reduceEqDiff, Nat.reduceAdd, Nat.reduceMul, Nat.reduceSub, Nat.reduceLeDiff, Nat.reduceBEq, Nat.reduceDiv, Nat.reduceMod, Int.reduceToNat, Int.reduceLT, Int.reduceLE, Int.reduceAdd, Int.reduceSub, Int.reduceMul, Int.reduceEq, Int.reduceNeg, reduceCtorEq, resV, resAll, ARes.ev, LV.flat, ite_true, ite_false, exists_eq_left', exists_eq_left, keyOf, implies_true, fillC, capOf]
  have hc := CurAt.new2 (b := some (.row [.I 0, .I 0, .I 0, .nil] true 0)) hB h255 hl
  have hL0 : Live (M ++ [some (.row [.I 0, .I 0, .I 0, .nil] true 0), some (.row [.ref t o bs.length, .I 0, .val (.int .u64 0)] true 0)]) M.length (.row [.I 0, .I 0, .I 0, .nil] true 0) := Live.new
  have hPP : Pre M (M ++ [some (.row [.I 0, .I 0, .I 0, .nil] true 0), some (.row [.ref t o bs.length, .I 0, .val (.int .u64 0)] true 0)]) := Pre.app _ _
  have ham := d_amongNew (xs := [2, 3, 2, 4]) hc (by omega) (by simp) (by simp)
  rw [List.append_assoc, List.length_append] at ham
  refine callR_of ham ?_
  clear ham
  rintro _ N1 ⟨⟨x, rfl, hx⟩, hd1⟩
  simp (disch := omega) only [↓SXd, SXu, slBounds, ↓sop, ↓aop, ↓reduceIte, LV.cells, AOp.dst, LV.I, LV.B, LV.U, LV.S, LV.nil, Nat.reduceEqDiff, Nat.reduceAdd, Nat.reduceMul, Nat.reduceSub, Nat.reduceLeDiff, Nat.reduceBEq, Nat.reduceDiv, Nat.reduceMod, Int.reduceToNat, Int.reduceLT, Int.reduceLE, Int.reduceAdd, Int.reduceSub, Int.reduceMul, Int.reduceEq, Int.reduceNeg, reduceCtorEq, resV, resAll, ARes.ev, LV.flat, ite_true, ite_false, exists_eq_left', exists_eq_left, keyOf, implies_true, fillC, capOf]
  refine callR_of (d_amongNew (xs := [2, 3, 2, 1]) hd1.1 (by omega) (by simp) (by simp)) ?_
  rintro _ N2 ⟨⟨y, rfl, hy⟩, hd2⟩
  simp (disch := omega) only [↓SXd, SXu, slBounds, ↓sop, ↓aop, ↓reduceIte, LV.cells, AOp.dst, LV.I, LV.B, LV.U, LV.S, LV.nil, Nat.reduceEqDiff, Nat.reduceAdd, Nat.reduceMul, Nat.reduceSub, Nat.reduceLeDiff, Nat.reduceBEq, Nat.reduceDiv, Nat.reduceMod, Int.reduceToNat, Int.reduceLT, Int.reduceLE, Int.reduceAdd, Int.reduceSub, Int.reduceMul, Int.reduceEq, Int.reduceNeg, reduceCtorEq, resV, resAll, ARes.ev, LV.flat, ite_true, ite_false, exists_eq_left', exists_eq_left, keyOf, implies_true, fillC, capOf]
  refine callR_of (d_amongNew (xs := [2, 3, 1]) hd2.1 (by omega) (by simp) (by simp)) ?_
  rintro _ N3 ⟨⟨z, rfl, hz⟩, hd3⟩
  have hS : Sides x y z := by
    simp only [List.mem_cons, List.not_mem_nil, or_false] at hx hy hz
    exact ⟨by omega, by omega, by omega⟩
  have hD3 := (hd1.trans hd2).trans hd3
  have b2 := hD3.live hL0 (by omega)
  have hP3 : Pre M N3 := hD3.pre hPP (by omega)
  have hl3 := hD3.2.1
  simp only [List.length_append, List.length_cons, List.length_nil] at hl3
  have hcur := hD3.1
  simp (disch := omega) only [↓SXd, SXu, slBounds, ↓sop, ↓aop, ↓reduceIte, LV.cells, AOp.dst, LV.I, LV.B, LV.U, LV.S, LV.nil, Nat.reduceEqDiff, Nat.reduceAdd, Nat.reduceMul, Nat.reduceSub, Nat.reduceLeDiff, Nat.reduceBEq, Nat.reduceDiv, Nat.reduceMod, Int.reduceToNat, Int.reduceLT, Int.reduceLE, Int.reduceAdd, Int.reduceSub, Int.reduceMul, Int.reduceEq, Int.reduceNeg, reduceCtorEq, resV, resAll, ARes.ev, LV.flat, ite_true, ite_false, exists_eq_left', exists_eq_left, keyOf, implies_true, fillC, capOf]
  refine callK_of (h_l2Empty) ?_
  simp (disch := omega) only [splice, ↓SXd, SXu, slBounds, ↓sop, ↓aop, ↓reduceIte, LV.cells, AOp.dst, LV.I, LV.B, LV.U, LV.S, LV.nil, Nat.reduceEqDiff, Nat.reduceAdd, Nat.reduceMul, Nat.reduceSub, Nat.reduceLeDiff, Nat.reduceBEq, Nat.reduceDiv, Nat.reduceMod, Int.reduceToNat, Int.reduceLT, Int.reduceLE, Int.reduceAdd, Int.reduceSub, Int.reduceMul, Int.reduceEq, Int.reduceNeg, reduceCtorEq, resV, resAll, ARes.ev, LV.flat, ite_true, ite_false, exists_eq_left', exists_eq_left, keyOf, implies_true, fillC, capOf]
  have c4 : Live (N3 ++ [some (.row [] true 3), some (.row [.I x, .I y, .I z, .ref N3.length 0 0] true 0)]) (N3.length + 1) (.row [.I x, .I y, .I z, .ref N3.length 0 0] true 0) := Live.newj rfl
  have cv : Live (N3 ++ [some (.row [] true 3), some (.row [.I x, .I y, .I z, .ref N3.length 0 0] true 0)]) N3.length (.row [] true 3) := Live.new
  have d2 := b2.app (L := [some (.row [] true 3), some (.row [.I x, .I y, .I z, .ref N3.length 0 0] true 0)])
  have hP5 : Pre M (N3 ++ [some (.row [] true 3), some (.row [.I x, .I y, .I z, .ref N3.length 0 0] true 0)]) := hP3.trans (Pre.app _ _)
  have hcur5 : CurAt (N3 ++ [some (.row [] true 3), some (.row [.I x, .I y, .I z, .ref N3.length 0 0] true 0)]) (M.length + 1) t o bs (0 + 2 + 2 + 2) := hcur.pre (Pre.app _ _)
  generalize hm4 : N3.length = m4 at c4 cv d2 hP5 hcur5 ⊢
  generalize N3 ++ [some (Blk.row [] true 3), some (.row [.I x, .I y, .I z, .ref m4 0 0] true 0)] = N5 at c4 cv d2 hP5 hcur5 ⊢
  refine callR_of (d_pick hcur5 (by omega)) ?_
  rintro _ N6 ⟨⟨k0, rfl, hk0⟩, hd6⟩
  simp (disch := omega) only [↓SXd, SXu, slBounds, ↓sop, ↓aop, ↓reduceIte, LV.cells, AOp.dst, LV.I, LV.B, LV.U, LV.S, LV.nil, Nat.reduceEqDiff, Nat.reduceAdd, Nat.reduceMul, Nat.reduceSub, Nat.reduceLeDiff, Nat.reduceBEq, Nat.reduceDiv, Nat.reduceMod, Int.reduceToNat, Int.reduceLT, Int.reduceLE, Int.reduceAdd, Int.reduceSub, Int.reduceMul, Int.reduceEq, Int.reduceNeg, reduceCtorEq, resV, resAll, ARes.ev, LV.flat, ite_true, ite_false, exists_eq_left', exists_eq_left, keyOf, implies_true, fillC, capOf]
  have fin : ∀ {N N' : Mem} {X Y Z : Int} {ds : List Cell} {v : Nat}, Pre M N → Live N v (.row (triL ds) true 3) → M.length < v → ds.length ≤ 65 → N'.length = N.length → (∀ q, q ≠ M.length → q < N.length → N'[q]? = N[q]?) → HeapE M (.agg [.I X, .I Y, .I Z, .ref v 0 ds.length]) N' ∧ Pre M N' := fun {N N' X Y Z ds v} k1 k3 k4 k5 j1 j3 =>
    ⟨⟨X, Y, Z, ds, v, rfl, live_step k3 (by omega) j3, by omega, k5⟩, pre_step k1 (by omega) (j := 0) j1 j3⟩
  refine ev_loop (fun m fr N => ∃ (v a' : Nat) (ds : List Cell), m ≤ 9 ∧ a' + 2 * m = 100 ∧ (HeapOK x y z ds ∧ StairP x y z fun c => decide (c ∈ ds)) ∧ CurAt N (M.length + 1) t o bs a' ∧ Pre M N ∧ Live N M.length (.row [.I 0, .I 0, .I 0, .nil] true 0) ∧ Live N (m4 + 1) (.row [.I x, .I y, .I z, .ref v 0 ds.length] true 0) ∧ Live N v (.row (triL ds) true 3) ∧ M.length < v ∧
    fr 2 = .ptr M.length 0 ∧ fr 3 = .ptr (M.length + 1) 0 ∧ fr 4 = .ptr (m4 + 1) 0 ∧ fr 5 = .I m) k0
    ⟨m4, 100 - 2 * k0, [], by omega, by omega, empty_stair hS, (hd6.up (by omega)).1, hd6.pre hP5 (by omega), hd6.live d2 (by omega), hd6.live c4 (by omega), hd6.live cv (by omega), by omega, rfl, rfl, rfl, rfl⟩ ?_
  clear hd6 hcur5 hP5 c4 cv d2 hd1 hd2 hd3 hD3 b2 hcur hc hL0
  rintro m fr N ⟨v, a', ds, hm9, ha', hV, hcur, hP, b2, b4, bv, hv, f2, f3, f4, f5⟩
  have hdl := hV.1.len
  have hlD := hP.1
  have hb4 := b4.lt
  simp (disch := omega) only [f2, f3, f4, f5, ↓SXd, SXu, slBounds, ↓sop, ↓aop, ↓reduceIte, LV.cells, AOp.dst, LV.I, LV.B, LV.U, LV.S, LV.nil, Nat.reduceEqDiff, Nat.reduceAdd, Nat.reduceMul, Nat.reduceSub, Nat.reduceLeDiff, Nat.reduceBEq, Nat.reduceDiv, Nat.reduceMod, Int.reduceToNat, Int.reduceLT, Int.reduceLE, Int.reduceAdd, Int.reduceSub, Int.reduceMul, Int.reduceEq, Int.reduceNeg, reduceCtorEq, resV, resAll, ARes.ev, LV.flat, ite_true, ite_false, exists_eq_left', exists_eq_left, keyOf, implies_true, fillC, capOf]
  refine condC_dec (fun hlt => ?_) (fun hlt => ?_)
  rotate_left
  · simp (disch := omega) only [f2, f3, f4, f5, ↓SXd, SXu, slBounds, ↓sop, ↓aop, ↓reduceIte, LV.cells, AOp.dst, LV.I, LV.B, LV.U, LV.S, LV.nil, Nat.reduceEqDiff, Nat.reduceAdd, Nat.reduceMul, Nat.reduceSub, Nat.reduceLeDiff, Nat.reduceBEq, Nat.reduceDiv, Nat.reduceMod, Int.reduceToNat, Int.reduceLT, Int.reduceLE, Int.reduceAdd, Int.reduceSub, Int.reduceMul, Int.reduceEq, Int.reduceNeg, reduceCtorEq, resV, resAll, ARes.ev, LV.flat, ite_true, ite_false, exists_eq_left', exists_eq_left, keyOf, implies_true, fillC, capOf]
    refine callR_of (d_one hcur (by omega)) ?_
    rintro _ N7 ⟨⟨b, rfl⟩, hd7⟩
    have g2 := hd7.live b2 (by omega)
    have g4 := hd7.live b4 (by omega)
    have gv := hd7.live bv (hcur.ne3 bv)
    have hP7 := hd7.pre hP (by omega)
    cases b
    rotate_left
    · simp (disch := omega) only [f2, f3, f4, f5, ↓SXd, SXu, slBounds, ↓sop, ↓aop, ↓reduceIte, LV.cells, AOp.dst, LV.I, LV.B, LV.U, LV.S, LV.nil, Nat.reduceEqDiff, Nat.reduceAdd, Nat.reduceMul, Nat.reduceSub, Nat.reduceLeDiff, Nat.reduceBEq, Nat.reduceDiv, Nat.reduceMod, Int.reduceToNat, Int.reduceLT, Int.reduceLE, Int.reduceAdd, Int.reduceSub, Int.reduceMul, Int.reduceEq, Int.reduceNeg, reduceCtorEq, resV, resAll, ARes.ev, LV.flat, ite_true, ite_false, exists_eq_left', exists_eq_left, keyOf, implies_true, fillC, capOf]
      refine callR_of (d_stair5E hd7.1 (by omega)) ?_
      rintro _ N8 ⟨⟨X, Y, Z, es, u, rfl, hu, hul, hel⟩, hd8⟩
      have hP8 := hd8.pre hP7 (by omega)
      have hl7 := hP7.1
      have hg2 := g2.lt
      simp (disch := omega) only [f2, f3, f4, f5, ↓SXd, SXu, slBounds, ↓sop, ↓aop, ↓reduceIte, LV.cells, AOp.dst, LV.I, LV.B, LV.U, LV.S, LV.nil, Nat.reduceEqDiff, Nat.reduceAdd, Nat.reduceMul, Nat.reduceSub, Nat.reduceLeDiff, Nat.reduceBEq, Nat.reduceDiv, Nat.reduceMod, Int.reduceToNat, Int.reduceLT, Int.reduceLE, Int.reduceAdd, Int.reduceSub, Int.reduceMul, Int.reduceEq, Int.reduceNeg, reduceCtorEq, resV, resAll, ARes.ev, LV.flat, ite_true, ite_false, exists_eq_left', exists_eq_left, keyOf, implies_true, fillC, capOf]
      refine memK_box (hd8.live g2 (by omega)) (by simp) fun N9 i1 i2 i3 => ?_
      simp (disch := omega) only [i2.cells, f2, f3, f4, f5, ↓SXd, SXu, slBounds, ↓sop, ↓aop, ↓reduceIte, LV.cells, AOp.dst, LV.I, LV.B, LV.U, LV.S, LV.nil, Nat.reduceEqDiff, Nat.reduceAdd, Nat.reduceMul, Nat.reduceSub, Nat.reduceLeDiff, Nat.reduceBEq, Nat.reduceDiv, Nat.reduceMod, Int.reduceToNat, Int.reduceLT, Int.reduceLE, Int.reduceAdd, Int.reduceSub, Int.reduceMul, Int.reduceEq, Int.reduceNeg, reduceCtorEq, resV, resAll, ARes.ev, LV.flat, ite_true, ite_false, exists_eq_left', exists_eq_left, keyOf, implies_true, fillC, capOf]
      exact fin hP8 hu (by omega) (by omega) i1 i3
    · simp (disch := omega) only [f2, f3, f4, f5, g4.cells, ↓SXd, SXu, slBounds, ↓sop, ↓aop, ↓reduceIte, LV.cells, AOp.dst, LV.I, LV.B, LV.U, LV.S, LV.nil, Nat.reduceEqDiff, Nat.reduceAdd, Nat.reduceMul, Nat.reduceSub, Nat.reduceLeDiff, Nat.reduceBEq, Nat.reduceDiv, Nat.reduceMod, Int.reduceToNat, Int.reduceLT, Int.reduceLE, Int.reduceAdd, Int.reduceSub, Int.reduceMul, Int.reduceEq, Int.reduceNeg, reduceCtorEq, resV, resAll, ARes.ev, LV.flat, ite_true, ite_false, exists_eq_left', exists_eq_left, keyOf, implies_true, fillC, capOf]
      refine memK_box g2 (by simp) fun N9 i1 i2 i3 => ?_
      simp (disch := omega) only [i2.cells, f2, f3, f4, f5, ↓SXd, SXu, slBounds, ↓sop, ↓aop, ↓reduceIte, LV.cells, AOp.dst, LV.I, LV.B, LV.U, LV.S, LV.nil, Nat.reduceEqDiff, Nat.reduceAdd, Nat.reduceMul, Nat.reduceSub, Nat.reduceLeDiff, Nat.reduceBEq, Nat.reduceDiv, Nat.reduceMod, Int.reduceToNat, Int.reduceLT, Int.reduceLE, Int.reduceAdd, Int.reduceSub, Int.reduceMul, Int.reduceEq, Int.reduceNeg, reduceCtorEq, resV, resAll, ARes.ev, LV.flat, ite_true, ite_false, exists_eq_left', exists_eq_left, keyOf, implies_true, fillC, capOf]
      exact fin hP7 gv (by omega) (by omega) i1 i3
  simp (disch := omega) only [f2, f3, f4, f5, b4.cells, ↓SXd, SXu, slBounds, ↓sop, ↓aop, ↓reduceIte, LV.cells, AOp.dst, LV.I, LV.B, LV.U, LV.S, LV.nil, Nat.reduceEqDiff, Nat.reduceAdd, Nat.reduceMul, Nat.reduceSub, Nat.reduceLeDiff, Nat.reduceBEq, Nat.reduceDiv, Nat.reduceMod, Int.reduceToNat, Int.reduceLT, Int.reduceLE, Int.reduceAdd, Int.reduceSub, Int.reduceMul, Int.reduceEq, Int.reduceNeg, reduceCtorEq, resV, resAll, ARes.ev, LV.flat, ite_true, ite_false, exists_eq_left', exists_eq_left, keyOf, implies_true, fillC, capOf]
  refine callK_of (h_sStairHollows bv hV) ?_
  have hal := pick_len hS (hollC x y z fun d => decide (d ∈ ds))
  have hcw := fun (c : Cell) (hc : c ∈ hollL x y z ds) => holl_with hS hc
  rw [show pick x y z (hollC x y z fun d => decide (d ∈ ds)) = hollL x y z ds from rfl] at hal
  generalize hollL x y z ds = L at hal hcw ⊢
  simp (disch := omega) only [f2, f3, f4, f5, ↓SXd, SXu, slBounds, ↓sop, ↓aop, ↓reduceIte, LV.cells, AOp.dst, LV.I, LV.B, LV.U, LV.S, LV.nil, Nat.reduceEqDiff, Nat.reduceAdd, Nat.reduceMul, Nat.reduceSub, Nat.reduceLeDiff, Nat.reduceBEq, Nat.reduceDiv, Nat.reduceMod, Int.reduceToNat, Int.reduceLT, Int.reduceLE, Int.reduceAdd, Int.reduceSub, Int.reduceMul, Int.reduceEq, Int.reduceNeg, reduceCtorEq, resV, resAll, ARes.ev, LV.flat, ite_true, ite_false, exists_eq_left', exists_eq_left, keyOf, implies_true, fillC, capOf]
  by_cases hz : ((L.length : Nat) : Int) = 0
  · simp (disch := omega) only [f2, f3, f4, f5, hz, b4.app.cells, ↓SXd, SXu, slBounds, ↓sop, ↓aop, ↓reduceIte, LV.cells, AOp.dst, LV.I, LV.B, LV.U, LV.S, LV.nil, Nat.reduceEqDiff, Nat.reduceAdd, Nat.reduceMul, Nat.reduceSub, Nat.reduceLeDiff, Nat.reduceBEq, Nat.reduceDiv, Nat.reduceMod, Int.reduceToNat, Int.reduceLT, Int.reduceLE, Int.reduceAdd, Int.reduceSub, Int.reduceMul, Int.reduceEq, Int.reduceNeg, reduceCtorEq, resV, resAll, ARes.ev, LV.flat, ite_true, ite_false, exists_eq_left', exists_eq_left, keyOf, implies_true, fillC, capOf]
    refine memK_box b2.app (by simp) fun N7 i1 i2 i3 => ?_
    simp (disch := omega) only [i2.cells, f2, f3, f4, f5, ↓SXd, SXu, slBounds, ↓sop, ↓aop, ↓reduceIte, LV.cells, AOp.dst, LV.I, LV.B, LV.U, LV.S, LV.nil, Nat.reduceEqDiff, Nat.reduceAdd, Nat.reduceMul, Nat.reduceSub, Nat.reduceLeDiff, Nat.reduceBEq, Nat.reduceDiv, Nat.reduceMod, Int.reduceToNat, Int.reduceLT, Int.reduceLE, Int.reduceAdd, Int.reduceSub, Int.reduceMul, Int.reduceEq, Int.reduceNeg, reduceCtorEq, resV, resAll, ARes.ev, LV.flat, ite_true, ite_false, exists_eq_left', exists_eq_left, keyOf, implies_true, fillC, capOf]
    exact fin (hP.trans (Pre.app _ _)) bv.app (by omega) (by omega) i1 i3
  · have bL : Live (N ++ [some (.row (triL L) true 3)]) N.length (.row (triL L) true 3) := Live.new
    have e4 := b4.app (L := [some (.row (triL L) true 3)])
    have e2 := b2.app (L := [some (.row (triL L) true 3)])
    have ev := bv.app (L := [some (.row (triL L) true 3)])
    have hca : CurAt (N ++ [some (.row (triL L) true 3)]) (M.length + 1) t o bs a' := hcur.pre (Pre.app _ _)
    simp (disch := omega) only [f2, f3, f4, f5, hz, e4.cells, ↓SXd, SXu, slBounds, ↓sop, ↓aop, ↓reduceIte, LV.cells, AOp.dst, LV.I, LV.B, LV.U, LV.S, LV.nil, Nat.reduceEqDiff, Nat.reduceAdd, Nat.reduceMul, Nat.reduceSub, Nat.reduceLeDiff, Nat.reduceBEq, Nat.reduceDiv, Nat.reduceMod, Int.reduceToNat, Int.reduceLT, Int.reduceLE, Int.reduceAdd, Int.reduceSub, Int.reduceMul, Int.reduceEq, Int.reduceNeg, reduceCtorEq, resV, resAll, ARes.ev, LV.flat, ite_true, ite_false, exists_eq_left', exists_eq_left, keyOf, implies_true, fillC, capOf]
    refine callR_of (d_pick hca (by omega)) ?_
    rintro _ N7 ⟨⟨k, rfl, hk⟩, hd7⟩
    have hkl : k < L.length := by omega
    have hNl : (N ++ [some (Blk.row (triL L) true 3)]).length = N.length + 1 := by simp
    have g4 := hd7.live e4 (by omega)
    have g2 := hd7.live e2 (by omega)
    have gv := hd7.live ev (hca.ne3 ev)
    have gL := hd7.live bL (hca.ne3 bL)
    have hst := hd7.stay e4.lt (by omega)
    have hc := gL.tri0 hkl
    obtain ⟨hcb, hV'⟩ := hcw _ (getD_mem' (d := default) hkl)
    generalize L.getD k default = c at hc hcb hV'
    have hP7 : Pre M N7 := hd7.pre (hP.trans (Pre.app _ _)) (by omega)
    have hl7 := hP7.1
    have hl77 := hd7.2.1
    simp (disch := omega) only [f2, f3, f4, f5, hc, Cell.row, ↓SXd, SXu, slBounds, ↓sop, ↓aop, ↓reduceIte, LV.cells, AOp.dst, LV.I, LV.B, LV.U, LV.S, LV.nil, Nat.reduceEqDiff, Nat.reduceAdd, Nat.reduceMul, Nat.reduceSub, Nat.reduceLeDiff, Nat.reduceBEq, Nat.reduceDiv, Nat.reduceMod, Int.reduceToNat, Int.reduceLT, Int.reduceLE, Int.reduceAdd, Int.reduceSub, Int.reduceMul, Int.reduceEq, Int.reduceNeg, reduceCtorEq, resV, resAll, ARes.ev, LV.flat, ite_true, ite_false, exists_eq_left', exists_eq_left, keyOf, implies_true, fillC, capOf]
    refine callH_of (h_l2With (c := c) gv hV.1 hcb) ?_
    intro v2 N8 hv2 hp8 hb8
    have hl8 := hp8.1
    simp (disch := omega) only [f2, f3, f4, f5, ↓SXd, SXu, slBounds, ↓sop, ↓aop, ↓reduceIte, LV.cells, AOp.dst, LV.I, LV.B, LV.U, LV.S, LV.nil, Nat.reduceEqDiff, Nat.reduceAdd, Nat.reduceMul, Nat.reduceSub, Nat.reduceLeDiff, Nat.reduceBEq, Nat.reduceDiv, Nat.reduceMod, Int.reduceToNat, Int.reduceLT, Int.reduceLE, Int.reduceAdd, Int.reduceSub, Int.reduceMul, Int.reduceEq, Int.reduceNeg, reduceCtorEq, resV, resAll, ARes.ev, LV.flat, ite_true, ite_false, exists_eq_left', exists_eq_left, keyOf, implies_true, fillC, capOf]
    refine memK_box (g4.pre hp8) (by simp) fun N9 j1 j2 j3 => ?_
    simp (disch := omega) only [f2, f3, f4, f5, ↓SXd, SXu, slBounds, ↓sop, ↓aop, ↓reduceIte, LV.cells, AOp.dst, LV.I, LV.B, LV.U, LV.S, LV.nil, Nat.reduceEqDiff, Nat.reduceAdd, Nat.reduceMul, Nat.reduceSub, Nat.reduceLeDiff, Nat.reduceBEq, Nat.reduceDiv, Nat.reduceMod, Int.reduceToNat, Int.reduceLT, Int.reduceLE, Int.reduceAdd, Int.reduceSub, Int.reduceMul, Int.reduceEq, Int.reduceNeg, reduceCtorEq, resV, resAll, ARes.ev, LV.flat, ite_true, ite_false, exists_eq_left', exists_eq_left, keyOf, implies_true, fillC, capOf]
    have htl := hd7.1.2.1.lt
    refine ⟨m - 1, by omega, v2, a' + 2, _, by omega, by omega, hV', (hd7.1.pre hp8).stepped (by omega) (by omega) j3, pre_step (hP7.trans hp8) (by omega) (j := 0) j1 j3, live_step (g2.pre hp8) (by omega) j3, j2, live_step hb8 (by omega) j3, by omega, f2, f3, f4, ?_⟩
    exact eqI (by omega)

theorem d_DrawStairLines : CallsR PG F.spec_DrawStairLines [.ref t o bs.length] M fun v N => HeapE M v N ∧ Pre M N := by
  have htM := hB.lt
  refine callsR_run K.spec_DrawStairLines rfl ?_
  simp (disch := omega) only [C.spec_DrawStairLines, splice, ↓SXd, SXu, slBounds, ↓sop, ↓aop, ↓reduceIte, LV.cells, AOp.dst, LV.I, LV.B, LV.U, LV.S, LV.nil, Nat.reduceEqDiff, Nat.reduceAdd, Nat.reduceMul, Nat.reduceSub, Nat.reduceLeDiff, Nat.reduceBEq, Nat.reduceDiv, Nat.reduceMod, Int.reduceToNat, Int.reduceLT, Int.reduceLE, Int.reduceAdd, Int.reduceSub, Int.reduceMul, Int.reduceEq, Int.reduceNeg, reduceCtorEq, resV, resAll, ARes.ev, LV.flat, ite_true, ite_false, exists_eq_left', exists_eq_left, keyOf, implies_true, fillC, capOf]
  have hc := CurAt.new2 (b := some (.row [.I 0, .I 0, .I 0, .nil] true 0)) hB h255 hl
  have hL0 : Live (M ++ [some (.row [.I 0, .I 0, .I 0, .nil] true 0), some (.row [.ref t o bs.length, .I 0, .val (.int .u64 0)] true 0)]) M.length (.row [.I 0, .I 0, .I 0, .nil] true 0) := Live.new
  have hPP : Pre M (M ++ [some (.row [.I 0, .I 0, .I 0, .nil] true 0), some (.row [.ref t o bs.length, .I 0, .val (.int .u64 0)] true 0)]) := Pre.app _ _
  have ham := d_amongNew (xs := [2, 3, 2, 1]) hc (by omega) (by simp) (by simp)
  rw [List.append_assoc, List.length_append] at ham
  refine callR_of ham ?_
  clear ham
  rintro _ N1 ⟨⟨n, rfl, hx⟩, hd1⟩
  have hS : Sides n n n := by
    simp only [List.mem_cons, List.not_mem_nil, or_false] at hx
    exact ⟨by omega, by omega, by omega⟩
  simp (disch := omega) only [↓SXd, SXu, slBounds, ↓sop, ↓aop, ↓reduceIte, LV.cells, AOp.dst, LV.I, LV.B, LV.U, LV.S, LV.nil, Nat.reduceEqDiff, Nat.reduceAdd, Nat.reduceMul, Nat.reduceSub, Nat.reduceLeDiff, Nat.reduceBEq, Nat.reduceDiv, Nat.reduceMod, Int.reduceToNat, Int.reduceLT, Int.reduceLE, Int.reduceAdd, Int.reduceSub, Int.reduceMul, Int.reduceEq, Int.reduceNeg, reduceCtorEq, resV, resAll, ARes.ev, LV.flat, ite_true, ite_false, exists_eq_left', exists_eq_left, keyOf, implies_true, fillC, capOf]
  refine callR_of (d_someHeapK hd1.1 (by omega)) ?_
  rintro _ N2 ⟨⟨cs, u, rfl, hu, hul, hcl, hHK⟩, hd2⟩
  have hH := hHK hS
  have hD2 := hd1.trans hd2
  have b2 := hD2.live hL0 (by omega)
  have hP2 : Pre M N2 := hD2.pre hPP (by omega)
  have hl2 := hD2.2.1
  have hl1 := hd1.2.1
  simp only [List.length_append, List.length_cons, List.length_nil] at hl2 hl1
  have hcur := hD2.1
  have hull := hu.lt
  simp (disch := omega) only [splice, ↓SXd, SXu, slBounds, ↓sop, ↓aop, ↓reduceIte, LV.cells, AOp.dst, LV.I, LV.B, LV.U, LV.S, LV.nil, Nat.reduceEqDiff, Nat.reduceAdd, Nat.reduceMul, Nat.reduceSub, Nat.reduceLeDiff, Nat.reduceBEq, Nat.reduceDiv, Nat.reduceMod, Int.reduceToNat, Int.reduceLT, Int.reduceLE, Int.reduceAdd, Int.reduceSub, Int.reduceMul, Int.reduceEq, Int.reduceNeg, reduceCtorEq, resV, resAll, ARes.ev, LV.flat, ite_true, ite_false, exists_eq_left', exists_eq_left, keyOf, implies_true, fillC, capOf]
  have b5 : Live (N2 ++ [some (.row [.I n, .I n, .I n, .ref u 0 cs.length] true 0)]) N2.length (.row [.I n, .I n, .I n, .ref u 0 cs.length] true 0) := Live.new
  have c2 := b2.app (L := [some (.row [.I n, .I n, .I n, .ref u 0 cs.length] true 0)])
  have cu := hu.app (L := [some (.row [.I n, .I n, .I n, .ref u 0 cs.length] true 0)])
  have hP3 : Pre M (N2 ++ [some (.row [.I n, .I n, .I n, .ref u 0 cs.length] true 0)]) := hP2.trans (Pre.app _ _)
  have hcur3 : CurAt (N2 ++ [some (.row [.I n, .I n, .I n, .ref u 0 cs.length] true 0)]) (M.length + 1) t o bs (0 + 2 + 140) := hcur.pre (Pre.app _ _)
  generalize hm5 : N2.length = m5 at b5 ⊢
  generalize N2 ++ [some (Blk.row [.I n, .I n, .I n, .ref u 0 cs.length] true 0)] = N3 at b5 c2 cu hP3 hcur3 ⊢
  have fin : ∀ {N N' : Mem} {X Y Z : Int} {ds : List Cell} {v : Nat}, Pre M N → Live N v (.row (triL ds) true 3) → M.length < v → ds.length ≤ 65 → N'.length = N.length → (∀ q, q ≠ M.length → q < N.length → N'[q]? = N[q]?) → HeapE M (.agg [.I X, .I Y, .I Z, .ref v 0 ds.length]) N' ∧ Pre M N' := fun {N N' X Y Z ds v} k1 k3 k4 k5 j1 j3 =>
    ⟨⟨X, Y, Z, ds, v, rfl, live_step k3 (by omega) j3, by omega, k5⟩, pre_step k1 (by omega) (j := 0) j1 j3⟩
  refine callR_of (d_one hcur3 (by omega)) ?_
  rintro _ N4 ⟨⟨b, rfl⟩, hd4⟩
  have g2 := hd4.live c2 (by omega)
  have g5 := hd4.live b5 (by omega)
  have gu := hd4.live cu (by omega)
  have hP4 := hd4.pre hP3 (by omega)
  have hl4 := hP4.1
  have hg2 := g2.lt
  have hg5 := g5.lt
  cases b
  · simp (disch := omega) only [↓SXd, SXu, slBounds, ↓sop, ↓aop, ↓reduceIte, LV.cells, AOp.dst, LV.I, LV.B, LV.U, LV.S, LV.nil, Nat.reduceEqDiff, Nat.reduceAdd, Nat.reduceMul, Nat.reduceSub, Nat.reduceLeDiff, Nat.reduceBEq, Nat.reduceDiv, Nat.reduceMod, Int.reduceToNat, Int.reduceLT, Int.reduceLE, Int.reduceAdd, Int.reduceSub, Int.reduceMul, Int.reduceEq, Int.reduceNeg, reduceCtorEq, resV, resAll, ARes.ev, LV.flat, ite_true, ite_false, exists_eq_left', exists_eq_left, keyOf, implies_true, fillC, capOf]
    refine callR_of (d_stair5E hd4.1 (by omega)) ?_
    rintro _ N8 ⟨⟨X, Y, Z, es, u, rfl, hu, hul, hel⟩, hd8⟩
    have hP8 := hd8.pre hP4 (by omega)
    simp (disch := omega) only [↓SXd, SXu, slBounds, ↓sop, ↓aop, ↓reduceIte, LV.cells, AOp.dst, LV.I, LV.B, LV.U, LV.S, LV.nil, Nat.reduceEqDiff, Nat.reduceAdd, Nat.reduceMul, Nat.reduceSub, Nat.reduceLeDiff, Nat.reduceBEq, Nat.reduceDiv, Nat.reduceMod, Int.reduceToNat, Int.reduceLT, Int.reduceLE, Int.reduceAdd, Int.reduceSub, Int.reduceMul, Int.reduceEq, Int.reduceNeg, reduceCtorEq, resV, resAll, ARes.ev, LV.flat, ite_true, ite_false, exists_eq_left', exists_eq_left, keyOf, implies_true, fillC, capOf]
    refine memK_box (hd8.live g2 (by omega)) (by simp) fun N9 i1 i2 i3 => ?_
    simp (disch := omega) only [i2.cells, ↓SXd, SXu, slBounds, ↓sop, ↓aop, ↓reduceIte, LV.cells, AOp.dst, LV.I, LV.B, LV.U, LV.S, LV.nil, Nat.reduceEqDiff, Nat.reduceAdd, Nat.reduceMul, Nat.reduceSub, Nat.reduceLeDiff, Nat.reduceBEq, Nat.reduceDiv, Nat.reduceMod, Int.reduceToNat, Int.reduceLT, Int.reduceLE, Int.reduceAdd, Int.reduceSub, Int.reduceMul, Int.reduceEq, Int.reduceNeg, reduceCtorEq, resV, resAll, ARes.ev, LV.flat, ite_true, ite_false, exists_eq_left', exists_eq_left, keyOf, implies_true, fillC, capOf]
    exact fin hP8 hu (by omega) (by omega) i1 i3
  simp (disch := omega) only [g5.cells, ↓SXd, SXu, slBounds, ↓sop, ↓aop, ↓reduceIte, LV.cells, AOp.dst, LV.I, LV.B, LV.U, LV.S, LV.nil, Nat.reduceEqDiff, Nat.reduceAdd, Nat.reduceMul, Nat.reduceSub, Nat.reduceLeDiff, Nat.reduceBEq, Nat.reduceDiv, Nat.reduceMod, Int.reduceToNat, Int.reduceLT, Int.reduceLE, Int.reduceAdd, Int.reduceSub, Int.reduceMul, Int.reduceEq, Int.reduceNeg, reduceCtorEq, resV, resAll, ARes.ev, LV.flat, ite_true, ite_false, exists_eq_left', exists_eq_left, keyOf, implies_true, fillC, capOf]
  refine callR_of (h_sLeastStair gu (by omega)) ?_
  rintro _ N5 ⟨hr, hp5⟩
  have hl5 := hp5.1
  have hP5 := hP4.trans hp5
  rcases hr with ⟨_, v, rfl, hv, hvl⟩ | ⟨hno, _⟩
  rotate_left
  · exact absurd hH hno
  have hq2 : HeapOK n n n (leastOf n n n cs).cs := pick_ok hS _
  rw [show (leastOf n n n cs).x = n from rfl, show (leastOf n n n cs).y = n from rfl, show (leastOf n n n cs).z = n from rfl]
  generalize (leastOf n n n cs).cs = ls at hv hq2 ⊢
  have hvl2 := hv.lt
  simp (disch := omega) only [↓SXd, SXu, slBounds, ↓sop, ↓aop, ↓reduceIte, LV.cells, AOp.dst, LV.I, LV.B, LV.U, LV.S, LV.nil, Nat.reduceEqDiff, Nat.reduceAdd, Nat.reduceMul, Nat.reduceSub, Nat.reduceLeDiff, Nat.reduceBEq, Nat.reduceDiv, Nat.reduceMod, Int.reduceToNat, Int.reduceLT, Int.reduceLE, Int.reduceAdd, Int.reduceSub, Int.reduceMul, Int.reduceEq, Int.reduceNeg, reduceCtorEq, resV, resAll, ARes.ev, LV.flat, ite_true, ite_false, exists_eq_left', exists_eq_left, keyOf, implies_true, fillC, capOf]
  refine memK_box (g5.pre hp5) (by simp) fun N6 j1 j2 j3 => ?_
  have h6v := live_step hv (hv.ne_esz (g5.pre hp5) (by decide)) j3
  have h62 := live_step (g2.pre hp5) (by omega) j3
  have hP6 := pre_step hP5 (by omega) (j := 0) j1 j3
  have hex := h_l5Exchanged (i := 2) (M := N6) h6v hq2 (by omega)
  simp (disch := omega) only [j2.cells, ↓SXd, SXu, slBounds, ↓sop, ↓aop, ↓reduceIte, LV.cells, AOp.dst, LV.I, LV.B, LV.U, LV.S, LV.nil, Nat.reduceEqDiff, Nat.reduceAdd, Nat.reduceMul, Nat.reduceSub, Nat.reduceLeDiff, Nat.reduceBEq, Nat.reduceDiv, Nat.reduceMod, Int.reduceToNat, Int.reduceLT, Int.reduceLE, Int.reduceAdd, Int.reduceSub, Int.reduceMul, Int.reduceEq, Int.reduceNeg, reduceCtorEq, resV, resAll, ARes.ev, LV.flat, ite_true, ite_false, exists_eq_left', exists_eq_left, keyOf, implies_true, fillC, capOf]
  refine callR_of hex ?_
  rintro _ N7 ⟨⟨v7, rfl, hv7, hv7l⟩, hp7⟩
  have hin7 : ∀ c ∈ (exHp (ordAt 2) ⟨n, n, n, ls⟩).cs, c.inBox n n n := fun c hc => (exHp_ok (g := ⟨n, n, n, ls⟩) (i := 2) (by omega) hq2).mem hc
  have hl7 := (exHp_ok (g := ⟨n, n, n, ls⟩) (i := 2) (by omega) hq2).len
  generalize (exHp (ordAt 2) ⟨n, n, n, ls⟩).cs = es at hv7 hin7 hl7 ⊢
  generalize (exHp (ordAt 2) ⟨n, n, n, ls⟩).x = ex
  generalize (exHp (ordAt 2) ⟨n, n, n, ls⟩).y = ey
  generalize (exHp (ordAt 2) ⟨n, n, n, ls⟩).z = ez
  have hP7 := hP6.trans hp7
  have hl77 := hp7.1
  simp (disch := omega) only [splice, ↓SXd, SXu, slBounds, ↓sop, ↓aop, ↓reduceIte, LV.cells, AOp.dst, LV.I, LV.B, LV.U, LV.S, LV.nil, Nat.reduceEqDiff, Nat.reduceAdd, Nat.reduceMul, Nat.reduceSub, Nat.reduceLeDiff, Nat.reduceBEq, Nat.reduceDiv, Nat.reduceMod, Int.reduceToNat, Int.reduceLT, Int.reduceLE, Int.reduceAdd, Int.reduceSub, Int.reduceMul, Int.reduceEq, Int.reduceNeg, reduceCtorEq, resV, resAll, ARes.ev, LV.flat, ite_true, ite_false, exists_eq_left', exists_eq_left, keyOf, implies_true, fillC, capOf]
  refine ev_loop (fun m fr N => ∃ (i w : Nat) (ds : List Cell), i + m = es.length ∧ HeapOK n n n ds ∧ Pre M N ∧ Live N M.length (.row [.I 0, .I 0, .I 0, .nil] true 0) ∧ Live N m5 (.row [.I n, .I n, .I n, .ref w 0 ds.length] true 0) ∧ Live N w (.row (triL ds) true 3) ∧ M.length < w ∧ Live N N7.length (.row [.I ex, .I ey, .I ez, .ref v7 0 es.length] true 0) ∧ Live N v7 (.row (triL es) true 3) ∧
    fr 2 = .ptr M.length 0 ∧ fr 5 = .ptr m5 0 ∧ fr 6 = .ptr N7.length 0 ∧ fr 7 = .I i) es.length
    ⟨0, v, ls, by omega, hq2, hP7.trans (Pre.app _ _), (h62.pre hp7).app, (j2.pre hp7).app, (h6v.pre hp7).app, by omega, Live.new, hv7.app, rfl, rfl, rfl, rfl⟩ ?_
  rintro m fr N ⟨i, w, ds, hi, hHd, hP, b2, b5, bw, hw, b6, b7, f2, f5, f6, f7⟩
  have hdl := hHd.len
  have hPl := hP.1
  have hb5 := b5.lt
  simp (disch := omega) only [f2, f5, f6, f7, b6.cell, ↓SXd, SXu, slBounds, ↓sop, ↓aop, ↓reduceIte, LV.cells, AOp.dst, LV.I, LV.B, LV.U, LV.S, LV.nil, Nat.reduceEqDiff, Nat.reduceAdd, Nat.reduceMul, Nat.reduceSub, Nat.reduceLeDiff, Nat.reduceBEq, Nat.reduceDiv, Nat.reduceMod, Int.reduceToNat, Int.reduceLT, Int.reduceLE, Int.reduceAdd, Int.reduceSub, Int.reduceMul, Int.reduceEq, Int.reduceNeg, reduceCtorEq, resV, resAll, ARes.ev, LV.flat, ite_true, ite_false, exists_eq_left', exists_eq_left, keyOf, implies_true, fillC, capOf]
  refine condC_dec (fun hlt => ?_) (fun hlt => ?_)
  rotate_left
  · simp (disch := omega) only [f2, f5, f6, f7, b5.cells, ↓SXd, SXu, slBounds, ↓sop, ↓aop, ↓reduceIte, LV.cells, AOp.dst, LV.I, LV.B, LV.U, LV.S, LV.nil, Nat.reduceEqDiff, Nat.reduceAdd, Nat.reduceMul, Nat.reduceSub, Nat.reduceLeDiff, Nat.reduceBEq, Nat.reduceDiv, Nat.reduceMod, Int.reduceToNat, Int.reduceLT, Int.reduceLE, Int.reduceAdd, Int.reduceSub, Int.reduceMul, Int.reduceEq, Int.reduceNeg, reduceCtorEq, resV, resAll, ARes.ev, LV.flat, ite_true, ite_false, exists_eq_left', exists_eq_left, keyOf, implies_true, fillC, capOf]
    refine memK_box b2 (by simp) fun N9 i1 i2 i3 => ?_
    simp (disch := omega) only [i2.cells, f2, f5, f6, f7, ↓SXd, SXu, slBounds, ↓sop, ↓aop, ↓reduceIte, LV.cells, AOp.dst, LV.I, LV.B, LV.U, LV.S, LV.nil, Nat.reduceEqDiff, Nat.reduceAdd, Nat.reduceMul, Nat.reduceSub, Nat.reduceLeDiff, Nat.reduceBEq, Nat.reduceDiv, Nat.reduceMod, Int.reduceToNat, Int.reduceLT, Int.reduceLE, Int.reduceAdd, Int.reduceSub, Int.reduceMul, Int.reduceEq, Int.reduceNeg, reduceCtorEq, resV, resAll, ARes.ev, LV.flat, ite_true, ite_false, exists_eq_left', exists_eq_left, keyOf, implies_true, fillC, capOf]
    exact fin hP bw (by omega) (by omega) i1 i3
  have hil : i < es.length := by omega
  have hci := b7.tri0 hil
  have hcin := hin7 _ (getD_mem' (d := default) hil)
  generalize es.getD i default = c at hci hcin
  simp (disch := omega) only [f2, f5, f6, f7, b5.cells, b6.cell, hci, Cell.row, ↓SXd, SXu, slBounds, ↓sop, ↓aop, ↓reduceIte, LV.cells, AOp.dst, LV.I, LV.B, LV.U, LV.S, LV.nil, Nat.reduceEqDiff, Nat.reduceAdd, Nat.reduceMul, Nat.reduceSub, Nat.reduceLeDiff, Nat.reduceBEq, Nat.reduceDiv, Nat.reduceMod, Int.reduceToNat, Int.reduceLT, Int.reduceLE, Int.reduceAdd, Int.reduceSub, Int.reduceMul, Int.reduceEq, Int.reduceNeg, reduceCtorEq, resV, resAll, ARes.ev, LV.flat, ite_true, ite_false, exists_eq_left', exists_eq_left, keyOf, implies_true, fillC, capOf]
  refine callH_of (h_l2With (c := c) bw hHd hcin) ?_
  intro w2 N8 hw2 hp8 hb8
  have hl8 := hp8.1
  have hb6 := b6.lt
  have hb7 := b7.lt
  simp (disch := omega) only [f2, f5, f6, f7, ↓SXd, SXu, slBounds, ↓sop, ↓aop, ↓reduceIte, LV.cells, AOp.dst, LV.I, LV.B, LV.U, LV.S, LV.nil, Nat.reduceEqDiff, Nat.reduceAdd, Nat.reduceMul, Nat.reduceSub, Nat.reduceLeDiff, Nat.reduceBEq, Nat.reduceDiv, Nat.reduceMod, Int.reduceToNat, Int.reduceLT, Int.reduceLE, Int.reduceAdd, Int.reduceSub, Int.reduceMul, Int.reduceEq, Int.reduceNeg, reduceCtorEq, resV, resAll, ARes.ev, LV.flat, ite_true, ite_false, exists_eq_left', exists_eq_left, keyOf, implies_true, fillC, capOf]
  refine memK_box (b5.pre hp8) (by simp) fun N9 k1 k2 k3 => ?_
  simp (disch := omega) only [f2, f5, f6, f7, ↓SXd, SXu, slBounds, ↓sop, ↓aop, ↓reduceIte, LV.cells, AOp.dst, LV.I, LV.B, LV.U, LV.S, LV.nil, Nat.reduceEqDiff, Nat.reduceAdd, Nat.reduceMul, Nat.reduceSub, Nat.reduceLeDiff, Nat.reduceBEq, Nat.reduceDiv, Nat.reduceMod, Int.reduceToNat, Int.reduceLT, Int.reduceLE, Int.reduceAdd, Int.reduceSub, Int.reduceMul, Int.reduceEq, Int.reduceNeg, reduceCtorEq, resV, resAll, ARes.ev, LV.flat, ite_true, ite_false, exists_eq_left', exists_eq_left, keyOf, implies_true, fillC, capOf]
  exact ⟨m - 1, by omega, i + 1, w2, _, by omega, pick_ok hS _, pre_step (hP.trans hp8) (by omega) (j := 0) k1 k3, live_step (b2.pre hp8) (by omega) k3, k2, live_step hb8 (by omega) k3, by omega, live_step (b6.pre hp8) (by omega) k3, live_step (b7.pre hp8) (b7.ne_esz b5 (by decide)) k3, f2, f5, f6, eqI (natI _)⟩
end
end Go.Ab

/- The abstract code of some functions (written by a program of mine from the translation, by way of prepF). -/
namespace Go.Ab.C
open Go.Ab
def laws_vHeap : AFn :=
 ⟨2, 31, [.tmp 4],
 .seq (.ops [(none, .box 2 (.t 0)),
 (none, .box 3 (.t 1)),
 (none, .mv 4 (.c (.B false)))])
 (.seq (.ops [(none, .fieldAddr 5 (.t 2) 0),
 (none, .load1 6 (.t 5)),
 (none, .fieldAddr 7 (.t 3) 0),
 (none, .load1 8 (.t 7)),
 (none, .bin 9 .eql (.t 6) (.t 8)),
 (none, .mv 10 (.t 9)),
 (some (10, true), .fieldAddr 11 (.t 2) 1),
 (some (10, true), .load1 12 (.t 11)),
 (some (10, true), .fieldAddr 13 (.t 3) 1),
 (some (10, true), .load1 14 (.t 13)),
 (some (10, true), .bin 15 .eql (.t 12) (.t 14)),
 (none, .pick 16 (.t 10) (.t 15) (.c (.B false))),
 (none, .mv 17 (.t 16)),
 (some (17, true), .fieldAddr 18 (.t 2) 2),
 (some (17, true), .load1 19 (.t 18)),
 (some (17, true), .fieldAddr 20 (.t 3) 2),
 (some (17, true), .load1 21 (.t 20)),
 (some (17, true), .bin 22 .eql (.t 19) (.t 21)),
 (none, .pick 23 (.t 17) (.t 22) (.c (.B false))),
 (none, .mv 24 (.t 23)),
 (some (24, true), .fieldAddr 25 (.t 2) 3),
 (some (24, true), .load1 26 (.t 25)),
 (some (24, true), .fieldAddr 27 (.t 3) 3),
 (some (24, true), .load1 28 (.t 27)),
 (some (24, true), .call (some 29) F.laws_vCells [(.t 26), (.t 28)]),
 (none, .pick 30 (.t 24) (.t 29) (.c (.B false))),
 (none, .mv 4 (.t 30))])
 (.ret))⟩
end Go.Ab.C

/- That the program has this code. -/
namespace Go.Ab.K
open Go Go.Ab
theorem laws_vHeap : prepF Go.Proofs.Try.prog F.laws_vHeap = some C.laws_vHeap := by kernel_rfl
end Go.Ab.K

/- Contracts: the law of shadows' helpers. -/
namespace Go.Ab
open Go
set_option linter.unusedSimpArgs false
set_option linter.unusedVariables false
set_option maxRecDepth 20000

theorem k_vHeap {g h : Hp} {v v' : LV} {M : Mem} (hg : CellsV M v g.cs) (hh : CellsV M v' h.cs) (hn : g.cs.length ≤ 1000000000) (hn' : h.cs.length ≤ 1000000000) :
    CallsTo PG F.laws_vHeap [.agg [.I g.x, .I g.y, .I g.z, v], .agg [.I h.x, .I h.y, .I h.z, v']] M (.B (decide (g.dims = h.dims ∧ g.cs = h.cs))) M := by
  refine calls_run K.laws_vHeap rfl ?_
  by_cases h1 : g.x = h.x
  rotate_left
  · rw [decide_eq_false (fun e => h1 (congrArg Cell.a e.1))]
    simp (disch := omega) only [C.laws_vHeap, h1, ↓SXd, SXu, slBounds, ↓sop, ↓aop, ↓reduceIte, LV.cells, AOp.dst, LV.I, LV.B, LV.U, LV.S, LV.nil, Nat.reduceEqDiff, Nat.reduceAdd, Nat.reduceMul, Nat.reduceSub, Nat.reduceLeDiff, Nat.reduceBEq, Nat.reduceDiv, Nat.reduceMod, Int.reduceToNat, Int.reduceLT, Int.reduceLE, Int.reduceAdd, Int.reduceSub, Int.reduceMul, Int.reduceEq, Int.reduceNeg, reduceCtorEq, resV, resAll, ARes.ev, LV.flat, ite_true, ite_false, exists_eq_left', exists_eq_left, keyOf, implies_true, fillC, capOf]
    exact cmp_drop rfl
  by_cases h2 : g.y = h.y
  rotate_left
  · rw [decide_eq_false (fun e => h2 (congrArg Cell.b e.1))]
    simp (disch := omega) only [C.laws_vHeap, h1, h2, ↓SXd, SXu, slBounds, ↓sop, ↓aop, ↓reduceIte, LV.cells, AOp.dst, LV.I, LV.B, LV.U, LV.S, LV.nil, Nat.reduceEqDiff, Nat.reduceAdd, Nat.reduceMul, Nat.reduceSub, Nat.reduceLeDiff, Nat.reduceBEq, Nat.reduceDiv, Nat.reduceMod, Int.reduceToNat, Int.reduceLT, Int.reduceLE, Int.reduceAdd, Int.reduceSub, Int.reduceMul, Int.reduceEq, Int.reduceNeg, reduceCtorEq, resV, resAll, ARes.ev, LV.flat, ite_true, ite_false, exists_eq_left', exists_eq_left, keyOf, implies_true, fillC, capOf]
    exact cmp_drop rfl
  by_cases h3 : g.z = h.z
  rotate_left
  · rw [decide_eq_false (fun e => h3 (congrArg Cell.c e.1))]
    simp (disch := omega) only [C.laws_vHeap, h1, h2, h3, ↓SXd, SXu, slBounds, ↓sop, ↓aop, ↓reduceIte, LV.cells, AOp.dst, LV.I, LV.B, LV.U, LV.S, LV.nil, Nat.reduceEqDiff, Nat.reduceAdd, Nat.reduceMul, Nat.reduceSub, Nat.reduceLeDiff, Nat.reduceBEq, Nat.reduceDiv, Nat.reduceMod, Int.reduceToNat, Int.reduceLT, Int.reduceLE, Int.reduceAdd, Int.reduceSub, Int.reduceMul, Int.reduceEq, Int.reduceNeg, reduceCtorEq, resV, resAll, ARes.ev, LV.flat, ite_true, ite_false, exists_eq_left', exists_eq_left, keyOf, implies_true, fillC, capOf]
    exact cmp_drop rfl
  have hd : g.dims = h.dims := by unfold Hp.dims; rw [h1, h2, h3]
  simp (disch := omega) only [C.laws_vHeap, h1, h2, h3, ↓SXd, SXu, slBounds, ↓sop, ↓aop, ↓reduceIte, LV.cells, AOp.dst, LV.I, LV.B, LV.U, LV.S, LV.nil, Nat.reduceEqDiff, Nat.reduceAdd, Nat.reduceMul, Nat.reduceSub, Nat.reduceLeDiff, Nat.reduceBEq, Nat.reduceDiv, Nat.reduceMod, Int.reduceToNat, Int.reduceLT, Int.reduceLE, Int.reduceAdd, Int.reduceSub, Int.reduceMul, Int.reduceEq, Int.reduceNeg, reduceCtorEq, resV, resAll, ARes.ev, LV.flat, ite_true, ite_false, exists_eq_left', exists_eq_left, keyOf, implies_true, fillC, capOf]
  refine callK_of (k_vCells (hg.pre (Pre.app _ _)) (hh.pre (Pre.app _ _)) hn hn') ?_
  simp (disch := omega) only [↓SXd, SXu, slBounds, ↓sop, ↓aop, ↓reduceIte, LV.cells, AOp.dst, LV.I, LV.B, LV.U, LV.S, LV.nil, Nat.reduceEqDiff, Nat.reduceAdd, Nat.reduceMul, Nat.reduceSub, Nat.reduceLeDiff, Nat.reduceBEq, Nat.reduceDiv, Nat.reduceMod, Int.reduceToNat, Int.reduceLT, Int.reduceLE, Int.reduceAdd, Int.reduceSub, Int.reduceMul, Int.reduceEq, Int.reduceNeg, reduceCtorEq, resV, resAll, ARes.ev, LV.flat, ite_true, ite_false, exists_eq_left', exists_eq_left, keyOf, implies_true, fillC, capOf]
  rw [show decide (g.dims = h.dims ∧ g.cs = h.cs) = decide (g.cs = h.cs) from decide_eq_decide.2 ⟨fun e => e.2, fun e => ⟨hd, e⟩⟩]
  exact cmp_drop rfl
end Go.Ab

/- The abstract code of some functions (written by a program of mine from the translation, by way of prepF). -/
namespace Go.Ab.C
open Go.Ab
def laws_vCut : AFn :=
 ⟨2, 20, [.tmp 4],
 .seq (.ops [(none, .mv 4 (.c .nil))])
 (.seq (.seq (.ops [(none, .mv 5 (.t 1)),
 (none, .mv 6 (.t 0)),
 (none, .len 7 (.t 6)),
 (none, .bin 8 .gtr (.t 5) (.t 7))])
 (.cond (.t 8) (.ops [(none, .mv 9 (.t 0)),
 (none, .len 10 (.t 9)),
 (none, .mv 1 (.t 10))])
 (.skip)))
 (.seq (.ops [(none, .buildSl 11 0 1 [] []),
 (none, .mv 12 (.t 0)),
 (none, .mv 13 (.t 1)),
 (none, .slS 14 1 (.t 12) (some (.t 13)) none),
 (none, .append 15 1 1 (.t 11) (.t 14)),
 (none, .mv 16 (.t 1)),
 (none, .conv 17 .u8 (.t 16)),
 (none, .buildSl 18 1 1 [(.val (.int .u8 0))] [(0, 1, (.t 17))]),
 (none, .append 19 1 1 (.t 15) (.t 18)),
 (none, .mv 4 (.t 19))])
 (.ret)))⟩
end Go.Ab.C

/- That the program has this code. -/
namespace Go.Ab.K
open Go Go.Ab
theorem laws_vCut : prepF Go.Proofs.Try.prog F.laws_vCut = some C.laws_vCut := by kernel_rfl
end Go.Ab.K

/- Contracts: what the law of pieces draws. -/
namespace Go.Ab
open Go
set_option linter.unusedSimpArgs false
set_option linter.unusedVariables false
set_option maxRecDepth 20000

theorem byL_append (l m : List Nat) : byL (l ++ m) = byL l ++ byL m := by simp [byL]
theorem Bytes.drop {M : Mem} {t o n : Nat} {bs : List Nat} (h : Bytes M t o bs) (hn : n ≤ bs.length) : Bytes M t (o + n) (bs.drop n) := by
  obtain ⟨row, h1, h2, h3⟩ := h
  refine ⟨row, h1, ?_, ?_⟩
  · rw [byL_len] at h2 ⊢
    rw [List.length_drop]; omega
  · rw [byL_len] at h3 ⊢
    rw [List.length_drop]
    have e : byL (bs.drop n) = (byL bs).drop n := by simp [byL, List.map_drop]
    rw [e, ← h3, List.drop_take, List.drop_drop]
/-- Other bytes, that are new. -/
def NewBytes (M : Mem) (n : Nat) (v : LV) (N : Mem) : Prop := ∃ (u : Nat) (cs : List Nat), v = .ref u 0 cs.length ∧ Bytes N u 0 cs ∧ (∀ b ∈ cs, b ≤ 255) ∧ cs.length ≤ n + 1 ∧ Pre M N
theorem u8_small {n : Nat} (h : n ≤ 255) : IntKind.u8.wrap (n : Int) = (n : Int) := by
  unfold IntKind.wrap
  simp only [IntKind.bits, IntKind.signed, Bool.false_and, Bool.false_eq_true, if_false]
  omega
theorem k_vCut {t : Nat} {bs : List Nat} {n : Nat} {M : Mem} (h : Bytes M t 0 bs) (he : getEsz M t = some 1) (h255 : ∀ b ∈ bs, b ≤ 255) (hl : bs.length ≤ 1000000) (hn : n ≤ 100) : CallsR PG F.laws_vCut [.ref t 0 bs.length, .I n] M (NewBytes M bs.length) := by
  have ht := h.lt
  refine callsR_run K.laws_vCut rfl ?_
  obtain ⟨m, hm1, hm2, hm3⟩ : ∃ m : Nat, m ≤ bs.length ∧ m ≤ 100 ∧ ((n : Int) > (bs.length : Nat) → m = bs.length) ∧ (¬ (n : Int) > (bs.length : Nat) → m = n) := by
    by_cases hgt : (n : Int) > (bs.length : Nat)
    · exact ⟨bs.length, by omega, by omega, fun _ => rfl, fun h => absurd hgt h⟩
    · exact ⟨n, by omega, by omega, fun h => absurd h hgt, fun _ => rfl⟩
  have hd := h.drop hm1
  rw [Nat.zero_add] at hd
  have hdl : (bs.drop m).length = bs.length - m := List.length_drop
  have hd255 : ∀ b ∈ bs.drop m, b ≤ 255 := fun b hb => h255 b (List.mem_of_mem_drop hb)
  generalize hds : bs.drop m = ds at hd hdl hd255
  have fin : ∀ {fr : Fr} {P : LV → Mem → Prop}, True := trivial
  have rest : ∀ {A : LV → Mem → Prop}, (∀ (u : Nat) (M' : Mem), M.length + 1 ≤ M'.length → Live M' u (.row (byL ds) true 1) → M.length ≤ u → Pre M M' → A (.ref u 0 ds.length) M') → appendK 1 1 (.ref M.length 0 0) (.ref t m (bs.length - m)) (M ++ [some (.row [] true 1)]) A := fun {A} hA => by
    refine appendK_list (acc := []) (new := byL ds) (n := 0) (n2 := bs.length - m) Live.new rfl (Has.app hd) (by rw [byL_len]; omega) (by omega) (by omega) fun u M' h1 h2 h3 h4 => ?_
    rw [List.length_append, List.length_singleton] at h1 h3 h4
    have e : 0 + (bs.length - m) = ds.length := by omega
    rw [e]
    exact hA u M' h1 h2 (by omega) ⟨by omega, fun q hq => by rw [h4 q (by omega) (by omega)]; exact List.getElem?_append_left hq⟩
  have hmu := u8_small (n := m) (by omega)
  have last : ∀ {u : Nat} {M' : Mem} {A : LV → Mem → Prop}, Live M' u (.row (byL ds) true 1) → M.length ≤ u → Pre M M' → (∀ v N, NewBytes M bs.length v N → A v N) → appendK 1 1 (.ref u 0 ds.length) (.ref M'.length 0 1) (M' ++ [some (.row [.val (.int .u8 (m : Int))] true 1)]) A := fun {u M' A} a1 a2 a3 hA => by
    have hul := a1.lt
    refine appendK_list (acc := byL ds) (new := [.val (.int .u8 (m : Int))]) (n := ds.length) (n2 := 1) a1.app (by rw [byL_len]; omega) (Live.new (b := .row [.val (.int .u8 (m : Int))] true 1)).has rfl (by omega) (by omega) fun u2 N h1 h2 h3 h4 => ?_
    rw [List.length_append, List.length_singleton] at h1 h3 h4
    have e : byL ds ++ [LV.val (.int .u8 (m : Int))] = byL (ds ++ [m]) := by rw [byL_append]; rfl
    rw [e] at h2
    have hlen : ds.length + 1 = (ds ++ [m]).length := by simp
    rw [hlen]
    refine hA _ _ ⟨u2, ds ++ [m], rfl, h2.has, fun b hb => ?_, by simp; omega, ?_⟩
    · rcases List.mem_append.1 hb with hb | hb
      · exact hd255 b hb
      · simp at hb; omega
    · have := a3.1
      exact ⟨by omega, fun q hq => by rw [h4 q (by omega) (by omega), List.getElem?_append_left (by omega)]; exact a3.2 q hq⟩
  by_cases hgt : (n : Int) > (bs.length : Nat)
  · have hmn := hm3.1 hgt
    rw [← hmn] at hgt ⊢
    rw [← hmn] at rest
    simp (disch := omega) only [C.laws_vCut, hgt, (getEsz_app ht), he, if_true, ite_true, ↓SXd, SXu, slBounds, ↓sop, ↓aop, ↓reduceIte, LV.cells, AOp.dst, LV.I, LV.B, LV.U, LV.S, LV.nil, Nat.reduceEqDiff, Nat.reduceAdd, Nat.reduceMul, Nat.reduceSub, Nat.reduceLeDiff, Nat.reduceBEq, Nat.reduceDiv, Nat.reduceMod, Int.reduceToNat, Int.reduceLT, Int.reduceLE, Int.reduceAdd, Int.reduceSub, Int.reduceMul, Int.reduceEq, Int.reduceNeg, reduceCtorEq, resV, resAll, ARes.ev, LV.flat, ite_true, ite_false, exists_eq_left', exists_eq_left, keyOf, implies_true, fillC, capOf]
    refine rest fun u M' a0 a1 a2 a3 => ?_
    simp (disch := omega) only [hmu, ↓SXd, SXu, slBounds, ↓sop, ↓aop, ↓reduceIte, LV.cells, AOp.dst, LV.I, LV.B, LV.U, LV.S, LV.nil, Nat.reduceEqDiff, Nat.reduceAdd, Nat.reduceMul, Nat.reduceSub, Nat.reduceLeDiff, Nat.reduceBEq, Nat.reduceDiv, Nat.reduceMod, Int.reduceToNat, Int.reduceLT, Int.reduceLE, Int.reduceAdd, Int.reduceSub, Int.reduceMul, Int.reduceEq, Int.reduceNeg, reduceCtorEq, resV, resAll, ARes.ev, LV.flat, ite_true, ite_false, exists_eq_left', exists_eq_left, keyOf, implies_true, fillC, capOf]
    refine last a1 a2 a3 ?_
    rintro _ N ⟨u2, es, rfl, k1, k2, k3, k4⟩
    simp (disch := omega) only [↓SXd, SXu, slBounds, ↓sop, ↓aop, ↓reduceIte, LV.cells, AOp.dst, LV.I, LV.B, LV.U, LV.S, LV.nil, Nat.reduceEqDiff, Nat.reduceAdd, Nat.reduceMul, Nat.reduceSub, Nat.reduceLeDiff, Nat.reduceBEq, Nat.reduceDiv, Nat.reduceMod, Int.reduceToNat, Int.reduceLT, Int.reduceLE, Int.reduceAdd, Int.reduceSub, Int.reduceMul, Int.reduceEq, Int.reduceNeg, reduceCtorEq, resV, resAll, ARes.ev, LV.flat, ite_true, ite_false, exists_eq_left', exists_eq_left, keyOf, implies_true, fillC, capOf]
    exact ⟨u2, es, rfl, k1, k2, by omega, k4⟩
  · have hmn := hm3.2 hgt
    rw [← hmn] at hgt ⊢
    simp (disch := omega) only [C.laws_vCut, hgt, (getEsz_app ht), he, if_true, ite_true, ↓SXd, SXu, slBounds, ↓sop, ↓aop, ↓reduceIte, LV.cells, AOp.dst, LV.I, LV.B, LV.U, LV.S, LV.nil, Nat.reduceEqDiff, Nat.reduceAdd, Nat.reduceMul, Nat.reduceSub, Nat.reduceLeDiff, Nat.reduceBEq, Nat.reduceDiv, Nat.reduceMod, Int.reduceToNat, Int.reduceLT, Int.reduceLE, Int.reduceAdd, Int.reduceSub, Int.reduceMul, Int.reduceEq, Int.reduceNeg, reduceCtorEq, resV, resAll, ARes.ev, LV.flat, ite_true, ite_false, exists_eq_left', exists_eq_left, keyOf, implies_true, fillC, capOf]
    refine rest fun u M' a0 a1 a2 a3 => ?_
    simp (disch := omega) only [hmu, ↓SXd, SXu, slBounds, ↓sop, ↓aop, ↓reduceIte, LV.cells, AOp.dst, LV.I, LV.B, LV.U, LV.S, LV.nil, Nat.reduceEqDiff, Nat.reduceAdd, Nat.reduceMul, Nat.reduceSub, Nat.reduceLeDiff, Nat.reduceBEq, Nat.reduceDiv, Nat.reduceMod, Int.reduceToNat, Int.reduceLT, Int.reduceLE, Int.reduceAdd, Int.reduceSub, Int.reduceMul, Int.reduceEq, Int.reduceNeg, reduceCtorEq, resV, resAll, ARes.ev, LV.flat, ite_true, ite_false, exists_eq_left', exists_eq_left, keyOf, implies_true, fillC, capOf]
    refine last a1 a2 a3 ?_
    rintro _ N ⟨u2, es, rfl, k1, k2, k3, k4⟩
    simp (disch := omega) only [↓SXd, SXu, slBounds, ↓sop, ↓aop, ↓reduceIte, LV.cells, AOp.dst, LV.I, LV.B, LV.U, LV.S, LV.nil, Nat.reduceEqDiff, Nat.reduceAdd, Nat.reduceMul, Nat.reduceSub, Nat.reduceLeDiff, Nat.reduceBEq, Nat.reduceDiv, Nat.reduceMod, Int.reduceToNat, Int.reduceLT, Int.reduceLE, Int.reduceAdd, Int.reduceSub, Int.reduceMul, Int.reduceEq, Int.reduceNeg, reduceCtorEq, resV, resAll, ARes.ev, LV.flat, ite_true, ite_false, exists_eq_left', exists_eq_left, keyOf, implies_true, fillC, capOf]
    exact ⟨u2, es, rfl, k1, k2, by omega, k4⟩
def sidesL : List Cell := [⟨1, 1, 2⟩, ⟨2, 1, 1⟩, ⟨1, 2, 1⟩, ⟨1, 1, 1⟩, ⟨1, 1, 3⟩, ⟨2, 2, 1⟩, ⟨3, 1, 1⟩]
/-- A list of cells, all new. -/
def CellsN (M : Mem) (v : LV) (N : Mem) : Prop := ∃ (l : List Cell) (u : Nat), v = .ref u 0 l.length ∧ Live N u (.row (triL l) true 3) ∧ M.length ≤ u ∧ l.length ≤ 70
section
variable {t o : Nat} {bs : List Nat} {M : Mem} (hB : Bytes M t o bs) (h255 : ∀ b ∈ bs, b ≤ 255) (hl : bs.length ≤ 1000000000)
include hB h255 hl
end
end Go.Ab

/- The law of orders of staircases. -/
namespace Go.Ab
open Go
set_option linter.unusedSimpArgs false
set_option linter.unusedVariables false
set_option maxRecDepth 20000

theorem esz_prek {M N : Mem} {t : Nat} (h : getEsz M t = some 1) (ht : t < M.length) (hp : Pre M N) : getEsz N t = some 1 := by
  unfold getEsz at *
  rw [hp.2 t ht]; exact h
theorem ors_facts (x y z : Int) (cs : List Cell) : ∃ (n : Nat) (b : Bool), orsN x y z cs = n ∧ orsB x y z cs = b ∧ (b = true → (HeapOK x y z cs ∧ StairP x y z fun c => decide (c ∈ cs)) ∧ cs.length ≤ 9 ∧ n = orN x y z cs.length fun c => decide (c ∈ cs)) := by
  refine ⟨_, _, rfl, rfl, fun hb => ?_⟩
  have h0 := hb
  unfold orsB at hb
  rw [Bool.and_eq_true, strB_iff, decide_eq_true_iff] at hb
  exact ⟨hb.1, hb.2, if_pos h0⟩
theorem lin_facts (x y z : Int) (cs : List Cell) : ∃ (n : Nat) (b : Bool), linV x y z cs = n ∧ strB x y z cs = b ∧ (b = true → (HeapOK x y z cs ∧ StairP x y z fun c => decide (c ∈ cs)) ∧ n = linesN ⟨x, y, z, cs⟩) := by
  refine ⟨_, _, rfl, rfl, fun hb => ?_⟩
  exact ⟨strB_iff.1 hb, if_pos hb⟩
theorem ex_stair {x y z : Int} {cs : List Cell} (hV : HeapOK x y z cs ∧ StairP x y z fun c => decide (c ∈ cs)) : HeapOK (exHp (ordAt 4) ⟨x, y, z, cs⟩).x (exHp (ordAt 4) ⟨x, y, z, cs⟩).y (exHp (ordAt 4) ⟨x, y, z, cs⟩).z (exHp (ordAt 4) ⟨x, y, z, cs⟩).cs ∧ StairP (exHp (ordAt 4) ⟨x, y, z, cs⟩).x (exHp (ordAt 4) ⟨x, y, z, cs⟩).y (exHp (ordAt 4) ⟨x, y, z, cs⟩).z fun c => decide (c ∈ (exHp (ordAt 4) ⟨x, y, z, cs⟩).cs) := by
  refine ⟨exHp_ok (g := ⟨x, y, z, cs⟩) (by omega) hV.1, ?_⟩
  show StairP z x y _
  refine (stair_turn hV.1.1 (p := fun c => decide (c ∈ cs)) fun c _ => ?_).2 hV.2
  rw [Bool.eq_iff_iff, decide_eq_true_iff, decide_eq_true_iff]
  exact exHp_mem (g := ⟨x, y, z, cs⟩) (by omega) hV.1
theorem ex_lin {x y z : Int} {cs : List Cell} (hV : HeapOK x y z cs ∧ StairP x y z fun c => decide (c ∈ cs)) : linV (exHp (ordAt 4) ⟨x, y, z, cs⟩).x (exHp (ordAt 4) ⟨x, y, z, cs⟩).y (exHp (ordAt 4) ⟨x, y, z, cs⟩).z (exHp (ordAt 4) ⟨x, y, z, cs⟩).cs = linesN ⟨x, y, z, cs⟩ := by
  unfold linV
  rw [if_pos (str_yes (ex_stair hV))]
  exact lines_turn (g := ⟨x, y, z, cs⟩) hV.1
theorem ex_ors {x y z : Int} {cs : List Cell} (hV : HeapOK x y z cs ∧ StairP x y z fun c => decide (c ∈ cs)) (h9 : cs.length ≤ 9) : orsB (exHp (ordAt 4) ⟨x, y, z, cs⟩).x (exHp (ordAt 4) ⟨x, y, z, cs⟩).y (exHp (ordAt 4) ⟨x, y, z, cs⟩).z (exHp (ordAt 4) ⟨x, y, z, cs⟩).cs = true ∧
    orsN (exHp (ordAt 4) ⟨x, y, z, cs⟩).x (exHp (ordAt 4) ⟨x, y, z, cs⟩).y (exHp (ordAt 4) ⟨x, y, z, cs⟩).z (exHp (ordAt 4) ⟨x, y, z, cs⟩).cs = orN x y z cs.length fun c => decide (c ∈ cs) := by
  have hl := exHp_len (g := ⟨x, y, z, cs⟩) (i := 4) (by omega) hV.1
  have hb : orsB (exHp (ordAt 4) ⟨x, y, z, cs⟩).x (exHp (ordAt 4) ⟨x, y, z, cs⟩).y (exHp (ordAt 4) ⟨x, y, z, cs⟩).z (exHp (ordAt 4) ⟨x, y, z, cs⟩).cs = true := by
    unfold orsB
    rw [str_yes (ex_stair hV), Bool.true_and, decide_eq_true_iff, hl]
    exact h9
  refine ⟨hb, ?_⟩
  unfold orsN
  rw [if_pos hb, hl]
  show orN z x y cs.length _ = _
  refine orN_turn hV.1.1 fun c _ => ?_
  rw [Bool.eq_iff_iff, decide_eq_true_iff, decide_eq_true_iff]
  exact exHp_mem (g := ⟨x, y, z, cs⟩) (by omega) hV.1
theorem less_ors {x y z : Int} {cs : List Cell} {c : Cell} (hV : HeapOK x y z cs ∧ StairP x y z fun c => decide (c ∈ cs)) (h9 : cs.length ≤ 9) (hc : c ∈ cornL x y z cs) : orsB x y z (cs.filter fun d => !decide (d = c)) = true ∧
    orsN x y z (cs.filter fun d => !decide (d = c)) = orN x y z (cs.length - 1) fun d => decide (d ∈ cs) && !decide (d = c) := by
  obtain ⟨h1, h2⟩ := List.mem_filter.1 hc
  have hl := without_len hV.1 h1
  have hb : orsB x y z (cs.filter fun d => !decide (d = c)) = true := by
    unfold orsB
    rw [str_yes ⟨heap_without hV.1 c, (corn_iff h1).2 h2⟩, Bool.true_and, decide_eq_true_iff]
    omega
  refine ⟨hb, ?_⟩
  unfold orsN
  rw [if_pos hb, orN_mem hV.1.1]
  congr 1; omega
set_option maxHeartbeats 1000000 in
theorem l_FnStairOrders {t : Nat} {bs : List Nat} {M : Mem} (hh : Bytes M t 0 bs ∧ getEsz M t = some 1) (hn : bs.length ≤ 9223372036854775807 ∧ ∀ b ∈ bs, b ≤ 255) :
    CallsR PG F.laws_FnStairOrders [.ref t 0 bs.length] M fun v _ => v = .B true := by
  obtain ⟨h, hesz⟩ := hh
  have htM := h.lt
  refine callsR_run K.laws_FnStairOrders rfl ?_
  simp (disch := omega) only [C.laws_FnStairOrders, ↓SXd, SXu, slBounds, ↓sop, ↓aop, ↓reduceIte, LV.cells, AOp.dst, LV.I, LV.B, LV.U, LV.S, LV.nil, Nat.reduceEqDiff, Nat.reduceAdd, Nat.reduceMul, Nat.reduceSub, Nat.reduceLeDiff, Nat.reduceBEq, Nat.reduceDiv, Nat.reduceMod, Int.reduceToNat, Int.reduceLT, Int.reduceLE, Int.reduceAdd, Int.reduceSub, Int.reduceMul, Int.reduceEq, Int.reduceNeg, reduceCtorEq, resV, resAll, ARes.ev, LV.flat, ite_true, ite_false, exists_eq_left', exists_eq_left, keyOf, implies_true, fillC, capOf]
  refine callK_of (k_vBig hn.1) ?_
  simp (disch := omega) only [↓SXd, SXu, slBounds, ↓sop, ↓aop, ↓reduceIte, LV.cells, AOp.dst, LV.I, LV.B, LV.U, LV.S, LV.nil, Nat.reduceEqDiff, Nat.reduceAdd, Nat.reduceMul, Nat.reduceSub, Nat.reduceLeDiff, Nat.reduceBEq, Nat.reduceDiv, Nat.reduceMod, Int.reduceToNat, Int.reduceLT, Int.reduceLE, Int.reduceAdd, Int.reduceSub, Int.reduceMul, Int.reduceEq, Int.reduceNeg, reduceCtorEq, resV, resAll, ARes.ev, LV.flat, ite_true, ite_false, exists_eq_left', exists_eq_left, keyOf, implies_true, fillC, capOf]
  by_cases hbig : (65536 : Int) < (bs.length : Nat)
  · simp (disch := omega) only [hbig, ↓SXd, SXu, slBounds, ↓sop, ↓aop, ↓reduceIte, LV.cells, AOp.dst, LV.I, LV.B, LV.U, LV.S, LV.nil, Nat.reduceEqDiff, Nat.reduceAdd, Nat.reduceMul, Nat.reduceSub, Nat.reduceLeDiff, Nat.reduceBEq, Nat.reduceDiv, Nat.reduceMod, Int.reduceToNat, Int.reduceLT, Int.reduceLE, Int.reduceAdd, Int.reduceSub, Int.reduceMul, Int.reduceEq, Int.reduceNeg, reduceCtorEq, resV, resAll, ARes.ev, LV.flat, ite_true, ite_false, exists_eq_left', exists_eq_left, keyOf, implies_true, fillC, capOf]
    rfl
  have hl : bs.length ≤ 1000000000 := by omega
  have hl6 : bs.length ≤ 1000000 := by omega
  simp (disch := omega) only [hbig, ↓SXd, SXu, slBounds, ↓sop, ↓aop, ↓reduceIte, LV.cells, AOp.dst, LV.I, LV.B, LV.U, LV.S, LV.nil, Nat.reduceEqDiff, Nat.reduceAdd, Nat.reduceMul, Nat.reduceSub, Nat.reduceLeDiff, Nat.reduceBEq, Nat.reduceDiv, Nat.reduceMod, Int.reduceToNat, Int.reduceLT, Int.reduceLE, Int.reduceAdd, Int.reduceSub, Int.reduceMul, Int.reduceEq, Int.reduceNeg, reduceCtorEq, resV, resAll, ARes.ev, LV.flat, ite_true, ite_false, exists_eq_left', exists_eq_left, keyOf, implies_true, fillC, capOf]
  refine callR_of (d_DrawStairOrders h hn.2 hl) ?_
  rintro _ N1 ⟨⟨x, y, z, cs, u, rfl, hu, hul, hcl⟩, hp1⟩
  obtain ⟨on, ob, eN, eB, hO⟩ := ors_facts x y z cs
  simp (disch := omega) only [splice, ↓SXd, SXu, slBounds, ↓sop, ↓aop, ↓reduceIte, LV.cells, AOp.dst, LV.I, LV.B, LV.U, LV.S, LV.nil, Nat.reduceEqDiff, Nat.reduceAdd, Nat.reduceMul, Nat.reduceSub, Nat.reduceLeDiff, Nat.reduceBEq, Nat.reduceDiv, Nat.reduceMod, Int.reduceToNat, Int.reduceLT, Int.reduceLE, Int.reduceAdd, Int.reduceSub, Int.reduceMul, Int.reduceEq, Int.reduceNeg, reduceCtorEq, resV, resAll, ARes.ev, LV.flat, ite_true, ite_false, exists_eq_left', exists_eq_left, keyOf, implies_true, fillC, capOf]
  have B3 : Live (N1 ++ [some (.row [.I x, .I y, .I z, .ref u 0 cs.length] true 0)]) N1.length (.row [.I x, .I y, .I z, .ref u 0 cs.length] true 0) := Live.new
  have U := hu.app (L := [some (.row [.I x, .I y, .I z, .ref u 0 cs.length] true 0)])
  have q1 : Pre M (N1 ++ [some (.row [.I x, .I y, .I z, .ref u 0 cs.length] true 0)]) := hp1.trans (Pre.app _ _)
  generalize hm3 : N1.length = m3 at B3 ⊢
  generalize N1 ++ [some (Blk.row [.I x, .I y, .I z, .ref u 0 cs.length] true 0)] = W1 at B3 U q1 ⊢
  have hq := g_StairOrders (x := x) (y := y) (z := z) U (by omega)
  rw [eN, eB] at hq
  refine callK_of hq ?_
  clear hq
  simp (disch := omega) only [B3.cells, ↓SXd, SXu, slBounds, ↓sop, ↓aop, ↓reduceIte, LV.cells, AOp.dst, LV.I, LV.B, LV.U, LV.S, LV.nil, Nat.reduceEqDiff, Nat.reduceAdd, Nat.reduceMul, Nat.reduceSub, Nat.reduceLeDiff, Nat.reduceBEq, Nat.reduceDiv, Nat.reduceMod, Int.reduceToNat, Int.reduceLT, Int.reduceLE, Int.reduceAdd, Int.reduceSub, Int.reduceMul, Int.reduceEq, Int.reduceNeg, reduceCtorEq, resV, resAll, ARes.ev, LV.flat, ite_true, ite_false, exists_eq_left', exists_eq_left, keyOf, implies_true, fillC, capOf]
  have hq := h_sStairOrders (x := x) (y := y) (z := z) U (by omega)
  rw [eN, eB] at hq
  refine callK_of hq ?_
  clear hq
  simp (disch := omega) only [↓SXd, SXu, slBounds, ↓sop, ↓aop, ↓reduceIte, LV.cells, AOp.dst, LV.I, LV.B, LV.U, LV.S, LV.nil, Nat.reduceEqDiff, Nat.reduceAdd, Nat.reduceMul, Nat.reduceSub, Nat.reduceLeDiff, Nat.reduceBEq, Nat.reduceDiv, Nat.reduceMod, Int.reduceToNat, Int.reduceLT, Int.reduceLE, Int.reduceAdd, Int.reduceSub, Int.reduceMul, Int.reduceEq, Int.reduceNeg, reduceCtorEq, resV, resAll, ARes.ev, LV.flat, ite_true, ite_false, exists_eq_left', exists_eq_left, keyOf, implies_true, fillC, capOf]
  refine callR_of (k_vCut (n := 1) (h.pre q1) (esz_prek hesz htM q1) hn.2 hl6 (by omega)) ?_
  rintro _ W2 ⟨uc, ec, rfl, hec, hec255, hecl, hp2⟩
  simp (disch := omega) only [↓SXd, SXu, slBounds, ↓sop, ↓aop, ↓reduceIte, LV.cells, AOp.dst, LV.I, LV.B, LV.U, LV.S, LV.nil, Nat.reduceEqDiff, Nat.reduceAdd, Nat.reduceMul, Nat.reduceSub, Nat.reduceLeDiff, Nat.reduceBEq, Nat.reduceDiv, Nat.reduceMod, Int.reduceToNat, Int.reduceLT, Int.reduceLE, Int.reduceAdd, Int.reduceSub, Int.reduceMul, Int.reduceEq, Int.reduceNeg, reduceCtorEq, resV, resAll, ARes.ev, LV.flat, ite_true, ite_false, exists_eq_left', exists_eq_left, keyOf, implies_true, fillC, capOf]
  refine callR_of (d_DrawStairLines hec hec255 (by omega)) ?_
  rintro _ N3 ⟨⟨x2, y2, z2, cs2, u2, rfl, hu2, hul2, hcl2⟩, hp3⟩
  obtain ⟨ln, lb, eL, eS, hL⟩ := lin_facts x2 y2 z2 cs2
  simp (disch := omega) only [splice, ↓SXd, SXu, slBounds, ↓sop, ↓aop, ↓reduceIte, LV.cells, AOp.dst, LV.I, LV.B, LV.U, LV.S, LV.nil, Nat.reduceEqDiff, Nat.reduceAdd, Nat.reduceMul, Nat.reduceSub, Nat.reduceLeDiff, Nat.reduceBEq, Nat.reduceDiv, Nat.reduceMod, Int.reduceToNat, Int.reduceLT, Int.reduceLE, Int.reduceAdd, Int.reduceSub, Int.reduceMul, Int.reduceEq, Int.reduceNeg, reduceCtorEq, resV, resAll, ARes.ev, LV.flat, ite_true, ite_false, exists_eq_left', exists_eq_left, keyOf, implies_true, fillC, capOf]
  have B8 : Live (N3 ++ [some (.row [.I x2, .I y2, .I z2, .ref u2 0 cs2.length] true 0)]) N3.length (.row [.I x2, .I y2, .I z2, .ref u2 0 cs2.length] true 0) := Live.new
  have U2 := hu2.app (L := [some (.row [.I x2, .I y2, .I z2, .ref u2 0 cs2.length] true 0)])
  have B3a := ((B3.pre hp2).pre hp3).app (L := [some (.row [.I x2, .I y2, .I z2, .ref u2 0 cs2.length] true 0)])
  have Ua := ((U.pre hp2).pre hp3).app (L := [some (.row [.I x2, .I y2, .I z2, .ref u2 0 cs2.length] true 0)])
  clear B3 U
  generalize hm8 : N3.length = m8 at B8 ⊢
  generalize N3 ++ [some (Blk.row [.I x2, .I y2, .I z2, .ref u2 0 cs2.length] true 0)] = W3 at B8 U2 B3a Ua ⊢
  have hq := g_StairLines (x := x2) (y := y2) (z := z2) U2 (by omega)
  rw [eL, eS] at hq
  refine callK_of hq ?_
  clear hq
  simp (disch := omega) only [B8.cells, ↓SXd, SXu, slBounds, ↓sop, ↓aop, ↓reduceIte, LV.cells, AOp.dst, LV.I, LV.B, LV.U, LV.S, LV.nil, Nat.reduceEqDiff, Nat.reduceAdd, Nat.reduceMul, Nat.reduceSub, Nat.reduceLeDiff, Nat.reduceBEq, Nat.reduceDiv, Nat.reduceMod, Int.reduceToNat, Int.reduceLT, Int.reduceLE, Int.reduceAdd, Int.reduceSub, Int.reduceMul, Int.reduceEq, Int.reduceNeg, reduceCtorEq, resV, resAll, ARes.ev, LV.flat, ite_true, ite_false, exists_eq_left', exists_eq_left, keyOf, implies_true, fillC, capOf]
  have hq := h_sStairLines (x := x2) (y := y2) (z := z2) U2 (by omega)
  rw [eL, eS] at hq
  refine callK_of hq ?_
  clear hq
  refine put_cut (fun fr' M' => M' = W3 ∧ fr' 3 = .ptr m3 0 ∧ fr' 4 = .I on ∧ fr' 5 = .B ob ∧ fr' 8 = .ptr m8 0 ∧ fr' 9 = .I ln ∧ fr' 10 = .B lb) ?_ ?_
  · simp (disch := omega) only [beq_self_eq_true, Bool.not_true, ↓SXd, SXu, slBounds, ↓sop, ↓aop, ↓reduceIte, LV.cells, AOp.dst, LV.I, LV.B, LV.U, LV.S, LV.nil, Nat.reduceEqDiff, Nat.reduceAdd, Nat.reduceMul, Nat.reduceSub, Nat.reduceLeDiff, Nat.reduceBEq, Nat.reduceDiv, Nat.reduceMod, Int.reduceToNat, Int.reduceLT, Int.reduceLE, Int.reduceAdd, Int.reduceSub, Int.reduceMul, Int.reduceEq, Int.reduceNeg, reduceCtorEq, resV, resAll, ARes.ev, LV.flat, ite_true, ite_false, exists_eq_left', exists_eq_left, keyOf, implies_true, fillC, capOf]
    all_goals exact ⟨rfl, by first | rfl | assumption, by first | rfl | assumption, by first | rfl | assumption, by first | rfl | assumption, by first | rfl | assumption, by first | rfl | assumption⟩
  rintro fr W3 ⟨rfl, f3, f4, f5, f8, f9, f10⟩
  simp (disch := omega) only [f3, f4, f5, f8, f9, f10, ↓SXd, SXu, slBounds, ↓sop, ↓aop, ↓reduceIte, LV.cells, AOp.dst, LV.I, LV.B, LV.U, LV.S, LV.nil, Nat.reduceEqDiff, Nat.reduceAdd, Nat.reduceMul, Nat.reduceSub, Nat.reduceLeDiff, Nat.reduceBEq, Nat.reduceDiv, Nat.reduceMod, Int.reduceToNat, Int.reduceLT, Int.reduceLE, Int.reduceAdd, Int.reduceSub, Int.reduceMul, Int.reduceEq, Int.reduceNeg, reduceCtorEq, resV, resAll, ARes.ev, LV.flat, ite_true, ite_false, exists_eq_left', exists_eq_left, keyOf, implies_true, fillC, capOf]
  refine cond_cut (fun fr' M' => Pre W3 M' ∧ fr' 3 = .ptr m3 0 ∧ fr' 4 = .I on ∧ fr' 5 = .B ob) ?_ ?_
  · cases lb
    · simp (disch := omega) only [f3, f4, f5, f8, f9, f10, ↓SXd, SXu, slBounds, ↓sop, ↓aop, ↓reduceIte, LV.cells, AOp.dst, LV.I, LV.B, LV.U, LV.S, LV.nil, Nat.reduceEqDiff, Nat.reduceAdd, Nat.reduceMul, Nat.reduceSub, Nat.reduceLeDiff, Nat.reduceBEq, Nat.reduceDiv, Nat.reduceMod, Int.reduceToNat, Int.reduceLT, Int.reduceLE, Int.reduceAdd, Int.reduceSub, Int.reduceMul, Int.reduceEq, Int.reduceNeg, reduceCtorEq, resV, resAll, ARes.ev, LV.flat, ite_true, ite_false, exists_eq_left', exists_eq_left, keyOf, implies_true, fillC, capOf]
      exact Pre.refl _
    obtain ⟨hV2, hln⟩ := hL rfl
    simp (disch := omega) only [f3, f4, f5, f8, f9, f10, B8.cells, ↓SXd, SXu, slBounds, ↓sop, ↓aop, ↓reduceIte, LV.cells, AOp.dst, LV.I, LV.B, LV.U, LV.S, LV.nil, Nat.reduceEqDiff, Nat.reduceAdd, Nat.reduceMul, Nat.reduceSub, Nat.reduceLeDiff, Nat.reduceBEq, Nat.reduceDiv, Nat.reduceMod, Int.reduceToNat, Int.reduceLT, Int.reduceLE, Int.reduceAdd, Int.reduceSub, Int.reduceMul, Int.reduceEq, Int.reduceNeg, reduceCtorEq, resV, resAll, ARes.ev, LV.flat, ite_true, ite_false, exists_eq_left', exists_eq_left, keyOf, implies_true, fillC, capOf]
    refine callR_of (g_TurnStair U2 hV2) ?_
    rintro _ N4 ⟨⟨u4, rfl, hu4, hu4l⟩, hp4⟩
    have hturn := ex_lin hV2
    have hst := str_yes (ex_stair hV2)
    have hlen4 := exHp_len (g := ⟨x2, y2, z2, cs2⟩) (i := 4) (by omega) hV2.1
    have hll := lines_law (g := ⟨x2, y2, z2, cs2⟩) hV2.1
    have hfx : decide ((exHp (ordAt 4) ⟨x2, y2, z2, cs2⟩).dims = (⟨x2, y2, z2, cs2⟩ : Hp).dims ∧ (exHp (ordAt 4) ⟨x2, y2, z2, cs2⟩).cs = (⟨x2, y2, z2, cs2⟩ : Hp).cs) = fixB ⟨x2, y2, z2, cs2⟩ 4 := by
      unfold fixB
      rw [Bool.eq_iff_iff, decide_eq_true_iff, decide_eq_true_iff]
      exact ⟨fun e => ⟨e.1.symm, e.2.symm⟩, fun e => ⟨e.1.symm, e.2.symm⟩⟩
    rw [← hln] at hturn hll
    generalize exHp (ordAt 4) ⟨x2, y2, z2, cs2⟩ = G at hu4 hturn hst hlen4 hfx ⊢
    simp (disch := omega) only [f3, f4, f5, f8, f9, f10, splice, ↓SXd, SXu, slBounds, ↓sop, ↓aop, ↓reduceIte, LV.cells, AOp.dst, LV.I, LV.B, LV.U, LV.S, LV.nil, Nat.reduceEqDiff, Nat.reduceAdd, Nat.reduceMul, Nat.reduceSub, Nat.reduceLeDiff, Nat.reduceBEq, Nat.reduceDiv, Nat.reduceMod, Int.reduceToNat, Int.reduceLT, Int.reduceLE, Int.reduceAdd, Int.reduceSub, Int.reduceMul, Int.reduceEq, Int.reduceNeg, reduceCtorEq, resV, resAll, ARes.ev, LV.flat, ite_true, ite_false, exists_eq_left', exists_eq_left, keyOf, implies_true, fillC, capOf]
    have B13 : Live (N4 ++ [some (.row [.I G.x, .I G.y, .I G.z, .ref u4 0 G.cs.length] true 0)]) N4.length (.row [.I G.x, .I G.y, .I G.z, .ref u4 0 G.cs.length] true 0) := Live.new
    have U4 := hu4.app (L := [some (.row [.I G.x, .I G.y, .I G.z, .ref u4 0 G.cs.length] true 0)])
    have q5 : Pre W3 (N4 ++ [some (.row [.I G.x, .I G.y, .I G.z, .ref u4 0 G.cs.length] true 0)]) := hp4.trans (Pre.app _ _)
    generalize N4 ++ [some (Blk.row [.I G.x, .I G.y, .I G.z, .ref u4 0 G.cs.length] true 0)] = W5 at B13 U4 q5 ⊢
    generalize N4.length = m13 at B13 ⊢
    have hlc2 := hV2.1.len
    have hq := g_StairLines (x := G.x) (y := G.y) (z := G.z) U4 (by rw [hlen4]; show cs2.length ≤ _; omega)
    rw [hturn, hst] at hq
    refine callK_of hq ?_
    clear hq
    obtain ⟨l1, l2, l3⟩ := hll
    have hl7 : ln ≤ 6 := by rw [hln]; exact countP_le6
    have k1 : ¬ ((ln : Int) < 1) := by omega
    have k2 : (6 : Int).tmod (ln : Int) = 0 := by
      rcases (show ln = 1 ∨ ln = 2 ∨ ln = 3 ∨ ln = 4 ∨ ln = 5 ∨ ln = 6 by omega) with rfl | rfl | rfl | rfl | rfl | rfl <;> first | rfl | simp at l2
    have k3 : (ln : Int).tmod 3 = ((ln % 3 : Nat) : Int) := by
      rcases (show ln = 1 ∨ ln = 2 ∨ ln = 3 ∨ ln = 4 ∨ ln = 5 ∨ ln = 6 by omega) with rfl | rfl | rfl | rfl | rfl | rfl <;> rfl
    have k4 : ¬ ((ln : Int) = 0) := by omega
    have hB8 := B8.pre q5
    simp (disch := omega) only [f3, f4, f5, f8, f9, f10, beq_self_eq_true, Bool.not_true, k1, k2, k3, k4, ne_eq, not_false_eq_true, B13.cells, hB8.cells, ↓SXd, SXu, slBounds, ↓sop, ↓aop, ↓reduceIte, LV.cells, AOp.dst, LV.I, LV.B, LV.U, LV.S, LV.nil, Nat.reduceEqDiff, Nat.reduceAdd, Nat.reduceMul, Nat.reduceSub, Nat.reduceLeDiff, Nat.reduceBEq, Nat.reduceDiv, Nat.reduceMod, Int.reduceToNat, Int.reduceLT, Int.reduceLE, Int.reduceAdd, Int.reduceSub, Int.reduceMul, Int.reduceEq, Int.reduceNeg, reduceCtorEq, resV, resAll, ARes.ev, LV.flat, ite_true, ite_false, exists_eq_left', exists_eq_left, keyOf, implies_true, fillC, capOf]
    refine callK_of (k_vHeap (g := G) (h := ⟨x2, y2, z2, cs2⟩) (.inr ⟨u4, 0, rfl, U4.has⟩) (.inr ⟨u2, 0, rfl, (U2.pre q5).has⟩) (by rw [hlen4]; show cs2.length ≤ _; omega) (by show cs2.length ≤ _; omega)) ?_
    rw [hfx]
    have k5 : decide (((ln % 3 : Nat) : Int) = 0) = fixB ⟨x2, y2, z2, cs2⟩ 4 := by
      rw [Bool.eq_iff_iff, decide_eq_true_iff, ← l3]; omega
    cases hf : fixB ⟨x2, y2, z2, cs2⟩ 4 with
    | true =>
      rw [hf, decide_eq_true_iff] at k5
      simp (disch := omega) only [f3, f4, f5, f8, f9, f10, k5, beq_self_eq_true, Bool.not_true, ↓SXd, SXu, slBounds, ↓sop, ↓aop, ↓reduceIte, LV.cells, AOp.dst, LV.I, LV.B, LV.U, LV.S, LV.nil, Nat.reduceEqDiff, Nat.reduceAdd, Nat.reduceMul, Nat.reduceSub, Nat.reduceLeDiff, Nat.reduceBEq, Nat.reduceDiv, Nat.reduceMod, Int.reduceToNat, Int.reduceLT, Int.reduceLE, Int.reduceAdd, Int.reduceSub, Int.reduceMul, Int.reduceEq, Int.reduceNeg, reduceCtorEq, resV, resAll, ARes.ev, LV.flat, ite_true, ite_false, exists_eq_left', exists_eq_left, keyOf, implies_true, fillC, capOf]
      exact q5
    | false =>
      rw [hf, decide_eq_false_iff_not] at k5
      simp (disch := omega) only [f3, f4, f5, f8, f9, f10, k5, beq_self_eq_true, Bool.not_true, ↓SXd, SXu, slBounds, ↓sop, ↓aop, ↓reduceIte, LV.cells, AOp.dst, LV.I, LV.B, LV.U, LV.S, LV.nil, Nat.reduceEqDiff, Nat.reduceAdd, Nat.reduceMul, Nat.reduceSub, Nat.reduceLeDiff, Nat.reduceBEq, Nat.reduceDiv, Nat.reduceMod, Int.reduceToNat, Int.reduceLT, Int.reduceLE, Int.reduceAdd, Int.reduceSub, Int.reduceMul, Int.reduceEq, Int.reduceNeg, reduceCtorEq, resV, resAll, ARes.ev, LV.flat, ite_true, ite_false, exists_eq_left', exists_eq_left, keyOf, implies_true, fillC, capOf]
      exact q5
  clear f3 f4 f5 f8 f9 f10
  rintro fr X ⟨hX, f3, f4, f5⟩
  have B3 := B3a.pre hX
  have U := Ua.pre hX
  clear B3a Ua
  cases ob
  · simp (disch := omega) only [f3, f4, f5, ↓SXd, SXu, slBounds, ↓sop, ↓aop, ↓reduceIte, LV.cells, AOp.dst, LV.I, LV.B, LV.U, LV.S, LV.nil, Nat.reduceEqDiff, Nat.reduceAdd, Nat.reduceMul, Nat.reduceSub, Nat.reduceLeDiff, Nat.reduceBEq, Nat.reduceDiv, Nat.reduceMod, Int.reduceToNat, Int.reduceLT, Int.reduceLE, Int.reduceAdd, Int.reduceSub, Int.reduceMul, Int.reduceEq, Int.reduceNeg, reduceCtorEq, resV, resAll, ARes.ev, LV.flat, ite_true, ite_false, exists_eq_left', exists_eq_left, keyOf, implies_true, fillC, capOf]
    rfl
  obtain ⟨hV, h9, hon⟩ := hO rfl
  have hS := hV.1.1
  simp (disch := omega) only [f3, f4, f5, B3.cells, ↓SXd, SXu, slBounds, ↓sop, ↓aop, ↓reduceIte, LV.cells, AOp.dst, LV.I, LV.B, LV.U, LV.S, LV.nil, Nat.reduceEqDiff, Nat.reduceAdd, Nat.reduceMul, Nat.reduceSub, Nat.reduceLeDiff, Nat.reduceBEq, Nat.reduceDiv, Nat.reduceMod, Int.reduceToNat, Int.reduceLT, Int.reduceLE, Int.reduceAdd, Int.reduceSub, Int.reduceMul, Int.reduceEq, Int.reduceNeg, reduceCtorEq, resV, resAll, ARes.ev, LV.flat, ite_true, ite_false, exists_eq_left', exists_eq_left, keyOf, implies_true, fillC, capOf]
  refine callR_of (g_TurnStair U hV) ?_
  rintro _ N4 ⟨⟨u4, rfl, hu4, hu4l⟩, hp4⟩
  obtain ⟨hxb, hxn⟩ := ex_ors hV h9
  have hlen4 := exHp_len (g := ⟨x, y, z, cs⟩) (i := 4) (by omega) hV.1
  rw [← hon] at hxn
  generalize exHp (ordAt 4) ⟨x, y, z, cs⟩ = G at hu4 hxb hxn hlen4 ⊢
  simp (disch := omega) only [f3, f4, f5, splice, ↓SXd, SXu, slBounds, ↓sop, ↓aop, ↓reduceIte, LV.cells, AOp.dst, LV.I, LV.B, LV.U, LV.S, LV.nil, Nat.reduceEqDiff, Nat.reduceAdd, Nat.reduceMul, Nat.reduceSub, Nat.reduceLeDiff, Nat.reduceBEq, Nat.reduceDiv, Nat.reduceMod, Int.reduceToNat, Int.reduceLT, Int.reduceLE, Int.reduceAdd, Int.reduceSub, Int.reduceMul, Int.reduceEq, Int.reduceNeg, reduceCtorEq, resV, resAll, ARes.ev, LV.flat, ite_true, ite_false, exists_eq_left', exists_eq_left, keyOf, implies_true, fillC, capOf]
  have B17 : Live (N4 ++ [some (.row [.I G.x, .I G.y, .I G.z, .ref u4 0 G.cs.length] true 0)]) N4.length (.row [.I G.x, .I G.y, .I G.z, .ref u4 0 G.cs.length] true 0) := Live.new
  have U4 := hu4.app (L := [some (.row [.I G.x, .I G.y, .I G.z, .ref u4 0 G.cs.length] true 0)])
  have q5 : Pre X (N4 ++ [some (.row [.I G.x, .I G.y, .I G.z, .ref u4 0 G.cs.length] true 0)]) := hp4.trans (Pre.app _ _)
  generalize N4 ++ [some (Blk.row [.I G.x, .I G.y, .I G.z, .ref u4 0 G.cs.length] true 0)] = W5 at B17 U4 q5 ⊢
  generalize N4.length = m17 at B17 ⊢
  have hq := g_StairOrders (x := G.x) (y := G.y) (z := G.z) U4 (by rw [hlen4]; show cs.length ≤ _; omega)
  rw [hxn, hxb] at hq
  refine callK_of hq ?_
  clear hq
  have B3b := B3.pre q5
  have Ub := U.pre q5
  simp (disch := omega) only [f3, f4, f5, B3b.cells, ↓SXd, SXu, slBounds, ↓sop, ↓aop, ↓reduceIte, LV.cells, AOp.dst, LV.I, LV.B, LV.U, LV.S, LV.nil, Nat.reduceEqDiff, Nat.reduceAdd, Nat.reduceMul, Nat.reduceSub, Nat.reduceLeDiff, Nat.reduceBEq, Nat.reduceDiv, Nat.reduceMod, Int.reduceToNat, Int.reduceLT, Int.reduceLE, Int.reduceAdd, Int.reduceSub, Int.reduceMul, Int.reduceEq, Int.reduceNeg, reduceCtorEq, resV, resAll, ARes.ev, LV.flat, ite_true, ite_false, exists_eq_left', exists_eq_left, keyOf, implies_true, fillC, capOf]
  refine callR_of (g_StairCorners Ub hV) ?_
  rintro _ W6 ⟨u6, rfl, b6, hp6⟩
  have B3c := B3b.pre hp6
  have Uc := Ub.pre hp6
  have hLc : ∀ c ∈ cornL x y z cs, orsB x y z (cs.filter fun d => !decide (d = c)) = true ∧ orsN x y z (cs.filter fun d => !decide (d = c)) = orN x y z (cs.length - 1) fun d => decide (d ∈ cs) && !decide (d = c) := fun c hc => less_ors hV h9 hc
  have hLm : ∀ c ∈ cornL x y z cs, c ∈ cs := fun c hc => (List.mem_filter.1 hc).1
  have hLl : (cornL x y z cs).length ≤ 9 := by
    have := List.length_filter_le (cornC x y z fun d => decide (d ∈ cs)) cs
    unfold cornL; omega
  have hfac : ∀ n, n ≤ 8 → facN n ≤ 40320 := by decide
  have hfb : ∀ c ∈ cs, orN x y z (cs.length - 1) (fun d => decide (d ∈ cs) && !decide (d = c)) ≤ 40320 := fun c hc => by
    have h1 := pick_less hS (p := fun d => decide (d ∈ cs)) (hV.1.mem hc) (by simp [hc])
    rw [← hV.1.pick] at h1
    have h2 := orN_le hS (n := cs.length - 1) (p := fun d => decide (d ∈ cs) && !decide (d = c)) (by omega)
    have h3 := hfac (cs.length - 1) (by omega)
    omega
  have htot : (cs.length = 0 ∧ on = 1) ∨ (cs.length ≠ 0 ∧ ((cornL x y z cs).map fun c => orN x y z (cs.length - 1) fun d => decide (d ∈ cs) && !decide (d = c)).sum = on) := by
    rcases Nat.eq_zero_or_pos cs.length with h0 | h0
    · exact .inl ⟨h0, by rw [hon, h0]; rfl⟩
    · refine .inr ⟨by omega, ?_⟩
      rw [hon, corn_pick hV.1]
      obtain ⟨n', hn'⟩ : ∃ n', cs.length = n' + 1 := ⟨cs.length - 1, by omega⟩
      rw [hn']
      rfl
  generalize cornL x y z cs = L at b6 hLc hLm hLl htot ⊢
  simp (disch := omega) only [f3, f4, f5, ↓SXd, SXu, slBounds, ↓sop, ↓aop, ↓reduceIte, LV.cells, AOp.dst, LV.I, LV.B, LV.U, LV.S, LV.nil, Nat.reduceEqDiff, Nat.reduceAdd, Nat.reduceMul, Nat.reduceSub, Nat.reduceLeDiff, Nat.reduceBEq, Nat.reduceDiv, Nat.reduceMod, Int.reduceToNat, Int.reduceLT, Int.reduceLE, Int.reduceAdd, Int.reduceSub, Int.reduceMul, Int.reduceEq, Int.reduceNeg, reduceCtorEq, resV, resAll, ARes.ev, LV.flat, ite_true, ite_false, exists_eq_left', exists_eq_left, keyOf, implies_true, fillC, capOf]
  refine ev_loop (fun m fr M' => ∃ i : Nat, i + m = L.length ∧ Pre W6 M' ∧ fr 3 = .ptr m3 0 ∧ fr 4 = .I on ∧ fr 18 = .B true ∧ fr 19 = .I on ∧ fr 20 = .B true ∧ fr 21 = .ref u6 0 L.length ∧ fr 22 = .B true ∧ fr 23 = .I (((L.take i).map fun c => orN x y z (cs.length - 1) fun d => decide (d ∈ cs) && !decide (d = c)).sum : Nat) ∧ fr 24 = .I i) L.length
    ⟨0, by omega, Pre.refl _, f3, f4, rfl, rfl, rfl, rfl, rfl, rfl, rfl⟩ ?_
  clear f3 f4 f5
  rintro m fr M' ⟨i, hi, hpre, f3, f4, f18, f19, f20, f21, f22, f23, f24⟩
  have B3d := B3c.pre hpre
  have Ud := Uc.pre hpre
  have b6d := b6.pre hpre
  simp (disch := omega) only [f3, f4, f18, f19, f20, f21, f22, f23, f24, ↓SXd, SXu, slBounds, ↓sop, ↓aop, ↓reduceIte, LV.cells, AOp.dst, LV.I, LV.B, LV.U, LV.S, LV.nil, Nat.reduceEqDiff, Nat.reduceAdd, Nat.reduceMul, Nat.reduceSub, Nat.reduceLeDiff, Nat.reduceBEq, Nat.reduceDiv, Nat.reduceMod, Int.reduceToNat, Int.reduceLT, Int.reduceLE, Int.reduceAdd, Int.reduceSub, Int.reduceMul, Int.reduceEq, Int.reduceNeg, reduceCtorEq, resV, resAll, ARes.ev, LV.flat, ite_true, ite_false, exists_eq_left', exists_eq_left, keyOf, implies_true, fillC, capOf]
  refine condC_dec (fun hlt => ?_) (fun hlt => ?_)
  · have hil : i < L.length := by omega
    have hts : L.take (i + 1) = L.take i ++ [L.getD i default] := take_snoc' hil
    have hcm := getD_mem' (d := default) hil
    have hc := b6d.tri0 hil
    have hsb : ((L.take i).map fun c => orN x y z (cs.length - 1) fun d => decide (d ∈ cs) && !decide (d = c)).sum ≤ 9 * 40320 := by
      refine Nat.le_trans (sum_le (b := 40320) fun d hd => hfb d (hLm d (List.mem_of_mem_take hd))) (Nat.mul_le_mul_right _ ?_)
      have h2 : (L.take i).length = i := by simp; omega
      omega
    generalize L.getD i default = c at hts hcm hc
    obtain ⟨hb, hN⟩ := hLc c hcm
    have hcb := hfb c (hLm c hcm)
    have hwl := heap_without hV.1 c
    have hwlen := hwl.len
    generalize hst : ((L.take i).map fun c => orN x y z (cs.length - 1) fun d => decide (d ∈ cs) && !decide (d = c)).sum = s0 at f23 hsb
    simp (disch := omega) only [f3, f4, f18, f19, f20, f21, f22, f23, f24, B3d.cells, hc, Cell.row, ↓SXd, SXu, slBounds, ↓sop, ↓aop, ↓reduceIte, LV.cells, AOp.dst, LV.I, LV.B, LV.U, LV.S, LV.nil, Nat.reduceEqDiff, Nat.reduceAdd, Nat.reduceMul, Nat.reduceSub, Nat.reduceLeDiff, Nat.reduceBEq, Nat.reduceDiv, Nat.reduceMod, Int.reduceToNat, Int.reduceLT, Int.reduceLE, Int.reduceAdd, Int.reduceSub, Int.reduceMul, Int.reduceEq, Int.reduceNeg, reduceCtorEq, resV, resAll, ARes.ev, LV.flat, ite_true, ite_false, exists_eq_left', exists_eq_left, keyOf, implies_true, fillC, capOf]
    refine callR_of (g_TakeCube (Ud.app.has) hV.1 (hLm c hcm)) ?_
    rintro _ N8 ⟨⟨u8, rfl, hu8, hu8l⟩, hp8⟩
    have hl8 := hp8.1
    simp only [List.length_append, List.length_cons, List.length_nil] at hl8 hu8l
    have hb25 : Live (N8.set M'.length (some (.row [.I 0, .I 0, .I 0, .val (.slice none 0 0)] true 0))) M'.length (.row [.I 0, .I 0, .I 0, .val (.slice none 0 0)] true 0) := by
      unfold Live; simp [show M'.length < N8.length by omega]
    have hu9 := hu8.setN (k := M'.length) (v := some (.row [.I 0, .I 0, .I 0, .val (.slice none 0 0)] true 0)) (by omega)
    have hp9 : Pre M' (N8.set M'.length (some (.row [.I 0, .I 0, .I 0, .val (.slice none 0 0)] true 0))) := ((Pre.app _ _).trans hp8).set (Nat.le_refl _)
    simp (disch := omega) only [f3, f4, f18, f19, f20, f21, f22, f23, f24, ↓SXd, SXu, slBounds, ↓sop, ↓aop, ↓reduceIte, LV.cells, AOp.dst, LV.I, LV.B, LV.U, LV.S, LV.nil, Nat.reduceEqDiff, Nat.reduceAdd, Nat.reduceMul, Nat.reduceSub, Nat.reduceLeDiff, Nat.reduceBEq, Nat.reduceDiv, Nat.reduceMod, Int.reduceToNat, Int.reduceLT, Int.reduceLE, Int.reduceAdd, Int.reduceSub, Int.reduceMul, Int.reduceEq, Int.reduceNeg, reduceCtorEq, resV, resAll, ARes.ev, LV.flat, ite_true, ite_false, exists_eq_left', exists_eq_left, keyOf, implies_true, fillC, capOf]
    refine memK_box hb25 (by simp) fun V j1 j2 j3 => ?_
    have hp10 := pre_step hp9 (Nat.le_refl _) (j := 0) j1 j3
    have hu10 := live_step hu9 (by omega) j3
    simp (disch := omega) only [f3, f4, f18, f19, f20, f21, f22, f23, f24, j2.cells, ↓SXd, SXu, slBounds, ↓sop, ↓aop, ↓reduceIte, LV.cells, AOp.dst, LV.I, LV.B, LV.U, LV.S, LV.nil, Nat.reduceEqDiff, Nat.reduceAdd, Nat.reduceMul, Nat.reduceSub, Nat.reduceLeDiff, Nat.reduceBEq, Nat.reduceDiv, Nat.reduceMod, Int.reduceToNat, Int.reduceLT, Int.reduceLE, Int.reduceAdd, Int.reduceSub, Int.reduceMul, Int.reduceEq, Int.reduceNeg, reduceCtorEq, resV, resAll, ARes.ev, LV.flat, ite_true, ite_false, exists_eq_left', exists_eq_left, keyOf, implies_true, fillC, capOf]
    have hq := g_StairOrders (x := x) (y := y) (z := z) hu10 (by show (cs.filter _).length ≤ _; omega)
    rw [show (⟨x, y, z, cs.filter fun e => !decide (e = c)⟩ : Hp).cs = cs.filter fun e => !decide (e = c) from rfl, hb, hN] at hq
    refine callK_of hq ?_
    clear hq
    simp (disch := omega) only [f3, f4, f18, f19, f20, f21, f22, f23, f24, ↓SXd, SXu, slBounds, ↓sop, ↓aop, ↓reduceIte, LV.cells, AOp.dst, LV.I, LV.B, LV.U, LV.S, LV.nil, Nat.reduceEqDiff, Nat.reduceAdd, Nat.reduceMul, Nat.reduceSub, Nat.reduceLeDiff, Nat.reduceBEq, Nat.reduceDiv, Nat.reduceMod, Int.reduceToNat, Int.reduceLT, Int.reduceLE, Int.reduceAdd, Int.reduceSub, Int.reduceMul, Int.reduceEq, Int.reduceNeg, reduceCtorEq, resV, resAll, ARes.ev, LV.flat, ite_true, ite_false, exists_eq_left', exists_eq_left, keyOf, implies_true, fillC, capOf]
    refine ⟨m - 1, by omega, i + 1, by omega, hpre.trans hp10, f3, f4, f18, f19, f20, f21, f22, ?_, eqI (natI _)⟩
    rw [hts, List.map_append, List.sum_append, hst]
    exact eqI (by simp)
  · have : i = L.length := by omega
    subst this
    rw [List.take_length] at f23
    rcases htot with ⟨h0, h1⟩ | ⟨h0, h1⟩
    · have h0' : ((cs.length : Nat) : Int) = 0 := by omega
      subst h1
      simp (disch := omega) only [f3, f4, f18, f19, f20, f21, f22, f23, f24, B3d.cell, h0', ↓SXd, SXu, slBounds, ↓sop, ↓aop, ↓reduceIte, LV.cells, AOp.dst, LV.I, LV.B, LV.U, LV.S, LV.nil, Nat.reduceEqDiff, Nat.reduceAdd, Nat.reduceMul, Nat.reduceSub, Nat.reduceLeDiff, Nat.reduceBEq, Nat.reduceDiv, Nat.reduceMod, Int.reduceToNat, Int.reduceLT, Int.reduceLE, Int.reduceAdd, Int.reduceSub, Int.reduceMul, Int.reduceEq, Int.reduceNeg, reduceCtorEq, resV, resAll, ARes.ev, LV.flat, ite_true, ite_false, exists_eq_left', exists_eq_left, keyOf, implies_true, fillC, capOf]
      all_goals rfl
    · have h0' : ¬ ((cs.length : Nat) : Int) = 0 := by omega
      rw [h1] at f23
      simp (disch := omega) only [f3, f4, f18, f19, f20, f21, f22, f23, f24, B3d.cell, h0', ↓SXd, SXu, slBounds, ↓sop, ↓aop, ↓reduceIte, LV.cells, AOp.dst, LV.I, LV.B, LV.U, LV.S, LV.nil, Nat.reduceEqDiff, Nat.reduceAdd, Nat.reduceMul, Nat.reduceSub, Nat.reduceLeDiff, Nat.reduceBEq, Nat.reduceDiv, Nat.reduceMod, Int.reduceToNat, Int.reduceLT, Int.reduceLE, Int.reduceAdd, Int.reduceSub, Int.reduceMul, Int.reduceEq, Int.reduceNeg, reduceCtorEq, resV, resAll, ARes.ev, LV.flat, ite_true, ite_false, exists_eq_left', exists_eq_left, keyOf, implies_true, fillC, capOf]
      all_goals rfl
end Go.Ab

/- Bytes that came in, opened. -/
namespace Go.Ab
open Go Go.RowKit Go.Joins Go.ChangeShapes Go.WideShapes Go.Deep Go.WideElems Go.Maps

/-- What the abstract machine is told of a slice of bytes that came in. -/
def RowOfB (w : World) (a : Option Addr) (len cap : Nat) (xs : List Nat) : Prop :=
  xs.length = len ∧ len ≤ cap ∧ cap ≤ maxLen ∧ (∀ b ∈ xs, b ≤ 255) ∧ (cap = 0 ∨ ∃ b o c e fz, a = some ⟨b, o, none⟩ ∧ w.heap[b]? = some (.cells c e fz) ∧ ∀ i, i < len → c[o + i]? = some (.int .u8 ((xs.getD i 0 : Nat) : Int)))

section
variable {H : Type} {enc : TypeId × Value → H} {P : Program} {w : World} {held : Bool}
theorem open_bytesB {ts ti : TypeId} {fuel : Nat} {cs : List Value} {x : DataW H × List MemPlace} (hts : P.underlying ts = some (.slice ti)) (hti : P.underlying ti = some (.int .u8)) (hci : P.cellsOf ti = 1)
    (h : DataW.trod enc P w 0 (fun _ => true) held fuel ts cs = some x) : ∃ a len cap xs, cs = [.slice a len cap] ∧ RowOfB w a len cap xs := by
  rcases Go.ChangeShapes.open_ints hts hti hci h with ⟨rfl, _⟩ | ⟨a, len, cap, zs, rfl, _, hl, hm, hz, _, hel, hwf⟩
  · exact ⟨none, 0, 0, [], rfl, rfl, Nat.le_refl _, Nat.zero_le _, by simp, .inl rfl⟩
  · have hzl : zs.length = cap := by simpa using hz
    have hby : ∀ n ∈ zs, 0 ≤ n ∧ n ≤ 255 := fun n hn => by
      have h1 := hwf n hn
      unfold Lit.wf at h1
      rw [Bool.and_eq_true, decide_eq_true_iff, decide_eq_true_iff] at h1
      exact h1
    refine ⟨some a, len, cap, (zs.take len).map Int.toNat, rfl, by simp; omega, hl, hm, fun b hb => ?_, ?_⟩
    · obtain ⟨n, hn, rfl⟩ := List.mem_map.1 hb
      have := hby n (List.mem_of_mem_take hn)
      omega
    rcases Nat.eq_zero_or_pos cap with h0 | h0
    · exact .inl h0
    · refine .inr ?_
      have hc0 := hel 0 (by omega)
      obtain ⟨b, o, c, e, fz, ha, hh, _⟩ := cell_heap hc0
      have ha' : a = ⟨b, o, none⟩ := by simpa [Addr.add] using ha
      subst ha'
      refine ⟨b, o, c, e, fz, rfl, hh, fun i hi => ?_⟩
      have hcell := hel i (by omega)
      have hadd : (⟨b, o, none⟩ : Addr).add i = ⟨b, o + i, none⟩ := addr_add _ _ _
      rw [hadd] at hcell
      unfold World.cell? at hcell
      simp only [hh] at hcell
      have hil : i < zs.length := by omega
      have hbi := hby _ (getD_mem' (d := 0) hil)
      have hg : ((((zs.take len).map Int.toNat).getD i 0 : Nat) : Int) = zs.getD i 0 := by
        have e1 : ((zs.take len).map Int.toNat).getD i 0 = (zs.getD i 0).toNat := by simp [hi, hil]
        rw [e1]; omega
      rw [hg]
      simpa using hcell
end
theorem byL_get {bs : List Nat} {i : Nat} (h : i < bs.length) : (byL bs)[i]? = some (.val (.int .u8 ((bs.getD i 0 : Nat) : Int))) := by simp [byL, h]
/-- Bytes whose block has elements of one cell. -/
def BytesZ (M : Mem) (t o : Nat) (bs : List Nat) : Prop := Bytes M t o bs ∧ getEsz M t = some 1
theorem Inv.addBytesZ {G : Gh} {M : Mem} {w : World} (hi : Inv G M w) (hno : NoOwn M) {a : Option Addr} {len cap : Nat} {xs : List Nat} (h : RowOfB w a len cap xs) :
    ∃ (G' : Gh) (N : Mem) (t : Nat), Ext G G' ∧ Inv G' N w ∧ NoOwn N ∧ Pre M N ∧ VR1 G' (.ref t 0 len) (.slice a len cap) ∧ BytesZ N t 0 xs := by
  obtain ⟨h1, h2, h3, _, h4⟩ := h
  have key : ∃ G', Ext G G' ∧ Inv G' (M ++ [some (.row (byL xs) false 1)]) w ∧ NoOwn (M ++ [some (.row (byL xs) false 1)]) ∧ VR1 G' (.ref M.length 0 len) (.slice a len cap) := by
    refine hi.addRow hno h2 (by rw [byL_len]; omega) ?_
    rcases h4 with h0 | ⟨b, o, c, e, fz, ha, hh, hc⟩
    · refine .inl ⟨h0, ?_⟩
      have : xs = [] := List.eq_nil_of_length_eq_zero (by omega)
      rw [this]; rfl
    · refine .inr ⟨b, o, c, e, fz, ha, hh, fun j l hj => ?_⟩
      have hjl : j < xs.length := by
        rw [← byL_len]
        rcases Nat.lt_or_ge j (byL xs).length with h | h
        · exact h
        · rw [List.getElem?_eq_none h] at hj; cases hj
      rw [byL_get hjl] at hj
      cases hj
      exact ⟨_, hc j (by omega), rfl, rfl⟩
  obtain ⟨G', k1, k2, k3, k4⟩ := key
  exact ⟨G', _, _, k1, k2, k3, Pre.app _ _, k4, Has.new, by simp [getEsz]⟩
theorem RowOfB.le {w : World} {a : Option Addr} {len cap : Nat} {xs : List Nat} (h : RowOfB w a len cap xs) : xs.length ≤ 9223372036854775807 ∧ ∀ b ∈ xs, b ≤ 255 := by
  obtain ⟨h0, h1, h2, h3, _⟩ := h
  have := max63
  exact ⟨by omega, h3⟩
end Go.Ab
