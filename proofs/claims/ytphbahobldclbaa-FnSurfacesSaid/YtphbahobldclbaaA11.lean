/- Parts of the proof of FnSurfacesSaid: Jx C_Jy K_Jy Jy LFnSurfaces Re. -/
import Derived.Test.YtphbahobldclbaaA10
import Derived.Test.YtphbahobldclbaaA4
import Derived.Test.YtphbahobldclbaaA7
import Derived.Test.YtphbahobldclbaaA6
import Derived.Test.YtphbahobldclbaaA8
import Derived.Test.YtphbahobldclbaaA3
import Derived.Test.YtphbahobldclbaaProg
import Derived.KernelRfl
import Derived.Test.YtphbahobldclbaaA9
set_option linter.all false
/- Draws: hollow heaps, for bare faces and squares. -/
namespace Go.Ab
open Go
set_option linter.unusedSimpArgs false
set_option linter.unusedVariables false
set_option maxRecDepth 20000

theorem DrawN.keepV {M N N' : Mem} {p t o a w : Nat} {bs : List Nat} (h : DrawN M p t o bs a N) (hp : p < M.length) (ht : t < M.length) (hw : M.length ≤ w) (hl : N.length ≤ N'.length) (hk : ∀ q, q ≠ w → q < N.length → N'[q]? = N[q]?) : DrawN M p t o bs a N' :=
  h.keep hp ht (Nat.le_refl _) hl fun q q1 => hk q (by omega) (by have := h.2.1; omega)
def sidesL : List Cell := [⟨1, 1, 2⟩, ⟨2, 1, 1⟩, ⟨1, 2, 1⟩, ⟨1, 1, 1⟩, ⟨1, 1, 3⟩, ⟨2, 2, 1⟩, ⟨3, 1, 1⟩]
theorem d_hollow {p t o a : Nat} {bs : List Nat} {M : Mem} (h : CurAt M p t o bs a) (ha : a ≤ 980000) : CallsR PG F.spec_l1Cur_hollow [.ptr p 0] M fun v N => HeapE M v N ∧ DrawN M p t o bs (a + 180) N := by
  obtain ⟨⟨_, _, _, hpl'⟩, hB, _⟩ := id h
  have hpl := hpl'.lt
  have htM := hB.lt
  refine callsR_run K.spec_l1Cur_hollow rfl ?_
  simp (disch := omega) only [C.spec_l1Cur_hollow, ↓SXd, SXu, slBounds, ↓sop, ↓aop, ↓reduceIte, LV.cells, AOp.dst, LV.I, LV.B, LV.U, LV.S, LV.nil, Nat.reduceEqDiff, Nat.reduceAdd, Nat.reduceMul, Nat.reduceSub, Nat.reduceLeDiff, Nat.reduceBEq, Nat.reduceDiv, Nat.reduceMod, Int.reduceToNat, Int.reduceLT, Int.reduceLE, Int.reduceAdd, Int.reduceSub, Int.reduceMul, Int.reduceEq, Int.reduceNeg, reduceCtorEq, resV, resAll, ARes.ev, LV.flat, ite_true, ite_false, exists_eq_left', exists_eq_left, keyOf, implies_true, fillC, capOf]
  refine callR_of (d_one (h.pre (Pre.app _ _)) (by omega)) ?_
  rintro _ N1 ⟨⟨b, rfl⟩, hd1⟩
  have b2 : Live N1 M.length (.row [.I 0, .I 0, .I 0, .nil] true 0) := hd1.live Live.new (by omega)
  have hD1 : DrawN M p t o bs (a + 2) N1 := DrawN.of_pre (Pre.app _ _) hd1
  cases b with
  | true =>
    simp (disch := omega) only [↓SXd, SXu, slBounds, ↓sop, ↓aop, ↓reduceIte, LV.cells, AOp.dst, LV.I, LV.B, LV.U, LV.S, LV.nil, Nat.reduceEqDiff, Nat.reduceAdd, Nat.reduceMul, Nat.reduceSub, Nat.reduceLeDiff, Nat.reduceBEq, Nat.reduceDiv, Nat.reduceMod, Int.reduceToNat, Int.reduceLT, Int.reduceLE, Int.reduceAdd, Int.reduceSub, Int.reduceMul, Int.reduceEq, Int.reduceNeg, reduceCtorEq, resV, resAll, ARes.ev, LV.flat, ite_true, ite_false, exists_eq_left', exists_eq_left, keyOf, implies_true, fillC, capOf]
    refine callR_of (d_heapE hD1.1 (by omega)) ?_
    rintro _ N2 ⟨⟨x, y, z, cs, u, rfl, hu, hul, hcl⟩, hd2⟩
    have c2 := hd2.live b2 (by omega)
    have hD2 := hD1.trans hd2
    have hN1 := hD1.2.1
    have hb2l := b2.lt
    have hN2 := hd2.2.1
    simp (disch := omega) only [↓SXd, SXu, slBounds, ↓sop, ↓aop, ↓reduceIte, LV.cells, AOp.dst, LV.I, LV.B, LV.U, LV.S, LV.nil, Nat.reduceEqDiff, Nat.reduceAdd, Nat.reduceMul, Nat.reduceSub, Nat.reduceLeDiff, Nat.reduceBEq, Nat.reduceDiv, Nat.reduceMod, Int.reduceToNat, Int.reduceLT, Int.reduceLE, Int.reduceAdd, Int.reduceSub, Int.reduceMul, Int.reduceEq, Int.reduceNeg, reduceCtorEq, resV, resAll, ARes.ev, LV.flat, ite_true, ite_false, exists_eq_left', exists_eq_left, keyOf, implies_true, fillC, capOf]
    refine memK_box c2 (by simp) fun N3 k1 k2 k3 => ?_
    simp (disch := omega) only [k2.cells, ↓SXd, SXu, slBounds, ↓sop, ↓aop, ↓reduceIte, LV.cells, AOp.dst, LV.I, LV.B, LV.U, LV.S, LV.nil, Nat.reduceEqDiff, Nat.reduceAdd, Nat.reduceMul, Nat.reduceSub, Nat.reduceLeDiff, Nat.reduceBEq, Nat.reduceDiv, Nat.reduceMod, Int.reduceToNat, Int.reduceLT, Int.reduceLE, Int.reduceAdd, Int.reduceSub, Int.reduceMul, Int.reduceEq, Int.reduceNeg, reduceCtorEq, resV, resAll, ARes.ev, LV.flat, ite_true, ite_false, exists_eq_left', exists_eq_left, keyOf, implies_true, fillC, capOf]
    refine ⟨⟨x, y, z, cs, u, rfl, live_step hu (by omega) k3, by omega, hcl⟩, ?_⟩
    exact (hD2.keep (N' := N3) hpl htM (by omega) (by omega) fun q q1 => k3 q (by omega) (by omega))
  | false =>
  simp (disch := omega) only [↓SXd, SXu, slBounds, ↓sop, ↓aop, ↓reduceIte, LV.cells, AOp.dst, LV.I, LV.B, LV.U, LV.S, LV.nil, Nat.reduceEqDiff, Nat.reduceAdd, Nat.reduceMul, Nat.reduceSub, Nat.reduceLeDiff, Nat.reduceBEq, Nat.reduceDiv, Nat.reduceMod, Int.reduceToNat, Int.reduceLT, Int.reduceLE, Int.reduceAdd, Int.reduceSub, Int.reduceMul, Int.reduceEq, Int.reduceNeg, reduceCtorEq, resV, resAll, ARes.ev, LV.flat, ite_true, ite_false, exists_eq_left', exists_eq_left, keyOf, implies_true, fillC, capOf]
  have hcb : ∀ {b : Int}, b ∈ [(3 : Int), 4, 3] → 3 ≤ b ∧ b ≤ 4 := fun {b} hb => by
    simp only [List.mem_cons, List.mem_nil_iff, or_false] at hb
    omega
  have hb2l := b2.lt
  refine callR_of (d_amongNew (xs := [3, 4, 3]) hD1.1 (by omega) (by simp) (by simp)) ?_
  rintro _ N2 ⟨⟨x, rfl, hx⟩, hd2⟩
  have c2 := hd2.live b2 (by omega)
  have hD2 := hD1.trans hd2
  have hx := hcb hx
  simp (disch := omega) only [↓SXd, SXu, slBounds, ↓sop, ↓aop, ↓reduceIte, LV.cells, AOp.dst, LV.I, LV.B, LV.U, LV.S, LV.nil, Nat.reduceEqDiff, Nat.reduceAdd, Nat.reduceMul, Nat.reduceSub, Nat.reduceLeDiff, Nat.reduceBEq, Nat.reduceDiv, Nat.reduceMod, Int.reduceToNat, Int.reduceLT, Int.reduceLE, Int.reduceAdd, Int.reduceSub, Int.reduceMul, Int.reduceEq, Int.reduceNeg, reduceCtorEq, resV, resAll, ARes.ev, LV.flat, ite_true, ite_false, exists_eq_left', exists_eq_left, keyOf, implies_true, fillC, capOf]
  refine callR_of (d_amongNew (xs := [3, 4, 3]) hD2.1 (by omega) (by simp) (by simp)) ?_
  rintro _ N3 ⟨⟨y, rfl, hy⟩, hd3⟩
  have d2 := hd3.live c2 (by omega)
  have hD3 := hD2.trans hd3
  have hy := hcb hy
  simp (disch := omega) only [↓SXd, SXu, slBounds, ↓sop, ↓aop, ↓reduceIte, LV.cells, AOp.dst, LV.I, LV.B, LV.U, LV.S, LV.nil, Nat.reduceEqDiff, Nat.reduceAdd, Nat.reduceMul, Nat.reduceSub, Nat.reduceLeDiff, Nat.reduceBEq, Nat.reduceDiv, Nat.reduceMod, Int.reduceToNat, Int.reduceLT, Int.reduceLE, Int.reduceAdd, Int.reduceSub, Int.reduceMul, Int.reduceEq, Int.reduceNeg, reduceCtorEq, resV, resAll, ARes.ev, LV.flat, ite_true, ite_false, exists_eq_left', exists_eq_left, keyOf, implies_true, fillC, capOf]
  refine callR_of (d_amongNew (xs := [3, 4, 3]) hD3.1 (by omega) (by simp) (by simp)) ?_
  rintro _ N4 ⟨⟨z, rfl, hz⟩, hd4⟩
  have e2 := hd4.live d2 (by omega)
  have hD4 := hD3.trans hd4
  have hz := hcb hz
  have hS : Sides x y z := ⟨⟨by omega, by omega⟩, ⟨by omega, by omega⟩, ⟨by omega, by omega⟩⟩
  clear b2 c2 d2 hd2 hd3 hd4 hD1 hD2 hD3 hd1 hcb
  simp (disch := omega) only [↓SXd, SXu, slBounds, ↓sop, ↓aop, ↓reduceIte, LV.cells, AOp.dst, LV.I, LV.B, LV.U, LV.S, LV.nil, Nat.reduceEqDiff, Nat.reduceAdd, Nat.reduceMul, Nat.reduceSub, Nat.reduceLeDiff, Nat.reduceBEq, Nat.reduceDiv, Nat.reduceMod, Int.reduceToNat, Int.reduceLT, Int.reduceLE, Int.reduceAdd, Int.reduceSub, Int.reduceMul, Int.reduceEq, Int.reduceNeg, reduceCtorEq, resV, resAll, ARes.ev, LV.flat, ite_true, ite_false, exists_eq_left', exists_eq_left, keyOf, implies_true, fillC, capOf]
  refine callR_of (h_l2Box hS) ?_
  rintro _ N5 ⟨⟨u, rfl, hu, hul⟩, hp5⟩
  have hcl : (cellsOf x y z).length ≤ 65 := by
    have := vol_cast hS
    have : (cellsOf x y z).length = vol x y z := by simp [cellsOf]
    omega
  generalize cellsOf x y z = cs at hu hcl ⊢
  have hN4 := hD4.2.1
  have f2 := e2.pre hp5
  have hD5 : DrawN M p t o bs (a + 8) N5 := hD4.keep hpl htM (by omega) hp5.1 fun q q1 => hp5.2 q (by omega)
  have hN5 := hp5.1
  have hu5 := hu.lt
  simp (disch := omega) only [splice, ↓SXd, SXu, slBounds, ↓sop, ↓aop, ↓reduceIte, LV.cells, AOp.dst, LV.I, LV.B, LV.U, LV.S, LV.nil, Nat.reduceEqDiff, Nat.reduceAdd, Nat.reduceMul, Nat.reduceSub, Nat.reduceLeDiff, Nat.reduceBEq, Nat.reduceDiv, Nat.reduceMod, Int.reduceToNat, Int.reduceLT, Int.reduceLE, Int.reduceAdd, Int.reduceSub, Int.reduceMul, Int.reduceEq, Int.reduceNeg, reduceCtorEq, resV, resAll, ARes.ev, LV.flat, ite_true, ite_false, exists_eq_left', exists_eq_left, keyOf, implies_true, fillC, capOf]
  have c3 : Live (N5 ++ [some (.row [.I x, .I y, .I z, .ref u 0 cs.length] true 0)]) N5.length (.row [.I x, .I y, .I z, .ref u 0 cs.length] true 0) := Live.new
  have c2 := f2.app (L := [some (.row [.I x, .I y, .I z, .ref u 0 cs.length] true 0)])
  have cu := hu.app (L := [some (.row [.I x, .I y, .I z, .ref u 0 cs.length] true 0)])
  have hD6 : DrawN M p t o bs (a + 8) (N5 ++ [some (.row [.I x, .I y, .I z, .ref u 0 cs.length] true 0)]) := hD5.keep hpl htM (Nat.le_refl _) (by simp) fun q q1 => List.getElem?_append_left (by omega)
  generalize hm3 : N5.length = m3 at c3 ⊢
  generalize N5 ++ [some (Blk.row [.I x, .I y, .I z, .ref u 0 cs.length] true 0)] = N6 at c3 c2 cu hD6 ⊢
  have hmm : M.length < m3 := by have := e2.lt; omega
  have hum : M.length < u := by have := e2.lt; omega
  have hune : u ≠ m3 := by omega
  clear f2 hu hD5 hD4 e2 hp5 hul hN4 hN5 hu5 hm3
  refine callR_of (d_pick hD6.1 (by omega)) ?_
  rintro _ N7 ⟨⟨n, rfl, hn⟩, hd7⟩
  have hn5 : n < 5 := by omega
  have e2 := hd7.live c2 (by omega)
  have e3 := hd7.live c3 (by omega)
  have eu := hd7.live cu (by omega)
  have hD7 := hD6.trans hd7
  clear c2 c3 cu hD6 hd7
  simp (disch := omega) only [↓SXd, SXu, slBounds, ↓sop, ↓aop, ↓reduceIte, LV.cells, AOp.dst, LV.I, LV.B, LV.U, LV.S, LV.nil, Nat.reduceEqDiff, Nat.reduceAdd, Nat.reduceMul, Nat.reduceSub, Nat.reduceLeDiff, Nat.reduceBEq, Nat.reduceDiv, Nat.reduceMod, Int.reduceToNat, Int.reduceLT, Int.reduceLE, Int.reduceAdd, Int.reduceSub, Int.reduceMul, Int.reduceEq, Int.reduceNeg, reduceCtorEq, resV, resAll, ARes.ev, LV.flat, ite_true, ite_false, exists_eq_left', exists_eq_left, keyOf, implies_true, fillC, capOf]
  refine ev_loop (fun m fr N => ∃ (a' u : Nat) (cs : List Cell), a' + 10 * m ≤ a + 60 ∧ DrawN M p t o bs a' N ∧ Live N M.length (.row [.I 0, .I 0, .I 0, .nil] true 0) ∧ Live N m3 (.row [.I x, .I y, .I z, .ref u 0 cs.length] true 0) ∧ Live N u (.row (triL cs) true 3) ∧ cs.length ≤ 65 ∧ M.length < u ∧ u ≠ m3 ∧
    fr 0 = .ptr p 0 ∧ fr 2 = .ptr M.length 0 ∧ fr 3 = .ptr m3 0 ∧ fr 4 = .I m) n
    ⟨a + 10, u, cs, by omega, hD7, e2, e3, eu, hcl, hum, hune, rfl, rfl, rfl, rfl⟩ ?_
  clear e2 e3 eu hcl hum hune hD7
  rintro m fr N ⟨a', u, cs, ha', hD, b2, b3, bu, hcl, hum, hune, f0, f2, f3, f4⟩
  simp (disch := omega) only [f0, f2, f3, f4, ↓SXd, SXu, slBounds, ↓sop, ↓aop, ↓reduceIte, LV.cells, AOp.dst, LV.I, LV.B, LV.U, LV.S, LV.nil, Nat.reduceEqDiff, Nat.reduceAdd, Nat.reduceMul, Nat.reduceSub, Nat.reduceLeDiff, Nat.reduceBEq, Nat.reduceDiv, Nat.reduceMod, Int.reduceToNat, Int.reduceLT, Int.reduceLE, Int.reduceAdd, Int.reduceSub, Int.reduceMul, Int.reduceEq, Int.reduceNeg, reduceCtorEq, resV, resAll, ARes.ev, LV.flat, ite_true, ite_false, exists_eq_left', exists_eq_left, keyOf, implies_true, fillC, capOf]
  refine condC_dec (fun hlt => ?_) (fun hlt => ?_)
  · obtain ⟨m, rfl⟩ : ∃ k, m = k + 1 := ⟨m - 1, by omega⟩
    have hNl := hD.2.1
    have hb2l := b2.lt
    have hb3l := b3.lt
    have hbul := bu.lt
    simp (disch := omega) only [f0, f2, f3, f4, b3.cell, ↓SXd, SXu, slBounds, ↓sop, ↓aop, ↓reduceIte, LV.cells, AOp.dst, LV.I, LV.B, LV.U, LV.S, LV.nil, Nat.reduceEqDiff, Nat.reduceAdd, Nat.reduceMul, Nat.reduceSub, Nat.reduceLeDiff, Nat.reduceBEq, Nat.reduceDiv, Nat.reduceMod, Int.reduceToNat, Int.reduceLT, Int.reduceLE, Int.reduceAdd, Int.reduceSub, Int.reduceMul, Int.reduceEq, Int.reduceNeg, reduceCtorEq, resV, resAll, ARes.ev, LV.flat, ite_true, ite_false, exists_eq_left', exists_eq_left, keyOf, implies_true, fillC, capOf]
    have hD0 : DrawN M p t o bs a' (N ++ [none]) := hD.keep hpl htM (Nat.le_refl _) (by simp) fun q q1 => List.getElem?_append_left (by omega)
    refine callR_of (d_pick hD0.1 (by omega)) ?_
    rintro _ P1 ⟨⟨i1, rfl, hi1⟩, hd1⟩
    have hP1 := hd1.2.1
    rw [List.length_append, List.length_singleton] at hP1
    have g2 := hd1.live (b2.app (L := [none])) (by omega)
    have g3 := hd1.live (b3.app (L := [none])) (by omega)
    have gu := hd1.live (bu.app (L := [none])) (by omega)
    have hDa := (hD0.trans hd1).setN (k := N.length) (v := none) hpl htM (by omega)
    simp (disch := omega) only [f0, f2, f3, f4, List.set_set, ↓SXd, SXu, slBounds, ↓sop, ↓aop, ↓reduceIte, LV.cells, AOp.dst, LV.I, LV.B, LV.U, LV.S, LV.nil, Nat.reduceEqDiff, Nat.reduceAdd, Nat.reduceMul, Nat.reduceSub, Nat.reduceLeDiff, Nat.reduceBEq, Nat.reduceDiv, Nat.reduceMod, Int.reduceToNat, Int.reduceLT, Int.reduceLE, Int.reduceAdd, Int.reduceSub, Int.reduceMul, Int.reduceEq, Int.reduceNeg, reduceCtorEq, resV, resAll, ARes.ev, LV.flat, ite_true, ite_false, exists_eq_left', exists_eq_left, keyOf, implies_true, fillC, capOf]
    refine ⟨Live.only b3.app (g3.setN (by omega)), ?_⟩
    refine callR_of (d_pick hDa.1 (by omega)) ?_
    rintro _ P2 ⟨⟨i2, rfl, hi2⟩, hd2⟩
    have hP2 := hd2.2.1
    rw [List.length_set] at hP2
    have h2 := hd2.live (g2.setN (k := N.length) (v := none) (by omega)) (by omega)
    have h3 := hd2.live (g3.setN (k := N.length) (v := none) (by omega)) (by omega)
    have hu := hd2.live (gu.setN (k := N.length) (v := none) (by omega)) (by omega)
    have hDb := (hDa.trans hd2).setN (k := N.length) (v := none) hpl htM (by omega)
    have q1 : (P1.set N.length (some (Blk.row [LV.I 0, .I 0, .I 0] true 0)))[N.length]? = some (some (Blk.row [LV.I 0, .I 0, .I 0] true 0)) := List.getElem?_set_self (by omega)
    simp (disch := omega) only [f0, f2, f3, f4, List.set_set, q1, ↓SXd, SXu, slBounds, ↓sop, ↓aop, ↓reduceIte, LV.cells, AOp.dst, LV.I, LV.B, LV.U, LV.S, LV.nil, Nat.reduceEqDiff, Nat.reduceAdd, Nat.reduceMul, Nat.reduceSub, Nat.reduceLeDiff, Nat.reduceBEq, Nat.reduceDiv, Nat.reduceMod, Int.reduceToNat, Int.reduceLT, Int.reduceLE, Int.reduceAdd, Int.reduceSub, Int.reduceMul, Int.reduceEq, Int.reduceNeg, reduceCtorEq, resV, resAll, ARes.ev, LV.flat, ite_true, ite_false, exists_eq_left', exists_eq_left, keyOf, implies_true, fillC, capOf]
    refine ⟨Live.only (g3.setN (by omega)) (h3.setN (by omega)), ?_⟩
    refine callR_of (d_pick hDb.1 (by omega)) ?_
    rintro _ P3 ⟨⟨i3, rfl, hi3⟩, hd3⟩
    have hP3 := hd3.2.1
    rw [List.length_set] at hP3
    have j2 := (hd3.live (h2.setN (k := N.length) (v := none) (by omega)) (by omega)).setN (k := N.length) (v := (some (.row [.I 0, .I 0, .I 0] true 0))) (by omega)
    have j3 := (hd3.live (h3.setN (k := N.length) (v := none) (by omega)) (by omega)).setN (k := N.length) (v := (some (.row [.I 0, .I 0, .I 0] true 0))) (by omega)
    have ju := (hd3.live (hu.setN (k := N.length) (v := none) (by omega)) (by omega)).setN (k := N.length) (v := (some (.row [.I 0, .I 0, .I 0] true 0))) (by omega)
    have j5 : Live (P3.set N.length (some (.row [.I 0, .I 0, .I 0] true 0))) N.length (.row [.I 0, .I 0, .I 0] true 0) := Live.set_at (by omega)
    have hDc := (hDb.trans hd3).setN (k := N.length) (v := (some (.row [.I 0, .I 0, .I 0] true 0))) hpl htM (by omega)
    have q2 : (P2.set N.length (some (Blk.row [LV.I 0, .I 0, .I 0] true 0)))[N.length]? = some (some (Blk.row [LV.I 0, .I 0, .I 0] true 0)) := List.getElem?_set_self (by omega)
    simp (disch := omega) only [f0, f2, f3, f4, List.set_set, q2, splice, ↓SXd, SXu, slBounds, ↓sop, ↓aop, ↓reduceIte, LV.cells, AOp.dst, LV.I, LV.B, LV.U, LV.S, LV.nil, Nat.reduceEqDiff, Nat.reduceAdd, Nat.reduceMul, Nat.reduceSub, Nat.reduceLeDiff, Nat.reduceBEq, Nat.reduceDiv, Nat.reduceMod, Int.reduceToNat, Int.reduceLT, Int.reduceLE, Int.reduceAdd, Int.reduceSub, Int.reduceMul, Int.reduceEq, Int.reduceNeg, reduceCtorEq, resV, resAll, ARes.ev, LV.flat, ite_true, ite_false, exists_eq_left', exists_eq_left, keyOf, implies_true, fillC, capOf]
    generalize P3.set N.length (some (Blk.row [.I 0, .I 0, .I 0] true 0)) = P4 at j2 j3 ju j5 hDc ⊢
    generalize 1 + (i1 : Int) = c1
    generalize 1 + (i2 : Int) = c2
    generalize 1 + (i3 : Int) = c3
    have hP4 := hDc.2.1
    have j5l := j5.lt
    refine memK_box j5 (by simp) fun P5 k1 k2 k3 => ?_
    have l2 := live_step j2 (by omega) k3
    have l3 := live_step j3 (by omega) k3
    have lu := live_step ju (by omega) k3
    have hDd := hDc.keepV (w := N.length) hpl htM (by omega) (by omega) k3
    generalize hmk : N.length = mk at k2 j5l hNl hb2l hb3l hbul
    clear hd1 hd2 hd3 hDa hDb hDc hD0 hD b2 b3 bu g2 g3 gu h2 h3 hu j2 j3 ju j5 q1 q2 hmk k3 hP1 hP2 hP3
    have hmkP : mk < P5.length := by omega
    have l3l := l3.lt
    have lul := lu.lt
    have hfl : (cs.filter fun d => !decide (d = ⟨c1, c2, c3⟩)).length ≤ cs.length := List.length_filter_le _ _
    simp (disch := omega) only [f0, f2, f3, f4, l3.cells, k2.cells, ↓SXd, SXu, slBounds, ↓sop, ↓aop, ↓reduceIte, LV.cells, AOp.dst, LV.I, LV.B, LV.U, LV.S, LV.nil, Nat.reduceEqDiff, Nat.reduceAdd, Nat.reduceMul, Nat.reduceSub, Nat.reduceLeDiff, Nat.reduceBEq, Nat.reduceDiv, Nat.reduceMod, Int.reduceToNat, Int.reduceLT, Int.reduceLE, Int.reduceAdd, Int.reduceSub, Int.reduceMul, Int.reduceEq, Int.reduceNeg, reduceCtorEq, resV, resAll, ARes.ev, LV.flat, ite_true, ite_false, exists_eq_left', exists_eq_left, keyOf, implies_true, fillC, capOf]
    refine callK_of (h_l2Without lu.has (by omega)) ?_
    generalize (cs.filter fun d => !decide (d = ⟨c1, c2, c3⟩)) = cs1 at hfl ⊢
    simp (disch := omega) only [f0, f2, f3, f4, ↓SXd, SXu, slBounds, ↓sop, ↓aop, ↓reduceIte, LV.cells, AOp.dst, LV.I, LV.B, LV.U, LV.S, LV.nil, Nat.reduceEqDiff, Nat.reduceAdd, Nat.reduceMul, Nat.reduceSub, Nat.reduceLeDiff, Nat.reduceBEq, Nat.reduceDiv, Nat.reduceMod, Int.reduceToNat, Int.reduceLT, Int.reduceLE, Int.reduceAdd, Int.reduceSub, Int.reduceMul, Int.reduceEq, Int.reduceNeg, reduceCtorEq, resV, resAll, ARes.ev, LV.flat, ite_true, ite_false, exists_eq_left', exists_eq_left, keyOf, implies_true, fillC, capOf]
    refine memK_box l3.app (by simp) fun P6 r1 r2 r3 => ?_
    rw [List.length_append, List.length_singleton] at r1
    have n2 := live_step l2.app (by omega) r3
    have n5 := live_step k2.app (by omega) r3
    have nu : Live P6 P5.length (.row (triL cs1) true 3) := live_step Live.new (by omega) r3
    have hDe : DrawN M p t o bs (a' + 2 + 2 + 2) P6 := (hDd.keep (N' := P5 ++ [some (.row (triL cs1) true 3)]) hpl htM (Nat.le_refl _) (by simp) fun q hq => List.getElem?_append_left (by have := hDd.2.1; omega)).keepV (w := m3) hpl htM (by omega) (by rw [List.length_append, List.length_singleton]; omega) r3
    have hP5l := hDd.2.1
    clear l2 l3 lu k2 r3 hDd l3l lul k1
    generalize hu1 : P5.length = u1 at r2 nu r1 hP5l hmkP
    have hu1m : M.length < u1 := by omega
    have hu1k : mk < u1 := by omega
    have hu1n : m3 < u1 := by omega
    clear hu1
    simp (disch := omega) only [f0, f2, f3, f4, ↓SXd, SXu, slBounds, ↓sop, ↓aop, ↓reduceIte, LV.cells, AOp.dst, LV.I, LV.B, LV.U, LV.S, LV.nil, Nat.reduceEqDiff, Nat.reduceAdd, Nat.reduceMul, Nat.reduceSub, Nat.reduceLeDiff, Nat.reduceBEq, Nat.reduceDiv, Nat.reduceMod, Int.reduceToNat, Int.reduceLT, Int.reduceLE, Int.reduceAdd, Int.reduceSub, Int.reduceMul, Int.reduceEq, Int.reduceNeg, reduceCtorEq, resV, resAll, ARes.ev, LV.flat, ite_true, ite_false, exists_eq_left', exists_eq_left, keyOf, implies_true, fillC, capOf]
    refine callR_of (d_one hDe.1 (by omega)) ?_
    rintro _ P7 ⟨⟨b, rfl⟩, hd7⟩
    have s2 := hd7.live n2 (by omega)
    have s3 := hd7.live r2 (by omega)
    have s5 := hd7.live n5 (by omega)
    have su := hd7.live nu (by omega)
    have hDf := hDe.trans hd7
    clear n2 r2 n5 nu hd7 hDe
    cases b with
    | false =>
      simp (disch := omega) only [f0, f2, f3, f4, ↓SXd, SXu, slBounds, ↓sop, ↓aop, ↓reduceIte, LV.cells, AOp.dst, LV.I, LV.B, LV.U, LV.S, LV.nil, Nat.reduceEqDiff, Nat.reduceAdd, Nat.reduceMul, Nat.reduceSub, Nat.reduceLeDiff, Nat.reduceBEq, Nat.reduceDiv, Nat.reduceMod, Int.reduceToNat, Int.reduceLT, Int.reduceLE, Int.reduceAdd, Int.reduceSub, Int.reduceMul, Int.reduceEq, Int.reduceNeg, reduceCtorEq, resV, resAll, ARes.ev, LV.flat, ite_true, ite_false, exists_eq_left', exists_eq_left, keyOf, implies_true, fillC, capOf]
      exact ⟨m, by omega, a' + 2 + 2 + 2 + 2, u1, cs1, by omega, hDf, s2, s3, su, by omega, hu1m, by omega, f0, f2, f3, eqI (by omega)⟩
    | true =>
    simp (disch := omega) only [f0, f2, f3, f4, ↓SXd, SXu, slBounds, ↓sop, ↓aop, ↓reduceIte, LV.cells, AOp.dst, LV.I, LV.B, LV.U, LV.S, LV.nil, Nat.reduceEqDiff, Nat.reduceAdd, Nat.reduceMul, Nat.reduceSub, Nat.reduceLeDiff, Nat.reduceBEq, Nat.reduceDiv, Nat.reduceMod, Int.reduceToNat, Int.reduceLT, Int.reduceLE, Int.reduceAdd, Int.reduceSub, Int.reduceMul, Int.reduceEq, Int.reduceNeg, reduceCtorEq, resV, resAll, ARes.ev, LV.flat, ite_true, ite_false, exists_eq_left', exists_eq_left, keyOf, implies_true, fillC, capOf]
    refine callR_of (d_pick hDf.1 (by omega)) ?_
    rintro _ P8 ⟨⟨sd, rfl, hsd⟩, hd8⟩
    have t2 := hd8.live s2 (by omega)
    have t3 := hd8.live s3 (by omega)
    have t5 := hd8.live s5 (by omega)
    have tu := hd8.live su (by omega)
    have hDg := hDf.trans hd8
    clear s2 s3 s5 su hd8 hDf
    have hsd3 : sd < 3 := by omega
    have hdir : Dir (sd : Int) := by unfold Dir; omega
    have hsid := sideOf_in hS (sd : Int)
    generalize hA : (sd : Int) = sI at hdir hsid ⊢
    simp (disch := omega) only [f0, f2, f3, f4, ↓SXd, SXu, slBounds, ↓sop, ↓aop, ↓reduceIte, LV.cells, AOp.dst, LV.I, LV.B, LV.U, LV.S, LV.nil, Nat.reduceEqDiff, Nat.reduceAdd, Nat.reduceMul, Nat.reduceSub, Nat.reduceLeDiff, Nat.reduceBEq, Nat.reduceDiv, Nat.reduceMod, Int.reduceToNat, Int.reduceLT, Int.reduceLE, Int.reduceAdd, Int.reduceSub, Int.reduceMul, Int.reduceEq, Int.reduceNeg, reduceCtorEq, resV, resAll, ARes.ev, LV.flat, ite_true, ite_false, exists_eq_left', exists_eq_left, keyOf, implies_true, fillC, capOf]
    refine ev_loop (fun m' fr N => ∃ (k u : Nat) (cs : List Cell) (e1 e2 e3 : Int), k + m' = 5 ∧ DrawN M p t o bs (a' + 2 + 2 + 2 + 2 + 2) N ∧ Live N M.length (.row [.I 0, .I 0, .I 0, .nil] true 0) ∧ Live N m3 (.row [.I x, .I y, .I z, .ref u 0 cs.length] true 0) ∧ Live N u (.row (triL cs) true 3) ∧ Live N mk (.row [.I e1, .I e2, .I e3] true 0) ∧ cs.length ≤ 65 ∧ M.length < u ∧ m3 < u ∧ mk < u ∧
      fr 0 = .ptr p 0 ∧ fr 2 = .ptr M.length 0 ∧ fr 3 = .ptr m3 0 ∧ fr 4 = .I (m + 1 : Nat) ∧ fr 5 = .ptr mk 0 ∧ fr 6 = .I sI ∧ fr 7 = .I k) 5
      ⟨0, u1, cs1, c1, c2, c3, rfl, hDg, t2, t3, tu, t5, by omega, hu1m, hu1n, hu1k, f0, f2, f3, f4, rfl, rfl, rfl⟩ ?_
    clear t2 t3 tu t5 hDg hu1m hu1n hu1k hfl f0 f2 f3 f4
    rintro m' fr Q ⟨k, u, cs, e1, e2, e3, hk, hD, b2, b3, bu, b5, hcl, hu1, hu2, hu3, f0, f2, f3, f4, f5, f6, f7⟩
    simp (disch := omega) only [f0, f2, f3, f4, f5, f6, f7, b3.cells, ↓SXd, SXu, slBounds, ↓sop, ↓aop, ↓reduceIte, LV.cells, AOp.dst, LV.I, LV.B, LV.U, LV.S, LV.nil, Nat.reduceEqDiff, Nat.reduceAdd, Nat.reduceMul, Nat.reduceSub, Nat.reduceLeDiff, Nat.reduceBEq, Nat.reduceDiv, Nat.reduceMod, Int.reduceToNat, Int.reduceLT, Int.reduceLE, Int.reduceAdd, Int.reduceSub, Int.reduceMul, Int.reduceEq, Int.reduceNeg, reduceCtorEq, resV, resAll, ARes.ev, LV.flat, ite_true, ite_false, exists_eq_left', exists_eq_left, keyOf, implies_true, fillC, capOf]
    refine callK_of (h_l2Long hdir) ?_
    simp (disch := omega) only [f0, f2, f3, f4, f5, f6, f7, ↓SXd, SXu, slBounds, ↓sop, ↓aop, ↓reduceIte, LV.cells, AOp.dst, LV.I, LV.B, LV.U, LV.S, LV.nil, Nat.reduceEqDiff, Nat.reduceAdd, Nat.reduceMul, Nat.reduceSub, Nat.reduceLeDiff, Nat.reduceBEq, Nat.reduceDiv, Nat.reduceMod, Int.reduceToNat, Int.reduceLT, Int.reduceLE, Int.reduceAdd, Int.reduceSub, Int.reduceMul, Int.reduceEq, Int.reduceNeg, reduceCtorEq, resV, resAll, ARes.ev, LV.flat, ite_true, ite_false, exists_eq_left', exists_eq_left, keyOf, implies_true, fillC, capOf]
    refine condC_dec (fun hlt2 => ?_) (fun hlt2 => ?_)
    · have hk4 : k < 4 := by omega
      have hb3l := b3.lt
      have hb5l := b5.lt
      have hbul := bu.lt
      have hQ := hD.2.1
      subst hA
      simp (disch := omega) only [f0, f2, f3, f4, f5, f6, f7, ↓SXd, SXu, slBounds, ↓sop, ↓aop, ↓reduceIte, LV.cells, AOp.dst, LV.I, LV.B, LV.U, LV.S, LV.nil, Nat.reduceEqDiff, Nat.reduceAdd, Nat.reduceMul, Nat.reduceSub, Nat.reduceLeDiff, Nat.reduceBEq, Nat.reduceDiv, Nat.reduceMod, Int.reduceToNat, Int.reduceLT, Int.reduceLE, Int.reduceAdd, Int.reduceSub, Int.reduceMul, Int.reduceEq, Int.reduceNeg, reduceCtorEq, resV, resAll, ARes.ev, LV.flat, ite_true, ite_false, exists_eq_left', exists_eq_left, keyOf, implies_true, fillC, capOf]
      refine memK_at b5 (show sd < 3 by omega) fun Q1 k1 k2 k3 => ?_
      have b2 := live_step b2 (by omega) k3
      have b3 := live_step b3 (by omega) k3
      have bu := live_step bu (by omega) k3
      have hD1 := hD.keepV (w := mk) hpl htM (by omega) (by omega) k3
      obtain ⟨g1, g2, g3, hg⟩ : ∃ g1 g2 g3 : Int, [LV.I e1, .I e2, .I e3].set sd (.I (k : Int)) = [.I g1, .I g2, .I g3] := by
        rcases (show sd = 0 ∨ sd = 1 ∨ sd = 2 by omega) with rfl | rfl | rfl
        · exact ⟨_, _, _, rfl⟩
        · exact ⟨_, _, _, rfl⟩
        · exact ⟨_, _, _, rfl⟩
      rw [hg] at k2
      clear b5 k3 hD
      have hfl : (cs.filter fun d => !decide (d = ⟨g1, g2, g3⟩)).length ≤ cs.length := List.length_filter_le _ _
      simp (disch := omega) only [f0, f2, f3, f4, f5, f6, f7, b3.cells, k2.cells, ↓SXd, SXu, slBounds, ↓sop, ↓aop, ↓reduceIte, LV.cells, AOp.dst, LV.I, LV.B, LV.U, LV.S, LV.nil, Nat.reduceEqDiff, Nat.reduceAdd, Nat.reduceMul, Nat.reduceSub, Nat.reduceLeDiff, Nat.reduceBEq, Nat.reduceDiv, Nat.reduceMod, Int.reduceToNat, Int.reduceLT, Int.reduceLE, Int.reduceAdd, Int.reduceSub, Int.reduceMul, Int.reduceEq, Int.reduceNeg, reduceCtorEq, resV, resAll, ARes.ev, LV.flat, ite_true, ite_false, exists_eq_left', exists_eq_left, keyOf, implies_true, fillC, capOf]
      refine callK_of (h_l2Without bu.has (by omega)) ?_
      generalize (cs.filter fun d => !decide (d = ⟨g1, g2, g3⟩)) = cs2 at hfl ⊢
      simp (disch := omega) only [f0, f2, f3, f4, f5, f6, f7, ↓SXd, SXu, slBounds, ↓sop, ↓aop, ↓reduceIte, LV.cells, AOp.dst, LV.I, LV.B, LV.U, LV.S, LV.nil, Nat.reduceEqDiff, Nat.reduceAdd, Nat.reduceMul, Nat.reduceSub, Nat.reduceLeDiff, Nat.reduceBEq, Nat.reduceDiv, Nat.reduceMod, Int.reduceToNat, Int.reduceLT, Int.reduceLE, Int.reduceAdd, Int.reduceSub, Int.reduceMul, Int.reduceEq, Int.reduceNeg, reduceCtorEq, resV, resAll, ARes.ev, LV.flat, ite_true, ite_false, exists_eq_left', exists_eq_left, keyOf, implies_true, fillC, capOf]
      refine memK_box b3.app (by simp) fun Q2 r1 r2 r3 => ?_
      rw [List.length_append, List.length_singleton] at r1
      have n2 := live_step b2.app (by omega) r3
      have n5 := live_step k2.app (by omega) r3
      have nu : Live Q2 Q1.length (.row (triL cs2) true 3) := live_step Live.new (by omega) r3
      have hD2 : DrawN M p t o bs (a' + 2 + 2 + 2 + 2 + 2) Q2 := (hD1.keep (N' := Q1 ++ [some (.row (triL cs2) true 3)]) hpl htM (Nat.le_refl _) (by simp) fun q hq => List.getElem?_append_left (by omega)).keepV (w := m3) hpl htM (by omega) (by rw [List.length_append, List.length_singleton]; omega) r3
      simp (disch := omega) only [f0, f2, f3, f4, f5, f6, f7, ↓SXd, SXu, slBounds, ↓sop, ↓aop, ↓reduceIte, LV.cells, AOp.dst, LV.I, LV.B, LV.U, LV.S, LV.nil, Nat.reduceEqDiff, Nat.reduceAdd, Nat.reduceMul, Nat.reduceSub, Nat.reduceLeDiff, Nat.reduceBEq, Nat.reduceDiv, Nat.reduceMod, Int.reduceToNat, Int.reduceLT, Int.reduceLE, Int.reduceAdd, Int.reduceSub, Int.reduceMul, Int.reduceEq, Int.reduceNeg, reduceCtorEq, resV, resAll, ARes.ev, LV.flat, ite_true, ite_false, exists_eq_left', exists_eq_left, keyOf, implies_true, fillC, capOf]
      exact ⟨m' - 1, by omega, k + 1, Q1.length, cs2, g1, g2, g3, by omega, hD2, n2, r2, nu, n5, by omega, by omega, by omega, by omega, f0, f2, f3, f4, f5, f6, eqI (natI _)⟩
    · simp (disch := omega) only [f0, f2, f3, f4, f5, f6, f7, ↓SXd, SXu, slBounds, ↓sop, ↓aop, ↓reduceIte, LV.cells, AOp.dst, LV.I, LV.B, LV.U, LV.S, LV.nil, Nat.reduceEqDiff, Nat.reduceAdd, Nat.reduceMul, Nat.reduceSub, Nat.reduceLeDiff, Nat.reduceBEq, Nat.reduceDiv, Nat.reduceMod, Int.reduceToNat, Int.reduceLT, Int.reduceLE, Int.reduceAdd, Int.reduceSub, Int.reduceMul, Int.reduceEq, Int.reduceNeg, reduceCtorEq, resV, resAll, ARes.ev, LV.flat, ite_true, ite_false, exists_eq_left', exists_eq_left, keyOf, implies_true, fillC, capOf]
      exact ⟨m, by omega, a' + 2 + 2 + 2 + 2 + 2, u, cs, by omega, hD, b2, b3, bu, hcl, hu1, by omega, f0, f2, f3, eqI (by omega)⟩
  · simp (disch := omega) only [f0, f2, f3, f4, b3.cells, ↓SXd, SXu, slBounds, ↓sop, ↓aop, ↓reduceIte, LV.cells, AOp.dst, LV.I, LV.B, LV.U, LV.S, LV.nil, Nat.reduceEqDiff, Nat.reduceAdd, Nat.reduceMul, Nat.reduceSub, Nat.reduceLeDiff, Nat.reduceBEq, Nat.reduceDiv, Nat.reduceMod, Int.reduceToNat, Int.reduceLT, Int.reduceLE, Int.reduceAdd, Int.reduceSub, Int.reduceMul, Int.reduceEq, Int.reduceNeg, reduceCtorEq, resV, resAll, ARes.ev, LV.flat, ite_true, ite_false, exists_eq_left', exists_eq_left, keyOf, implies_true, fillC, capOf]
    refine memK_box b2 (by simp) fun N3 k1 k2 k3 => ?_
    simp (disch := omega) only [f0, f2, f3, f4, k2.cells, ↓SXd, SXu, slBounds, ↓sop, ↓aop, ↓reduceIte, LV.cells, AOp.dst, LV.I, LV.B, LV.U, LV.S, LV.nil, Nat.reduceEqDiff, Nat.reduceAdd, Nat.reduceMul, Nat.reduceSub, Nat.reduceLeDiff, Nat.reduceBEq, Nat.reduceDiv, Nat.reduceMod, Int.reduceToNat, Int.reduceLT, Int.reduceLE, Int.reduceAdd, Int.reduceSub, Int.reduceMul, Int.reduceEq, Int.reduceNeg, reduceCtorEq, resV, resAll, ARes.ev, LV.flat, ite_true, ite_false, exists_eq_left', exists_eq_left, keyOf, implies_true, fillC, capOf]
    have hNl := hD.2.1
    refine ⟨⟨x, y, z, cs, u, rfl, live_step bu (by omega) k3, by omega, hcl⟩, ?_⟩
    exact (hD.keep (N' := N3) hpl htM (by omega) (by omega) fun q q1 => k3 q (by omega) (by omega))
section
variable {t o : Nat} {bs : List Nat} {M : Mem} (hB : Bytes M t o bs) (h255 : ∀ b ∈ bs, b ≤ 255) (hl : bs.length ≤ 1000000000)
include hB h255 hl
theorem d_DrawBareFaces : CallsR PG F.spec_DrawBareFaces [.ref t o bs.length] M fun v N => HeapE M v N ∧ Pre M N := by
  have htM := hB.lt
  refine callsR_run K.spec_DrawBareFaces rfl ?_
  simp (disch := omega) only [C.spec_DrawBareFaces, splice, ↓SXd, SXu, slBounds, ↓sop, ↓aop, ↓reduceIte, LV.cells, AOp.dst, LV.I, LV.B, LV.U, LV.S, LV.nil, Nat.reduceEqDiff, Nat.reduceAdd, Nat.reduceMul, Nat.reduceSub, Nat.reduceLeDiff, Nat.reduceBEq, Nat.reduceDiv, Nat.reduceMod, Int.reduceToNat, Int.reduceLT, Int.reduceLE, Int.reduceAdd, Int.reduceSub, Int.reduceMul, Int.reduceEq, Int.reduceNeg, reduceCtorEq, resV, resAll, ARes.ev, LV.flat, ite_true, ite_false, exists_eq_left', exists_eq_left, keyOf, implies_true, fillC, capOf]
  have hc := CurAt.new2 (b := some (.row [.I 0, .I 0, .I 0, .nil] true 0)) hB h255 hl
  refine callR_of (d_hollow hc (by omega)) ?_
  rintro _ N1 ⟨⟨x, y, z, cs, u, rfl, hu, hul, hcl⟩, hd1⟩
  rw [List.length_append] at hul
  simp only [List.length_cons, List.length_nil] at hul
  have b2 : Live N1 M.length (.row [.I 0, .I 0, .I 0, .nil] true 0) := hd1.live Live.new (by omega)
  have hP1 : Pre M N1 := hd1.pre (Pre.app _ _) (by omega)
  simp (disch := omega) only [↓SXd, SXu, slBounds, ↓sop, ↓aop, ↓reduceIte, LV.cells, AOp.dst, LV.I, LV.B, LV.U, LV.S, LV.nil, Nat.reduceEqDiff, Nat.reduceAdd, Nat.reduceMul, Nat.reduceSub, Nat.reduceLeDiff, Nat.reduceBEq, Nat.reduceDiv, Nat.reduceMod, Int.reduceToNat, Int.reduceLT, Int.reduceLE, Int.reduceAdd, Int.reduceSub, Int.reduceMul, Int.reduceEq, Int.reduceNeg, reduceCtorEq, resV, resAll, ARes.ev, LV.flat, ite_true, ite_false, exists_eq_left', exists_eq_left, keyOf, implies_true, fillC, capOf]
  refine memK_box b2 (by simp) fun N5 i1 i2 i3 => ?_
  simp (disch := omega) only [i2.cells, ↓SXd, SXu, slBounds, ↓sop, ↓aop, ↓reduceIte, LV.cells, AOp.dst, LV.I, LV.B, LV.U, LV.S, LV.nil, Nat.reduceEqDiff, Nat.reduceAdd, Nat.reduceMul, Nat.reduceSub, Nat.reduceLeDiff, Nat.reduceBEq, Nat.reduceDiv, Nat.reduceMod, Int.reduceToNat, Int.reduceLT, Int.reduceLE, Int.reduceAdd, Int.reduceSub, Int.reduceMul, Int.reduceEq, Int.reduceNeg, reduceCtorEq, resV, resAll, ARes.ev, LV.flat, ite_true, ite_false, exists_eq_left', exists_eq_left, keyOf, implies_true, fillC, capOf]
  exact ⟨⟨x, y, z, cs, u, rfl, live_step hu (by omega) i3, by omega, hcl⟩, pre_step hP1 (by omega) (j := 0) i1 i3⟩
theorem d_DrawBareSquares : CallsR PG F.spec_DrawBareSquares [.ref t o bs.length] M fun v N => (∃ (hv : LV) (k : Int), v = .tup [hv, .I k] ∧ HeapE M hv N) ∧ Pre M N := by
  have htM := hB.lt
  refine callsR_run K.spec_DrawBareSquares rfl ?_
  simp (disch := omega) only [C.spec_DrawBareSquares, splice, ↓SXd, SXu, slBounds, ↓sop, ↓aop, ↓reduceIte, LV.cells, AOp.dst, LV.I, LV.B, LV.U, LV.S, LV.nil, Nat.reduceEqDiff, Nat.reduceAdd, Nat.reduceMul, Nat.reduceSub, Nat.reduceLeDiff, Nat.reduceBEq, Nat.reduceDiv, Nat.reduceMod, Int.reduceToNat, Int.reduceLT, Int.reduceLE, Int.reduceAdd, Int.reduceSub, Int.reduceMul, Int.reduceEq, Int.reduceNeg, reduceCtorEq, resV, resAll, ARes.ev, LV.flat, ite_true, ite_false, exists_eq_left', exists_eq_left, keyOf, implies_true, fillC, capOf]
  have hc := CurAt.new2 (b := some (.row [.I 0, .I 0, .I 0, .nil] true 0)) hB h255 hl
  refine callR_of (d_hollow hc (by omega)) ?_
  rintro _ N1 ⟨⟨x, y, z, cs, u, rfl, hu, hul, hcl⟩, hd1⟩
  rw [List.length_append] at hul
  simp only [List.length_cons, List.length_nil] at hul
  have b2 : Live N1 M.length (.row [.I 0, .I 0, .I 0, .nil] true 0) := hd1.live Live.new (by omega)
  have hlN := hd1.2.1
  rw [List.length_append] at hlN
  simp only [List.length_cons, List.length_nil] at hlN
  simp (disch := omega) only [↓SXd, SXu, slBounds, ↓sop, ↓aop, ↓reduceIte, LV.cells, AOp.dst, LV.I, LV.B, LV.U, LV.S, LV.nil, Nat.reduceEqDiff, Nat.reduceAdd, Nat.reduceMul, Nat.reduceSub, Nat.reduceLeDiff, Nat.reduceBEq, Nat.reduceDiv, Nat.reduceMod, Int.reduceToNat, Int.reduceLT, Int.reduceLE, Int.reduceAdd, Int.reduceSub, Int.reduceMul, Int.reduceEq, Int.reduceNeg, reduceCtorEq, resV, resAll, ARes.ev, LV.flat, ite_true, ite_false, exists_eq_left', exists_eq_left, keyOf, implies_true, fillC, capOf]
  refine callR_of (d_direction hd1.1 (by omega)) ?_
  rintro _ N2 ⟨⟨k, rfl⟩, hd2⟩
  have c2 := hd2.live b2 (by omega)
  have cu := hd2.live hu (by omega)
  have hP1 : Pre M N2 := ((DrawN.trans (M := M ++ [some (.row [.I 0, .I 0, .I 0, .nil] true 0), some (.row [.ref t o bs.length, .I 0, .val (.int .u64 0)] true 0)]) hd1 hd2)).pre (Pre.app _ _) (by omega)
  simp (disch := omega) only [↓SXd, SXu, slBounds, ↓sop, ↓aop, ↓reduceIte, LV.cells, AOp.dst, LV.I, LV.B, LV.U, LV.S, LV.nil, Nat.reduceEqDiff, Nat.reduceAdd, Nat.reduceMul, Nat.reduceSub, Nat.reduceLeDiff, Nat.reduceBEq, Nat.reduceDiv, Nat.reduceMod, Int.reduceToNat, Int.reduceLT, Int.reduceLE, Int.reduceAdd, Int.reduceSub, Int.reduceMul, Int.reduceEq, Int.reduceNeg, reduceCtorEq, resV, resAll, ARes.ev, LV.flat, ite_true, ite_false, exists_eq_left', exists_eq_left, keyOf, implies_true, fillC, capOf]
  refine memK_box c2 (by simp) fun N5 i1 i2 i3 => ?_
  simp (disch := omega) only [i2.cells, ↓SXd, SXu, slBounds, ↓sop, ↓aop, ↓reduceIte, LV.cells, AOp.dst, LV.I, LV.B, LV.U, LV.S, LV.nil, Nat.reduceEqDiff, Nat.reduceAdd, Nat.reduceMul, Nat.reduceSub, Nat.reduceLeDiff, Nat.reduceBEq, Nat.reduceDiv, Nat.reduceMod, Int.reduceToNat, Int.reduceLT, Int.reduceLE, Int.reduceAdd, Int.reduceSub, Int.reduceMul, Int.reduceEq, Int.reduceNeg, reduceCtorEq, resV, resAll, ARes.ev, LV.flat, ite_true, ite_false, exists_eq_left', exists_eq_left, keyOf, implies_true, fillC, capOf]
  exact ⟨⟨_, k, rfl, x, y, z, cs, u, rfl, live_step cu (by omega) i3, by omega, hcl⟩, pre_step hP1 (by omega) (j := 0) i1 i3⟩
end
end Go.Ab

/- The abstract code of some functions (written by a program of mine from the translation, by way of prepF). -/
namespace Go.Ab.C
open Go.Ab
def laws_rSum : AFn :=
 ⟨1, 18, [.tmp 2],
 .seq (.ops [(none, .mv 2 (.c (.I 0)))])
 (.seq (.ops [(none, .mv 3 (.c (.I 0)))])
 (.seq (.seq (.ops [(none, .mv 4 (.c (.I 0)))])
 (.block 0 (.loop (.seq (.seq (.ops [(none, .mv 5 (.t 4)),
 (none, .mv 6 (.t 0)),
 (none, .len 7 (.t 6)),
 (none, .bin 8 .lss (.t 5) (.t 7))])
 (.cond (.t 8) (.skip)
 (.exit 0)))
 (.seq (.block 1 (.ops [(none, .mv 11 (.t 3)),
 (none, .mv 12 (.t 0)),
 (none, .mv 13 (.t 4)),
 (none, .idxS 14 1 (.t 12) (.t 13)),
 (none, .load1 15 (.t 14)),
 (none, .bin 16 .add (.t 11) (.t 15)),
 (none, .mv 3 (.t 16))]))
 (.ops [(none, .mv 9 (.t 4)),
 (none, .bin 10 .add (.t 9) (.c (.I 1))),
 (none, .mv 4 (.t 10))]))))))
 (.seq (.ops [(none, .mv 17 (.t 3)),
 (none, .mv 2 (.t 17))])
 (.ret))))⟩
end Go.Ab.C

/- That the program has this code. -/
namespace Go.Ab.K
open Go Go.Ab
theorem laws_rSum : prepF Go.Proofs.Try.prog F.laws_rSum = some C.laws_rSum := by kernel_rfl
end Go.Ab.K

/- Contracts: the laws' sums of numbers. -/
namespace Go.Ab
open Go
set_option linter.unusedSimpArgs false
set_option linter.unusedVariables false
set_option maxRecDepth 20000

theorem take_bound {l : List Int} (hb : ∀ i, 0 ≤ l.getD i 0 ∧ l.getD i 0 ≤ 1000000) : ∀ {k : Nat}, k ≤ l.length → 0 ≤ litSum (l.take k) ∧ litSum (l.take k) ≤ k * 1000000
  | 0, _ => by simp [litSum]
  | k + 1, h => by
    rw [litSum_take (by omega)]
    have := take_bound hb (k := k) (by omega)
    have := hb k
    omega
theorem k_rSum {l : List Int} {v : LV} {M : Mem} (h : IntsV M v l) (hn : l.length ≤ 1000000) (hb : ∀ i, 0 ≤ l.getD i 0 ∧ l.getD i 0 ≤ 1000000) : CallsTo PG F.laws_rSum [v] M (.I (litSum l)) M := by
  have hlv := h.lenV
  refine calls_run K.laws_rSum rfl ?_
  simp (disch := omega) only [C.laws_rSum, ↓SXd, SXu, slBounds, ↓sop, ↓aop, ↓reduceIte, LV.cells, AOp.dst, LV.I, LV.B, LV.U, LV.S, LV.nil, Nat.reduceEqDiff, Nat.reduceAdd, Nat.reduceMul, Nat.reduceSub, Nat.reduceLeDiff, Nat.reduceBEq, Nat.reduceDiv, Nat.reduceMod, Int.reduceToNat, Int.reduceLT, Int.reduceLE, Int.reduceAdd, Int.reduceSub, Int.reduceMul, Int.reduceEq, Int.reduceNeg, reduceCtorEq, resV, resAll, ARes.ev, LV.flat, ite_true, ite_false, exists_eq_left', exists_eq_left, keyOf, implies_true, fillC, capOf]
  refine ev_loop (fun m fr M' => ∃ k : Nat, k + m = l.length ∧ M' = M ∧ fr 0 = v ∧ fr 3 = .I (litSum (l.take k)) ∧ fr 4 = .I k) l.length ⟨0, by omega, rfl, rfl, rfl, rfl⟩ ?_
  rintro m fr M' ⟨k, hk, rfl, f0, f3, f4⟩
  simp (disch := omega) only [f0, f3, f4, hlv, ↓SXd, SXu, slBounds, ↓sop, ↓aop, ↓reduceIte, LV.cells, AOp.dst, LV.I, LV.B, LV.U, LV.S, LV.nil, Nat.reduceEqDiff, Nat.reduceAdd, Nat.reduceMul, Nat.reduceSub, Nat.reduceLeDiff, Nat.reduceBEq, Nat.reduceDiv, Nat.reduceMod, Int.reduceToNat, Int.reduceLT, Int.reduceLE, Int.reduceAdd, Int.reduceSub, Int.reduceMul, Int.reduceEq, Int.reduceNeg, reduceCtorEq, resV, resAll, ARes.ev, LV.flat, ite_true, ite_false, exists_eq_left', exists_eq_left, keyOf, implies_true, fillC, capOf]
  refine condC_dec (fun hlt => ?_) (fun hlt => ?_)
  · have hkl : k < l.length := by omega
    have hst := litSum_take hkl
    have h1 := take_bound hb (k := k) (by omega)
    have h2 := hb k
    obtain ⟨t, o, rfl, hg⟩ := h.at (k := k) hkl
    generalize litSum (l.take k) = a at f3 hst h1
    simp (disch := omega) only [f0, f3, f4, hg, Nat.mul_one, ↓SXd, SXu, slBounds, ↓sop, ↓aop, ↓reduceIte, LV.cells, AOp.dst, LV.I, LV.B, LV.U, LV.S, LV.nil, Nat.reduceEqDiff, Nat.reduceAdd, Nat.reduceMul, Nat.reduceSub, Nat.reduceLeDiff, Nat.reduceBEq, Nat.reduceDiv, Nat.reduceMod, Int.reduceToNat, Int.reduceLT, Int.reduceLE, Int.reduceAdd, Int.reduceSub, Int.reduceMul, Int.reduceEq, Int.reduceNeg, reduceCtorEq, resV, resAll, ARes.ev, LV.flat, ite_true, ite_false, exists_eq_left', exists_eq_left, keyOf, implies_true, fillC, capOf]
    exact ⟨m - 1, by omega, k + 1, by omega, rfl, f0, eqI hst.symm, eqI (natI _)⟩
  · have hkl : k = l.length := by omega
    subst hkl
    rw [List.take_length] at f3
    simp (disch := omega) only [f0, f3, f4, ↓SXd, SXu, slBounds, ↓sop, ↓aop, ↓reduceIte, LV.cells, AOp.dst, LV.I, LV.B, LV.U, LV.S, LV.nil, Nat.reduceEqDiff, Nat.reduceAdd, Nat.reduceMul, Nat.reduceSub, Nat.reduceLeDiff, Nat.reduceBEq, Nat.reduceDiv, Nat.reduceMod, Int.reduceToNat, Int.reduceLT, Int.reduceLE, Int.reduceAdd, Int.reduceSub, Int.reduceMul, Int.reduceEq, Int.reduceNeg, reduceCtorEq, resV, resAll, ARes.ev, LV.flat, ite_true, ite_false, exists_eq_left', exists_eq_left, keyOf, implies_true, fillC, capOf]
    exact cmp_drop0 rfl
end Go.Ab

/- The law of surfaces. -/
namespace Go.Ab
open Go
set_option linter.unusedSimpArgs false
set_option linter.unusedVariables false
set_option maxRecDepth 20000

def HeapGL (M : Mem) (G : Hp) (b : Bool) (v : LV) (N : Mem) : Prop := ∃ u : Nat, v = .tup [.agg [.I G.x, .I G.y, .I G.z, .ref u 0 G.cs.length], .B b] ∧ Live N u (.row (triL G.cs) true 3) ∧ Pre M N
def HeapGT (M : Mem) (G : Hp) (b : Bool) (v : LV) (N : Mem) : Prop := ∃ u : Nat, v = .tup [.agg [.I G.x, .I G.y, .I G.z, .ref u 0 G.cs.length], .B b] ∧ Tri N u 0 G.cs ∧ Pre M N
theorem heapGL_eq {f : FuncId} {args : List LV} {M : Mem} {r : Option Hp} {G : Hp} {b : Bool} (h : CallsR PG f args M (HeapX M r)) (h1 : r.getD Hp.none = G) (h2 : r.isSome = b) : CallsR PG f args M (HeapGL M G b) := by
  subst h1 h2
  exact h
theorem heapGT_eq {f : FuncId} {args : List LV} {M : Mem} {r : Option Hp} {G : Hp} {b : Bool} (h : CallsR PG f args M (HeapRes M r [])) (h1 : r.getD Hp.none = G) (h2 : r.isSome = b) : CallsR PG f args M (HeapGT M G b) := by
  subst h1 h2
  refine h.den (e := 3) ?_
  rintro v N ⟨w, rfl, hw, _, hp⟩
  rcases hw with ⟨rfl, hc⟩ | ⟨u, ex, rfl, hu⟩
  · refine .inr ⟨.tup [.agg [.I (r.getD Hp.none).x, .I (r.getD Hp.none).y, .I (r.getD Hp.none).z, .ref N.length 0 0], .B r.isSome], .inr ⟨_, _, rfl, rfl, .inr ⟨_, _, rfl, rfl, .rfl, .rfl, .rfl, .nil, trivial⟩, .rfl, trivial⟩, N.length, by rw [hc]; rfl, ?_, hp.trans (Pre.app _ _)⟩
    rw [hc]
    exact (Live.new (b := .row [] true 3)).has
  · rw [triL_append] at hu
    exact .inl ⟨u, rfl, hu.hasL, hp⟩
theorem g_FillX {x y z : Int} {t : Nat} {w : Bool} {cs : List Cell} {M : Mem} (h0 : Live M t (.row (triL cs) w 3)) (hn : cs.length ≤ 1000000000) :
    CallsR PG F.impl_FillCavities [.agg [.I x, .I y, .I z, .ref t 0 cs.length]] M (HeapX M (fillOf x y z cs)) := by
  have h : Tri M t 0 cs := h0.has
  refine heapX_of ?_
  refine callsR_run K.impl_FillCavities rfl ?_
  simp (disch := omega) only [C.impl_FillCavities, ↓SXd, SXu, slBounds, ↓sop, ↓aop, ↓reduceIte, LV.cells, AOp.dst, LV.I, LV.B, LV.U, LV.S, LV.nil, Nat.reduceEqDiff, Nat.reduceAdd, Nat.reduceMul, Nat.reduceSub, Nat.reduceLeDiff, Nat.reduceBEq, Nat.reduceDiv, Nat.reduceMod, Int.reduceToNat, Int.reduceLT, Int.reduceLE, Int.reduceAdd, Int.reduceSub, Int.reduceMul, Int.reduceEq, Int.reduceNeg, reduceCtorEq, resV, resAll, ARes.ev, LV.flat, ite_true, ite_false, exists_eq_left', exists_eq_left, keyOf, implies_true, fillC, capOf]
  refine callK_of (g_IsHeap h.app hn) ?_
  simp (disch := omega) only [↓SXd, SXu, slBounds, ↓sop, ↓aop, ↓reduceIte, LV.cells, AOp.dst, LV.I, LV.B, LV.U, LV.S, LV.nil, Nat.reduceEqDiff, Nat.reduceAdd, Nat.reduceMul, Nat.reduceSub, Nat.reduceLeDiff, Nat.reduceBEq, Nat.reduceDiv, Nat.reduceMod, Int.reduceToNat, Int.reduceLT, Int.reduceLE, Int.reduceAdd, Int.reduceSub, Int.reduceMul, Int.reduceEq, Int.reduceNeg, reduceCtorEq, resV, resAll, ARes.ev, LV.flat, ite_true, ite_false, exists_eq_left', exists_eq_left, keyOf, implies_true, fillC, capOf]
  by_cases hH : HeapOK x y z cs
  rotate_left
  · simp (disch := omega) only [hH, fillC, splice, ↓SXd, SXu, slBounds, ↓sop, ↓aop, ↓reduceIte, LV.cells, AOp.dst, LV.I, LV.B, LV.U, LV.S, LV.nil, Nat.reduceEqDiff, Nat.reduceAdd, Nat.reduceMul, Nat.reduceSub, Nat.reduceLeDiff, Nat.reduceBEq, Nat.reduceDiv, Nat.reduceMod, Int.reduceToNat, Int.reduceLT, Int.reduceLE, Int.reduceAdd, Int.reduceSub, Int.reduceMul, Int.reduceEq, Int.reduceNeg, reduceCtorEq, resV, resAll, ARes.ev, LV.flat, ite_true, ite_false, exists_eq_left', exists_eq_left, keyOf, implies_true, fillC, capOf]
    exact heapX_no (if_neg hH) rfl (Pre.app _ _)
  have hS := hH.1
  have hif : fillOf x y z cs = some ⟨x, y, z, filL x y z cs⟩ := if_pos hH
  rw [hif]
  simp (disch := omega) only [hH, ↓SXd, SXu, slBounds, ↓sop, ↓aop, ↓reduceIte, LV.cells, AOp.dst, LV.I, LV.B, LV.U, LV.S, LV.nil, Nat.reduceEqDiff, Nat.reduceAdd, Nat.reduceMul, Nat.reduceSub, Nat.reduceLeDiff, Nat.reduceBEq, Nat.reduceDiv, Nat.reduceMod, Int.reduceToNat, Int.reduceLT, Int.reduceLE, Int.reduceAdd, Int.reduceSub, Int.reduceMul, Int.reduceEq, Int.reduceNeg, reduceCtorEq, resV, resAll, ARes.ev, LV.flat, ite_true, ite_false, exists_eq_left', exists_eq_left, keyOf, implies_true, fillC, capOf]
  refine callK_of (g_box) ?_
  simp (disch := omega) only [↓SXd, SXu, slBounds, ↓sop, ↓aop, ↓reduceIte, LV.cells, AOp.dst, LV.I, LV.B, LV.U, LV.S, LV.nil, Nat.reduceEqDiff, Nat.reduceAdd, Nat.reduceMul, Nat.reduceSub, Nat.reduceLeDiff, Nat.reduceBEq, Nat.reduceDiv, Nat.reduceMod, Int.reduceToNat, Int.reduceLT, Int.reduceLE, Int.reduceAdd, Int.reduceSub, Int.reduceMul, Int.reduceEq, Int.reduceNeg, reduceCtorEq, resV, resAll, ARes.ev, LV.flat, ite_true, ite_false, exists_eq_left', exists_eq_left, keyOf, implies_true, fillC, capOf]
  refine callK_of (g_cubes h.app hn hS (fun c hc => hH.mem hc)) ?_
  simp (disch := omega) only [↓SXd, SXu, slBounds, ↓sop, ↓aop, ↓reduceIte, LV.cells, AOp.dst, LV.I, LV.B, LV.U, LV.S, LV.nil, Nat.reduceEqDiff, Nat.reduceAdd, Nat.reduceMul, Nat.reduceSub, Nat.reduceLeDiff, Nat.reduceBEq, Nat.reduceDiv, Nat.reduceMod, Int.reduceToNat, Int.reduceLT, Int.reduceLE, Int.reduceAdd, Int.reduceSub, Int.reduceMul, Int.reduceEq, Int.reduceNeg, reduceCtorEq, resV, resAll, ARes.ev, LV.flat, ite_true, ite_false, exists_eq_left', exists_eq_left, keyOf, implies_true, fillC, capOf]
  refine callK_of (g_enclosed h.app hn hH) ?_
  simp (disch := omega) only [↓SXd, SXu, slBounds, ↓sop, ↓aop, ↓reduceIte, LV.cells, AOp.dst, LV.I, LV.B, LV.U, LV.S, LV.nil, Nat.reduceEqDiff, Nat.reduceAdd, Nat.reduceMul, Nat.reduceSub, Nat.reduceLeDiff, Nat.reduceBEq, Nat.reduceDiv, Nat.reduceMod, Int.reduceToNat, Int.reduceLT, Int.reduceLE, Int.reduceAdd, Int.reduceSub, Int.reduceMul, Int.reduceEq, Int.reduceNeg, reduceCtorEq, resV, resAll, ARes.ev, LV.flat, ite_true, ite_false, exists_eq_left', exists_eq_left, keyOf, implies_true, fillC, capOf]
  rw [bs_or hS]
  refine callH_of (g_heap hS) ?_
  intro tn N2 htn hp2 hnr
  simp (disch := omega) only [↓SXd, SXu, slBounds, ↓sop, ↓aop, ↓reduceIte, LV.cells, AOp.dst, LV.I, LV.B, LV.U, LV.S, LV.nil, Nat.reduceEqDiff, Nat.reduceAdd, Nat.reduceMul, Nat.reduceSub, Nat.reduceLeDiff, Nat.reduceBEq, Nat.reduceDiv, Nat.reduceMod, Int.reduceToNat, Int.reduceLT, Int.reduceLE, Int.reduceAdd, Int.reduceSub, Int.reduceMul, Int.reduceEq, Int.reduceNeg, reduceCtorEq, resV, resAll, ARes.ev, LV.flat, ite_true, ite_false, exists_eq_left', exists_eq_left, keyOf, implies_true, fillC, capOf]
  refine memK_box ((Live.newj (j := 1) rfl).pre hp2) (by simp) fun N3 k1 k2 k3 => ?_
  have hN2 := hp2.1
  simp (disch := omega) only [k2.cells, ↓SXd, SXu, slBounds, ↓sop, ↓aop, ↓reduceIte, LV.cells, AOp.dst, LV.I, LV.B, LV.U, LV.S, LV.nil, Nat.reduceEqDiff, Nat.reduceAdd, Nat.reduceMul, Nat.reduceSub, Nat.reduceLeDiff, Nat.reduceBEq, Nat.reduceDiv, Nat.reduceMod, Int.reduceToNat, Int.reduceLT, Int.reduceLE, Int.reduceAdd, Int.reduceSub, Int.reduceMul, Int.reduceEq, Int.reduceNeg, reduceCtorEq, resV, resAll, ARes.ev, LV.flat, ite_true, ite_false, exists_eq_left', exists_eq_left, keyOf, implies_true, fillC, capOf]
  simp only [List.length_append, List.length_cons, List.length_nil] at htn
  exact .inl ⟨⟨tn, rfl, live_step hnr (by omega) k3, by omega⟩, pre_step ((Pre.app _ _).trans hp2) (by omega) (j := 0) k1 k3⟩
theorem eqs_self {a b c d f g : Int} : eqV true 6 (.agg [.I a, .I b, .I c, .I d, .I f, .I g]) (.agg [.I a, .I b, .I c, .I d, .I f, .I g]) = some (.B false) := by
  simp [eqV, eqC, LV.I]
/-- What all functions answer for a heap, in one. -/
theorem surf_facts (x y z : Int) (cs : List Cell) : ∃ (n0 n1 n2 n3 n4 n5 s o tc : Nat) (G : Hp) (b : Bool),
    (if HeapOK x y z cs then [LV.I (faceN cs 0 : Nat), .I (faceN cs 1 : Nat), .I (faceN cs 2 : Nat), .I (faceN cs 3 : Nat), .I (faceN cs 4 : Nat), .I (faceN cs 5 : Nat)] else [.I 0, .I 0, .I 0, .I 0, .I 0, .I 0]) = [.I n0, .I n1, .I n2, .I n3, .I n4, .I n5] ∧ decide (HeapOK x y z cs) = b ∧
    (if HeapOK x y z cs then surfN cs else 0) = s ∧ (if HeapOK x y z cs then surfN (filL x y z cs) else 0) = o ∧ (if HeapOK x y z cs then nearSum cs / 2 else 0) = tc ∧ (surfOf x y z cs).getD 0 = s ∧ (surfOf x y z cs).isSome = b ∧ (fillOf x y z cs).getD Hp.none = G ∧ (fillOf x y z cs).isSome = b ∧ G.cs.length ≤ 1000 ∧
    (b = true → HeapOK x y z cs ∧ n0 = n1 ∧ n2 = n3 ∧ n4 = n5 ∧ n0 ≤ 100 ∧ n2 ≤ 100 ∧ n4 ≤ 100 ∧ G = ⟨x, y, z, filL x y z cs⟩ ∧ surfN (filL x y z cs) = o ∧ o ≤ s ∧ (s : Int) = 6 * cs.length - 2 * tc ∧ tc ≤ 1000 ∧ n0 = faceN cs 0 ∧ n1 = faceN cs 1 ∧ n2 = faceN cs 2 ∧ n3 = faceN cs 3 ∧ n4 = faceN cs 4 ∧ n5 = faceN cs 5 ∧
      2 * (litSum (shdOf x y z 2 cs) + litSum (shdOf x y z 1 cs) + litSum (shdOf x y z 0 cs)) ≤ (o : Int)) := by
  by_cases hH : HeapOK x y z cs
  · rw [show surfOf x y z cs = some (surfN cs) from if_pos hH, show fillOf x y z cs = some ⟨x, y, z, filL x y z cs⟩ from if_pos hH]
    simp only [if_pos hH]
    obtain ⟨t1, t2⟩ := surf_touch hH.nodup
    obtain ⟨_, u2, u3⟩ := outside_law hH
    have hl := hH.len
    have hfl : (filL x y z cs).length ≤ 64 := pick_len hH.1 _
    have l : ∀ f, faceN cs f ≤ 100 := fun f => Nat.le_trans List.countP_le_length (by omega)
    exact ⟨_, _, _, _, _, _, _, _, _, _, true, rfl, decide_eq_true hH, rfl, rfl, rfl, rfl, rfl, rfl, rfl, Nat.le_trans hfl (by omega), fun _ => ⟨hH, face_same hH.nodup (f := 0) (by omega), face_same hH.nodup (f := 2) (by omega), face_same hH.nodup (f := 4) (by omega), l 0, l 2, l 4, rfl, rfl, u2, t1, by omega, rfl, rfl, rfl, rfl, rfl, rfl, u3⟩⟩
  · rw [show surfOf x y z cs = none from if_neg hH, show fillOf x y z cs = none from if_neg hH]
    simp only [if_neg hH]
    exact ⟨0, 0, 0, 0, 0, 0, 0, 0, 0, _, false, rfl, decide_eq_false hH, rfl, rfl, rfl, rfl, rfl, rfl, rfl, by simp [Hp.none], fun e => Bool.noConfusion e⟩
theorem l_FnSurfaces {t : Nat} {bs : List Nat} {M : Mem} (h : Bytes M t 0 bs) (hn : bs.length ≤ 9223372036854775807 ∧ ∀ b ∈ bs, b ≤ 255) :
    CallsR PG F.laws_FnSurfaces [.ref t 0 bs.length] M fun v _ => v = .B true := by
  have htM := h.lt
  refine callsR_run K.laws_FnSurfaces rfl ?_
  simp (disch := omega) only [C.laws_FnSurfaces, ↓SXd, SXu, slBounds, ↓sop, ↓aop, ↓reduceIte, LV.cells, AOp.dst, LV.I, LV.B, LV.U, LV.S, LV.nil, Nat.reduceEqDiff, Nat.reduceAdd, Nat.reduceMul, Nat.reduceSub, Nat.reduceLeDiff, Nat.reduceBEq, Nat.reduceDiv, Nat.reduceMod, Int.reduceToNat, Int.reduceLT, Int.reduceLE, Int.reduceAdd, Int.reduceSub, Int.reduceMul, Int.reduceEq, Int.reduceNeg, reduceCtorEq, resV, resAll, ARes.ev, LV.flat, ite_true, ite_false, exists_eq_left', exists_eq_left, keyOf, implies_true, fillC, capOf]
  refine callK_of (k_rBig hn.1) ?_
  simp (disch := omega) only [↓SXd, SXu, slBounds, ↓sop, ↓aop, ↓reduceIte, LV.cells, AOp.dst, LV.I, LV.B, LV.U, LV.S, LV.nil, Nat.reduceEqDiff, Nat.reduceAdd, Nat.reduceMul, Nat.reduceSub, Nat.reduceLeDiff, Nat.reduceBEq, Nat.reduceDiv, Nat.reduceMod, Int.reduceToNat, Int.reduceLT, Int.reduceLE, Int.reduceAdd, Int.reduceSub, Int.reduceMul, Int.reduceEq, Int.reduceNeg, reduceCtorEq, resV, resAll, ARes.ev, LV.flat, ite_true, ite_false, exists_eq_left', exists_eq_left, keyOf, implies_true, fillC, capOf]
  by_cases hbig : (65536 : Int) < (bs.length : Nat)
  · simp (disch := omega) only [hbig, ↓SXd, SXu, slBounds, ↓sop, ↓aop, ↓reduceIte, LV.cells, AOp.dst, LV.I, LV.B, LV.U, LV.S, LV.nil, Nat.reduceEqDiff, Nat.reduceAdd, Nat.reduceMul, Nat.reduceSub, Nat.reduceLeDiff, Nat.reduceBEq, Nat.reduceDiv, Nat.reduceMod, Int.reduceToNat, Int.reduceLT, Int.reduceLE, Int.reduceAdd, Int.reduceSub, Int.reduceMul, Int.reduceEq, Int.reduceNeg, reduceCtorEq, resV, resAll, ARes.ev, LV.flat, ite_true, ite_false, exists_eq_left', exists_eq_left, keyOf, implies_true, fillC, capOf]
    rfl
  have hl : bs.length ≤ 1000000000 := by omega
  simp (disch := omega) only [hbig, ↓SXd, SXu, slBounds, ↓sop, ↓aop, ↓reduceIte, LV.cells, AOp.dst, LV.I, LV.B, LV.U, LV.S, LV.nil, Nat.reduceEqDiff, Nat.reduceAdd, Nat.reduceMul, Nat.reduceSub, Nat.reduceLeDiff, Nat.reduceBEq, Nat.reduceDiv, Nat.reduceMod, Int.reduceToNat, Int.reduceLT, Int.reduceLE, Int.reduceAdd, Int.reduceSub, Int.reduceMul, Int.reduceEq, Int.reduceNeg, reduceCtorEq, resV, resAll, ARes.ev, LV.flat, ite_true, ite_false, exists_eq_left', exists_eq_left, keyOf, implies_true, fillC, capOf]
  refine callR_of (d_DrawBareFaces h hn.2 hl) ?_
  rintro _ N1 ⟨⟨x, y, z, cs, u, rfl, hu, hul, hcl⟩, hp1⟩
  have hcn : cs.length ≤ 1000000000 := by omega
  obtain ⟨n0, n1, n2, n3, n4, n5, s, o, tc, G, b, eF, eb, es, eo, et, es', bs', eG, bG, lG, hV⟩ := surf_facts x y z cs
  have B3 : Live (N1 ++ [some (.row [.I x, .I y, .I z, .ref u 0 cs.length] true 0)]) N1.length (.row [.I x, .I y, .I z, .ref u 0 cs.length] true 0) := Live.new
  have T := hu.app (L := [some (.row [.I x, .I y, .I z, .ref u 0 cs.length] true 0)])
  have q1 : Pre M (N1 ++ [some (.row [.I x, .I y, .I z, .ref u 0 cs.length] true 0)]) := hp1.trans (Pre.app _ _)
  simp (disch := omega) only [splice, ↓SXd, SXu, slBounds, ↓sop, ↓aop, ↓reduceIte, LV.cells, AOp.dst, LV.I, LV.B, LV.U, LV.S, LV.nil, Nat.reduceEqDiff, Nat.reduceAdd, Nat.reduceMul, Nat.reduceSub, Nat.reduceLeDiff, Nat.reduceBEq, Nat.reduceDiv, Nat.reduceMod, Int.reduceToNat, Int.reduceLT, Int.reduceLE, Int.reduceAdd, Int.reduceSub, Int.reduceMul, Int.reduceEq, Int.reduceNeg, reduceCtorEq, resV, resAll, ARes.ev, LV.flat, ite_true, ite_false, exists_eq_left', exists_eq_left, keyOf, implies_true, fillC, capOf]
  generalize hm3 : N1.length = m3 at B3 ⊢
  generalize N1 ++ [some (Blk.row [.I x, .I y, .I z, .ref u 0 cs.length] true 0)] = W1 at B3 T q1 ⊢
  refine callK_of (g_BareFaces T hcn) ?_
  rw [eF, eb]
  have B4 : Live (W1 ++ [some (.row [.I n0, .I n1, .I n2, .I n3, .I n4, .I n5] true 0)]) W1.length (.row [.I n0, .I n1, .I n2, .I n3, .I n4, .I n5] true 0) := Live.new
  have q2 : Pre W1 (W1 ++ [some (.row [.I n0, .I n1, .I n2, .I n3, .I n4, .I n5] true 0)]) := Pre.app _ _
  have eB3 := B3.pre (q2)
  simp (disch := omega) only [splice, eB3.cells, ↓SXd, SXu, slBounds, ↓sop, ↓aop, ↓reduceIte, LV.cells, AOp.dst, LV.I, LV.B, LV.U, LV.S, LV.nil, Nat.reduceEqDiff, Nat.reduceAdd, Nat.reduceMul, Nat.reduceSub, Nat.reduceLeDiff, Nat.reduceBEq, Nat.reduceDiv, Nat.reduceMod, Int.reduceToNat, Int.reduceLT, Int.reduceLE, Int.reduceAdd, Int.reduceSub, Int.reduceMul, Int.reduceEq, Int.reduceNeg, reduceCtorEq, resV, resAll, ARes.ev, LV.flat, ite_true, ite_false, exists_eq_left', exists_eq_left, keyOf, implies_true, fillC, capOf]
  generalize hm4 : W1.length = m4 at B4 ⊢
  generalize W1 ++ [some (Blk.row [.I n0, .I n1, .I n2, .I n3, .I n4, .I n5] true 0)] = W2 at B4 q2 eB3 ⊢
  refine callK_of (h_sBareFaces (T.pre (q2)) hcn) ?_
  rw [eF, eb]
  have B6 : Live (W2 ++ [some (.row [.I n0, .I n1, .I n2, .I n3, .I n4, .I n5] true 0)]) W2.length (.row [.I n0, .I n1, .I n2, .I n3, .I n4, .I n5] true 0) := Live.new
  have q3 : Pre W2 (W2 ++ [some (.row [.I n0, .I n1, .I n2, .I n3, .I n4, .I n5] true 0)]) := Pre.app _ _
  have eB4 := B4.pre (q3)
  have eB3 := B3.pre ((q2).trans q3)
  simp (disch := omega) only [splice, eB4.cells, eB3.cells, beq_self_eq_true, Bool.not_true, eqs_self, ↓SXd, SXu, slBounds, ↓sop, ↓aop, ↓reduceIte, LV.cells, AOp.dst, LV.I, LV.B, LV.U, LV.S, LV.nil, Nat.reduceEqDiff, Nat.reduceAdd, Nat.reduceMul, Nat.reduceSub, Nat.reduceLeDiff, Nat.reduceBEq, Nat.reduceDiv, Nat.reduceMod, Int.reduceToNat, Int.reduceLT, Int.reduceLE, Int.reduceAdd, Int.reduceSub, Int.reduceMul, Int.reduceEq, Int.reduceNeg, reduceCtorEq, resV, resAll, ARes.ev, LV.flat, ite_true, ite_false, exists_eq_left', exists_eq_left, keyOf, implies_true, fillC, capOf]
  generalize hm6 : W2.length = m6 at B6 ⊢
  generalize W2 ++ [some (Blk.row [.I n0, .I n1, .I n2, .I n3, .I n4, .I n5] true 0)] = W3 at B6 q3 eB4 eB3 ⊢
  have hIs := g_IsHeap (M := W3) (x := x) (y := y) (z := z) (T.pre (q2.trans (q3))).has hcn
  rw [eb] at hIs
  refine callK_of hIs ?_
  refine put_cut (fun fr' M' => M' = W3 ∧ fr' 0 = .ref t 0 bs.length ∧ fr' 3 = .ptr m3 0 ∧ fr' 4 = .ptr m4 0 ∧ fr' 5 = .B b) ?_ ?_
  · simp (disch := omega) only [beq_self_eq_true, Bool.not_true, ↓SXd, SXu, slBounds, ↓sop, ↓aop, ↓reduceIte, LV.cells, AOp.dst, LV.I, LV.B, LV.U, LV.S, LV.nil, Nat.reduceEqDiff, Nat.reduceAdd, Nat.reduceMul, Nat.reduceSub, Nat.reduceLeDiff, Nat.reduceBEq, Nat.reduceDiv, Nat.reduceMod, Int.reduceToNat, Int.reduceLT, Int.reduceLE, Int.reduceAdd, Int.reduceSub, Int.reduceMul, Int.reduceEq, Int.reduceNeg, reduceCtorEq, resV, resAll, ARes.ev, LV.flat, ite_true, ite_false, exists_eq_left', exists_eq_left, keyOf, implies_true, fillC, capOf]
    all_goals exact ⟨rfl, rfl, rfl, rfl, rfl⟩
  rintro fr W3 ⟨rfl, f0, f3, f4, f5⟩
  simp (disch := omega) only [f0, f3, f4, f5, (B3.pre (q2.trans (q3))).cells, ↓SXd, SXu, slBounds, ↓sop, ↓aop, ↓reduceIte, LV.cells, AOp.dst, LV.I, LV.B, LV.U, LV.S, LV.nil, Nat.reduceEqDiff, Nat.reduceAdd, Nat.reduceMul, Nat.reduceSub, Nat.reduceLeDiff, Nat.reduceBEq, Nat.reduceDiv, Nat.reduceMod, Int.reduceToNat, Int.reduceLT, Int.reduceLE, Int.reduceAdd, Int.reduceSub, Int.reduceMul, Int.reduceEq, Int.reduceNeg, reduceCtorEq, resV, resAll, ARes.ev, LV.flat, ite_true, ite_false, exists_eq_left', exists_eq_left, keyOf, implies_true, fillC, capOf]
  refine callK_of (g_SurfaceOf (T.pre (q2.trans (q3))) hcn) ?_
  rw [es', bs']
  simp (disch := omega) only [f0, f3, f4, f5, (B3.pre (q2.trans (q3))).cells, ↓SXd, SXu, slBounds, ↓sop, ↓aop, ↓reduceIte, LV.cells, AOp.dst, LV.I, LV.B, LV.U, LV.S, LV.nil, Nat.reduceEqDiff, Nat.reduceAdd, Nat.reduceMul, Nat.reduceSub, Nat.reduceLeDiff, Nat.reduceBEq, Nat.reduceDiv, Nat.reduceMod, Int.reduceToNat, Int.reduceLT, Int.reduceLE, Int.reduceAdd, Int.reduceSub, Int.reduceMul, Int.reduceEq, Int.reduceNeg, reduceCtorEq, resV, resAll, ARes.ev, LV.flat, ite_true, ite_false, exists_eq_left', exists_eq_left, keyOf, implies_true, fillC, capOf]
  refine callK_of (h_sSurfaceOf (T.pre (q2.trans (q3))) hcn) ?_
  rw [es, eb]
  refine put_cut (fun fr' M' => M' = W3 ∧ fr' 0 = .ref t 0 bs.length ∧ fr' 3 = .ptr m3 0 ∧ fr' 4 = .ptr m4 0 ∧ fr' 5 = .B b ∧ fr' 8 = .I (s : Nat)) ?_ ?_
  · simp (disch := omega) only [f0, f3, f4, f5, beq_self_eq_true, Bool.not_true, ↓SXd, SXu, slBounds, ↓sop, ↓aop, ↓reduceIte, LV.cells, AOp.dst, LV.I, LV.B, LV.U, LV.S, LV.nil, Nat.reduceEqDiff, Nat.reduceAdd, Nat.reduceMul, Nat.reduceSub, Nat.reduceLeDiff, Nat.reduceBEq, Nat.reduceDiv, Nat.reduceMod, Int.reduceToNat, Int.reduceLT, Int.reduceLE, Int.reduceAdd, Int.reduceSub, Int.reduceMul, Int.reduceEq, Int.reduceNeg, reduceCtorEq, resV, resAll, ARes.ev, LV.flat, ite_true, ite_false, exists_eq_left', exists_eq_left, keyOf, implies_true, fillC, capOf]
    all_goals exact ⟨rfl, by first | rfl | assumption, by first | rfl | assumption, by first | rfl | assumption, by first | rfl | assumption, by first | rfl | assumption⟩
  clear f0 f3 f4 f5
  rintro fr W3 ⟨rfl, f0, f3, f4, f5, f8⟩
  simp (disch := omega) only [f0, f3, f4, f5, f8, (B3.pre (q2.trans (q3))).cells, ↓SXd, SXu, slBounds, ↓sop, ↓aop, ↓reduceIte, LV.cells, AOp.dst, LV.I, LV.B, LV.U, LV.S, LV.nil, Nat.reduceEqDiff, Nat.reduceAdd, Nat.reduceMul, Nat.reduceSub, Nat.reduceLeDiff, Nat.reduceBEq, Nat.reduceDiv, Nat.reduceMod, Int.reduceToNat, Int.reduceLT, Int.reduceLE, Int.reduceAdd, Int.reduceSub, Int.reduceMul, Int.reduceEq, Int.reduceNeg, reduceCtorEq, resV, resAll, ARes.ev, LV.flat, ite_true, ite_false, exists_eq_left', exists_eq_left, keyOf, implies_true, fillC, capOf]
  refine callK_of (g_OutsideFaces (T.pre (q2.trans (q3))) hcn) ?_
  rw [eo, eb]
  simp (disch := omega) only [f0, f3, f4, f5, f8, (B3.pre (q2.trans (q3))).cells, ↓SXd, SXu, slBounds, ↓sop, ↓aop, ↓reduceIte, LV.cells, AOp.dst, LV.I, LV.B, LV.U, LV.S, LV.nil, Nat.reduceEqDiff, Nat.reduceAdd, Nat.reduceMul, Nat.reduceSub, Nat.reduceLeDiff, Nat.reduceBEq, Nat.reduceDiv, Nat.reduceMod, Int.reduceToNat, Int.reduceLT, Int.reduceLE, Int.reduceAdd, Int.reduceSub, Int.reduceMul, Int.reduceEq, Int.reduceNeg, reduceCtorEq, resV, resAll, ARes.ev, LV.flat, ite_true, ite_false, exists_eq_left', exists_eq_left, keyOf, implies_true, fillC, capOf]
  refine callK_of (h_sOutsideFaces (T.pre (q2.trans (q3))) hcn) ?_
  rw [eo, eb]
  refine put_cut (fun fr' M' => M' = W3 ∧ fr' 0 = .ref t 0 bs.length ∧ fr' 3 = .ptr m3 0 ∧ fr' 4 = .ptr m4 0 ∧ fr' 5 = .B b ∧ fr' 8 = .I (s : Nat) ∧ fr' 12 = .I (o : Nat)) ?_ ?_
  · simp (disch := omega) only [f0, f3, f4, f5, f8, beq_self_eq_true, Bool.not_true, ↓SXd, SXu, slBounds, ↓sop, ↓aop, ↓reduceIte, LV.cells, AOp.dst, LV.I, LV.B, LV.U, LV.S, LV.nil, Nat.reduceEqDiff, Nat.reduceAdd, Nat.reduceMul, Nat.reduceSub, Nat.reduceLeDiff, Nat.reduceBEq, Nat.reduceDiv, Nat.reduceMod, Int.reduceToNat, Int.reduceLT, Int.reduceLE, Int.reduceAdd, Int.reduceSub, Int.reduceMul, Int.reduceEq, Int.reduceNeg, reduceCtorEq, resV, resAll, ARes.ev, LV.flat, ite_true, ite_false, exists_eq_left', exists_eq_left, keyOf, implies_true, fillC, capOf]
    all_goals exact ⟨rfl, by first | rfl | assumption, by first | rfl | assumption, by first | rfl | assumption, by first | rfl | assumption, by first | rfl | assumption, by first | rfl | assumption⟩
  clear f0 f3 f4 f5 f8
  rintro fr W3 ⟨rfl, f0, f3, f4, f5, f8, f12⟩
  simp (disch := omega) only [f0, f3, f4, f5, f8, f12, (B3.pre (q2.trans (q3))).cells, ↓SXd, SXu, slBounds, ↓sop, ↓aop, ↓reduceIte, LV.cells, AOp.dst, LV.I, LV.B, LV.U, LV.S, LV.nil, Nat.reduceEqDiff, Nat.reduceAdd, Nat.reduceMul, Nat.reduceSub, Nat.reduceLeDiff, Nat.reduceBEq, Nat.reduceDiv, Nat.reduceMod, Int.reduceToNat, Int.reduceLT, Int.reduceLE, Int.reduceAdd, Int.reduceSub, Int.reduceMul, Int.reduceEq, Int.reduceNeg, reduceCtorEq, resV, resAll, ARes.ev, LV.flat, ite_true, ite_false, exists_eq_left', exists_eq_left, keyOf, implies_true, fillC, capOf]
  refine callK_of (g_TouchingFaces (T.pre (q2.trans (q3))) hcn) ?_
  rw [et, eb]
  simp (disch := omega) only [f0, f3, f4, f5, f8, f12, (B3.pre (q2.trans (q3))).cells, ↓SXd, SXu, slBounds, ↓sop, ↓aop, ↓reduceIte, LV.cells, AOp.dst, LV.I, LV.B, LV.U, LV.S, LV.nil, Nat.reduceEqDiff, Nat.reduceAdd, Nat.reduceMul, Nat.reduceSub, Nat.reduceLeDiff, Nat.reduceBEq, Nat.reduceDiv, Nat.reduceMod, Int.reduceToNat, Int.reduceLT, Int.reduceLE, Int.reduceAdd, Int.reduceSub, Int.reduceMul, Int.reduceEq, Int.reduceNeg, reduceCtorEq, resV, resAll, ARes.ev, LV.flat, ite_true, ite_false, exists_eq_left', exists_eq_left, keyOf, implies_true, fillC, capOf]
  refine callK_of (h_sTouching (T.pre (q2.trans (q3))) hcn) ?_
  rw [et, eb]
  refine put_cut (fun fr' M' => M' = W3 ∧ fr' 0 = .ref t 0 bs.length ∧ fr' 3 = .ptr m3 0 ∧ fr' 4 = .ptr m4 0 ∧ fr' 5 = .B b ∧ fr' 8 = .I (s : Nat) ∧ fr' 12 = .I (o : Nat) ∧ fr' 16 = .I (tc : Nat)) ?_ ?_
  · simp (disch := omega) only [f0, f3, f4, f5, f8, f12, beq_self_eq_true, Bool.not_true, ↓SXd, SXu, slBounds, ↓sop, ↓aop, ↓reduceIte, LV.cells, AOp.dst, LV.I, LV.B, LV.U, LV.S, LV.nil, Nat.reduceEqDiff, Nat.reduceAdd, Nat.reduceMul, Nat.reduceSub, Nat.reduceLeDiff, Nat.reduceBEq, Nat.reduceDiv, Nat.reduceMod, Int.reduceToNat, Int.reduceLT, Int.reduceLE, Int.reduceAdd, Int.reduceSub, Int.reduceMul, Int.reduceEq, Int.reduceNeg, reduceCtorEq, resV, resAll, ARes.ev, LV.flat, ite_true, ite_false, exists_eq_left', exists_eq_left, keyOf, implies_true, fillC, capOf]
    all_goals exact ⟨rfl, by first | rfl | assumption, by first | rfl | assumption, by first | rfl | assumption, by first | rfl | assumption, by first | rfl | assumption, by first | rfl | assumption, by first | rfl | assumption⟩
  clear f0 f3 f4 f5 f8 f12
  rintro fr W3 ⟨rfl, f0, f3, f4, f5, f8, f12, f16⟩
  simp (disch := omega) only [f0, f3, f4, f5, f8, f12, f16, (B3.pre (q2.trans (q3))).cells, ↓SXd, SXu, slBounds, ↓sop, ↓aop, ↓reduceIte, LV.cells, AOp.dst, LV.I, LV.B, LV.U, LV.S, LV.nil, Nat.reduceEqDiff, Nat.reduceAdd, Nat.reduceMul, Nat.reduceSub, Nat.reduceLeDiff, Nat.reduceBEq, Nat.reduceDiv, Nat.reduceMod, Int.reduceToNat, Int.reduceLT, Int.reduceLE, Int.reduceAdd, Int.reduceSub, Int.reduceMul, Int.reduceEq, Int.reduceNeg, reduceCtorEq, resV, resAll, ARes.ev, LV.flat, ite_true, ite_false, exists_eq_left', exists_eq_left, keyOf, implies_true, fillC, capOf]
  refine callR_of (heapGL_eq (g_FillX (T.pre (q2.trans (q3))) hcn) eG bG) ?_
  rintro _ N4 ⟨v20, rfl, hv20, hp4⟩
  have B20 : Live (N4 ++ [some (.row [.I G.x, .I G.y, .I G.z, .ref v20 0 G.cs.length] true 0)]) N4.length (.row [.I G.x, .I G.y, .I G.z, .ref v20 0 G.cs.length] true 0) := Live.new
  have U20 := hv20.app (L := [some (.row [.I G.x, .I G.y, .I G.z, .ref v20 0 G.cs.length] true 0)])
  have q4 : Pre W3 (N4 ++ [some (.row [.I G.x, .I G.y, .I G.z, .ref v20 0 G.cs.length] true 0)]) := hp4.trans (Pre.app _ _)
  have eB3 := B3.pre ((q2.trans (q3)).trans q4)
  simp (disch := omega) only [f0, f3, f4, f5, f8, f12, f16, splice, eB3.cells, ↓SXd, SXu, slBounds, ↓sop, ↓aop, ↓reduceIte, LV.cells, AOp.dst, LV.I, LV.B, LV.U, LV.S, LV.nil, Nat.reduceEqDiff, Nat.reduceAdd, Nat.reduceMul, Nat.reduceSub, Nat.reduceLeDiff, Nat.reduceBEq, Nat.reduceDiv, Nat.reduceMod, Int.reduceToNat, Int.reduceLT, Int.reduceLE, Int.reduceAdd, Int.reduceSub, Int.reduceMul, Int.reduceEq, Int.reduceNeg, reduceCtorEq, resV, resAll, ARes.ev, LV.flat, ite_true, ite_false, exists_eq_left', exists_eq_left, keyOf, implies_true, fillC, capOf]
  generalize hm20 : N4.length = m20 at B20 ⊢
  generalize N4 ++ [some (Blk.row [.I G.x, .I G.y, .I G.z, .ref v20 0 G.cs.length] true 0)] = W4 at B20 U20 q4 eB3 ⊢
  refine callR_of (heapGT_eq (h_sFillCavities (T.pre (q2.trans (q3.trans (q4)))) hcn) eG bG) ?_
  rintro _ N5 ⟨v22, rfl, hv22, hp5⟩
  have B22 : Live (N5 ++ [some (.row [.I G.x, .I G.y, .I G.z, .ref v22 0 G.cs.length] true 0)]) N5.length (.row [.I G.x, .I G.y, .I G.z, .ref v22 0 G.cs.length] true 0) := Live.new
  have U22 := hv22.app (L := [some (.row [.I G.x, .I G.y, .I G.z, .ref v22 0 G.cs.length] true 0)])
  have q5 : Pre W4 (N5 ++ [some (.row [.I G.x, .I G.y, .I G.z, .ref v22 0 G.cs.length] true 0)]) := hp5.trans (Pre.app _ _)
  have eB20 := B20.pre (q5)
  simp (disch := omega) only [f0, f3, f4, f5, f8, f12, f16, splice, eB20.cells, beq_self_eq_true, Bool.not_true, ↓SXd, SXu, slBounds, ↓sop, ↓aop, ↓reduceIte, LV.cells, AOp.dst, LV.I, LV.B, LV.U, LV.S, LV.nil, Nat.reduceEqDiff, Nat.reduceAdd, Nat.reduceMul, Nat.reduceSub, Nat.reduceLeDiff, Nat.reduceBEq, Nat.reduceDiv, Nat.reduceMod, Int.reduceToNat, Int.reduceLT, Int.reduceLE, Int.reduceAdd, Int.reduceSub, Int.reduceMul, Int.reduceEq, Int.reduceNeg, reduceCtorEq, resV, resAll, ARes.ev, LV.flat, ite_true, ite_false, exists_eq_left', exists_eq_left, keyOf, implies_true, fillC, capOf]
  generalize hm22 : N5.length = m22 at B22 ⊢
  generalize N5 ++ [some (Blk.row [.I G.x, .I G.y, .I G.z, .ref v22 0 G.cs.length] true 0)] = W5 at B22 U22 q5 eB20 ⊢
  have rh := k_rHeap (g := G) (h := G) (CellsV.of (U20.pre (q5)).has) (CellsV.of U22) (by omega) (by omega)
  rw [decide_eq_true (⟨rfl, rfl⟩ : G.dims = G.dims ∧ G.cs = G.cs)] at rh
  refine callK_of rh ?_
  refine put_cut (fun fr' M' => M' = W5 ∧ fr' 0 = .ref t 0 bs.length ∧ fr' 3 = .ptr m3 0 ∧ fr' 4 = .ptr m4 0 ∧ fr' 5 = .B b ∧ fr' 8 = .I (s : Nat) ∧ fr' 12 = .I (o : Nat) ∧ fr' 16 = .I (tc : Nat) ∧ fr' 20 = .ptr m20 0) ?_ ?_
  · simp (disch := omega) only [f0, f3, f4, f5, f8, f12, f16, beq_self_eq_true, Bool.not_true, ↓SXd, SXu, slBounds, ↓sop, ↓aop, ↓reduceIte, LV.cells, AOp.dst, LV.I, LV.B, LV.U, LV.S, LV.nil, Nat.reduceEqDiff, Nat.reduceAdd, Nat.reduceMul, Nat.reduceSub, Nat.reduceLeDiff, Nat.reduceBEq, Nat.reduceDiv, Nat.reduceMod, Int.reduceToNat, Int.reduceLT, Int.reduceLE, Int.reduceAdd, Int.reduceSub, Int.reduceMul, Int.reduceEq, Int.reduceNeg, reduceCtorEq, resV, resAll, ARes.ev, LV.flat, ite_true, ite_false, exists_eq_left', exists_eq_left, keyOf, implies_true, fillC, capOf]
    all_goals exact ⟨rfl, by first | rfl | assumption, by first | rfl | assumption, by first | rfl | assumption, by first | rfl | assumption, by first | rfl | assumption, by first | rfl | assumption, by first | rfl | assumption, by first | rfl | assumption⟩
  clear f0 f3 f4 f5 f8 f12 f16
  rintro fr W5 ⟨rfl, f0, f3, f4, f5, f8, f12, f16, f20⟩
  simp (disch := omega) only [f0, f3, f4, f5, f8, f12, f16, f20, ↓SXd, SXu, slBounds, ↓sop, ↓aop, ↓reduceIte, LV.cells, AOp.dst, LV.I, LV.B, LV.U, LV.S, LV.nil, Nat.reduceEqDiff, Nat.reduceAdd, Nat.reduceMul, Nat.reduceSub, Nat.reduceLeDiff, Nat.reduceBEq, Nat.reduceDiv, Nat.reduceMod, Int.reduceToNat, Int.reduceLT, Int.reduceLE, Int.reduceAdd, Int.reduceSub, Int.reduceMul, Int.reduceEq, Int.reduceNeg, reduceCtorEq, resV, resAll, ARes.ev, LV.flat, ite_true, ite_false, exists_eq_left', exists_eq_left, keyOf, implies_true, fillC, capOf]
  refine callR_of (d_DrawBareSquares (h.pre (q1.trans (q2.trans (q3.trans (q4.trans (q5)))))) hn.2 hl) ?_
  rintro _ N6 ⟨⟨_, k, rfl, x2, y2, z2, cs2, u2, rfl, hu2, hul2, hcl2⟩, hp6⟩
  have hcn2 : cs2.length ≤ 1000000000 := by omega
  have B24 : Live (N6 ++ [some (.row [.I x2, .I y2, .I z2, .ref u2 0 cs2.length] true 0)]) N6.length (.row [.I x2, .I y2, .I z2, .ref u2 0 cs2.length] true 0) := Live.new
  have T2 := hu2.app (L := [some (.row [.I x2, .I y2, .I z2, .ref u2 0 cs2.length] true 0)])
  have q6 : Pre W5 (N6 ++ [some (.row [.I x2, .I y2, .I z2, .ref u2 0 cs2.length] true 0)]) := hp6.trans (Pre.app _ _)
  simp (disch := omega) only [f0, f3, f4, f5, f8, f12, f16, f20, splice, ↓SXd, SXu, slBounds, ↓sop, ↓aop, ↓reduceIte, LV.cells, AOp.dst, LV.I, LV.B, LV.U, LV.S, LV.nil, Nat.reduceEqDiff, Nat.reduceAdd, Nat.reduceMul, Nat.reduceSub, Nat.reduceLeDiff, Nat.reduceBEq, Nat.reduceDiv, Nat.reduceMod, Int.reduceToNat, Int.reduceLT, Int.reduceLE, Int.reduceAdd, Int.reduceSub, Int.reduceMul, Int.reduceEq, Int.reduceNeg, reduceCtorEq, resV, resAll, ARes.ev, LV.flat, ite_true, ite_false, exists_eq_left', exists_eq_left, keyOf, implies_true, fillC, capOf]
  generalize hm24 : N6.length = m24 at B24 ⊢
  generalize N6 ++ [some (Blk.row [.I x2, .I y2, .I z2, .ref u2 0 cs2.length] true 0)] = W6 at B24 T2 q6 ⊢
  have hQ : sqrB x2 y2 z2 cs2 k = true → (HeapOK x2 y2 z2 cs2 ∧ Dir k) ∧ sqrOf x2 y2 z2 cs2 k = sqF x2 y2 z2 k.toNat (gEnd cs2 k.toNat) cs2 := fun hh => ⟨of_decide_eq_true hh, if_pos (of_decide_eq_true hh)⟩
  have hLl : (sqrOf x2 y2 z2 cs2 k).length ≤ 16 := by
    by_cases hh : HeapOK x2 y2 z2 cs2 ∧ Dir k
    · rw [show sqrOf x2 y2 z2 cs2 k = sqF x2 y2 z2 k.toNat (gEnd cs2 k.toNat) cs2 from if_pos hh, sqF_len]
      have := lines_le hh.1.1 (d := k.toNat) (by have := hh.2; unfold Dir at this; omega)
      omega
    · rw [show sqrOf x2 y2 z2 cs2 k = [] from if_neg hh]; simp
  have gQ := fun {M : Mem} (hh : Live M u2 (.row (triL cs2) true 3)) => g_BareSquares (x := x2) (y := y2) (z := z2) hh hcn2 (d := k)
  have sQ := fun {M : Mem} (hh : Live M u2 (.row (triL cs2) true 3)) => h_sBareSquares (x := x2) (y := y2) (z := z2) hh hcn2 (d := k)
  generalize sqrOf x2 y2 z2 cs2 k = L at hQ hLl gQ sQ
  generalize sqrB x2 y2 z2 cs2 k = q at hQ gQ sQ
  refine callR_of (gQ T2) ?_
  rintro _ W7 ⟨w26, rfl, Iw26, hp7⟩
  simp (disch := omega) only [f0, f3, f4, f5, f8, f12, f16, f20, (B24.pre (hp7)).cells, beq_self_eq_true, Bool.not_true, ↓SXd, SXu, slBounds, ↓sop, ↓aop, ↓reduceIte, LV.cells, AOp.dst, LV.I, LV.B, LV.U, LV.S, LV.nil, Nat.reduceEqDiff, Nat.reduceAdd, Nat.reduceMul, Nat.reduceSub, Nat.reduceLeDiff, Nat.reduceBEq, Nat.reduceDiv, Nat.reduceMod, Int.reduceToNat, Int.reduceLT, Int.reduceLE, Int.reduceAdd, Int.reduceSub, Int.reduceMul, Int.reduceEq, Int.reduceNeg, reduceCtorEq, resV, resAll, ARes.ev, LV.flat, ite_true, ite_false, exists_eq_left', exists_eq_left, keyOf, implies_true, fillC, capOf]
  refine callR_of (sQ (T2.pre (hp7))) ?_
  rintro _ W8 ⟨w28, rfl, Iw28, hp8⟩
  simp (disch := omega) only [f0, f3, f4, f5, f8, f12, f16, f20, beq_self_eq_true, Bool.not_true, ↓SXd, SXu, slBounds, ↓sop, ↓aop, ↓reduceIte, LV.cells, AOp.dst, LV.I, LV.B, LV.U, LV.S, LV.nil, Nat.reduceEqDiff, Nat.reduceAdd, Nat.reduceMul, Nat.reduceSub, Nat.reduceLeDiff, Nat.reduceBEq, Nat.reduceDiv, Nat.reduceMod, Int.reduceToNat, Int.reduceLT, Int.reduceLE, Int.reduceAdd, Int.reduceSub, Int.reduceMul, Int.reduceEq, Int.reduceNeg, reduceCtorEq, resV, resAll, ARes.ev, LV.flat, ite_true, ite_false, exists_eq_left', exists_eq_left, keyOf, implies_true, fillC, capOf]
  refine callK_of (k_rInts (Iw26.pre (hp8)) Iw28 (by omega)) ?_
  refine put_cut (fun fr' M' => M' = W8 ∧ fr' 3 = .ptr m3 0 ∧ fr' 4 = .ptr m4 0 ∧ fr' 5 = .B b ∧ fr' 8 = .I (s : Nat) ∧ fr' 12 = .I (o : Nat) ∧ fr' 16 = .I (tc : Nat) ∧ fr' 20 = .ptr m20 0 ∧ fr' 24 = .ptr m24 0 ∧ fr' 25 = .I k ∧ fr' 26 = w26 ∧ fr' 27 = .B q) ?_ ?_
  · simp (disch := omega) only [f0, f3, f4, f5, f8, f12, f16, f20, beq_self_eq_true, Bool.not_true, ↓SXd, SXu, slBounds, ↓sop, ↓aop, ↓reduceIte, LV.cells, AOp.dst, LV.I, LV.B, LV.U, LV.S, LV.nil, Nat.reduceEqDiff, Nat.reduceAdd, Nat.reduceMul, Nat.reduceSub, Nat.reduceLeDiff, Nat.reduceBEq, Nat.reduceDiv, Nat.reduceMod, Int.reduceToNat, Int.reduceLT, Int.reduceLE, Int.reduceAdd, Int.reduceSub, Int.reduceMul, Int.reduceEq, Int.reduceNeg, reduceCtorEq, resV, resAll, ARes.ev, LV.flat, ite_true, ite_false, exists_eq_left', exists_eq_left, keyOf, implies_true, fillC, capOf]
    all_goals exact ⟨rfl, by first | rfl | assumption, by first | rfl | assumption, by first | rfl | assumption, by first | rfl | assumption, by first | rfl | assumption, by first | rfl | assumption, by first | rfl | assumption, by first | rfl | assumption, by first | rfl | assumption, by first | rfl | assumption, by first | rfl | assumption⟩
  clear f3 f4 f5 f8 f12 f16 f20 f0
  rintro fr W8 ⟨rfl, f3, f4, f5, f8, f12, f16, f20, f24, f25, f26, f27⟩
  simp (disch := omega) only [f3, f4, f5, f8, f12, f16, f20, f24, f25, f26, f27, ↓SXd, SXu, slBounds, ↓sop, ↓aop, ↓reduceIte, LV.cells, AOp.dst, LV.I, LV.B, LV.U, LV.S, LV.nil, Nat.reduceEqDiff, Nat.reduceAdd, Nat.reduceMul, Nat.reduceSub, Nat.reduceLeDiff, Nat.reduceBEq, Nat.reduceDiv, Nat.reduceMod, Int.reduceToNat, Int.reduceLT, Int.reduceLE, Int.reduceAdd, Int.reduceSub, Int.reduceMul, Int.reduceEq, Int.reduceNeg, reduceCtorEq, resV, resAll, ARes.ev, LV.flat, ite_true, ite_false, exists_eq_left', exists_eq_left, keyOf, implies_true, fillC, capOf]
  refine cond_cut (fun fr' M' => Pre W8 M' ∧ fr' 3 = .ptr m3 0 ∧ fr' 4 = .ptr m4 0 ∧ fr' 5 = .B b ∧ fr' 8 = .I (s : Nat) ∧ fr' 12 = .I (o : Nat) ∧ fr' 16 = .I (tc : Nat) ∧ fr' 20 = .ptr m20 0) ?_ ?_
  · cases q
    · simp (disch := omega) only [f3, f4, f5, f8, f12, f16, f20, f24, f25, f26, f27, ↓SXd, SXu, slBounds, ↓sop, ↓aop, ↓reduceIte, LV.cells, AOp.dst, LV.I, LV.B, LV.U, LV.S, LV.nil, Nat.reduceEqDiff, Nat.reduceAdd, Nat.reduceMul, Nat.reduceSub, Nat.reduceLeDiff, Nat.reduceBEq, Nat.reduceDiv, Nat.reduceMod, Int.reduceToNat, Int.reduceLT, Int.reduceLE, Int.reduceAdd, Int.reduceSub, Int.reduceMul, Int.reduceEq, Int.reduceNeg, reduceCtorEq, resV, resAll, ARes.ev, LV.flat, ite_true, ite_false, exists_eq_left', exists_eq_left, keyOf, implies_true, fillC, capOf]
      all_goals exact Pre.refl _
    obtain ⟨⟨hH2, hD2⟩, hL⟩ := hQ rfl
    obtain ⟨m0, m1, m2', m3', m4', m5, _, _, _, _, b', eF2, eb2, _, _, _, _, _, _, _, _, hV2⟩ := surf_facts x2 y2 z2 cs2
    rw [decide_eq_true hH2] at eb2
    subst eb2
    obtain ⟨_, _, _, _, l0, l2, l4, _, _, _, _, _, r0, r1, r2, r3, r4, r5, _⟩ := hV2 rfl
    have hkd : k.toNat < 3 := by unfold Dir at hD2; omega
    have hsq := sq_sum hH2 hkd
    rw [← hL] at hsq
    have hbd : ∀ i, 0 ≤ L.getD i 0 ∧ L.getD i 0 ≤ 1000000 := fun i => by
      have := sqF_bound (g := gEnd cs2 k.toNat) hH2.1 hkd (l := cs2) (fun c hc => hH2.mem hc) (fun c => gEnd_le) i
      rw [← hL] at this
      omega
    simp (disch := omega) only [f3, f4, f5, f8, f12, f16, f20, f24, f25, f26, f27, (B24.pre (hp7.trans (hp8))).cells, ↓SXd, SXu, slBounds, ↓sop, ↓aop, ↓reduceIte, LV.cells, AOp.dst, LV.I, LV.B, LV.U, LV.S, LV.nil, Nat.reduceEqDiff, Nat.reduceAdd, Nat.reduceMul, Nat.reduceSub, Nat.reduceLeDiff, Nat.reduceBEq, Nat.reduceDiv, Nat.reduceMod, Int.reduceToNat, Int.reduceLT, Int.reduceLE, Int.reduceAdd, Int.reduceSub, Int.reduceMul, Int.reduceEq, Int.reduceNeg, reduceCtorEq, resV, resAll, ARes.ev, LV.flat, ite_true, ite_false, exists_eq_left', exists_eq_left, keyOf, implies_true, fillC, capOf]
    refine callK_of (g_BareFaces (T2.pre (hp7.trans (hp8))) hcn2) ?_
    rw [eF2, decide_eq_true hH2]
    have B30 : Live (W8 ++ [some (.row [.I m0, .I m1, .I m2', .I m3', .I m4', .I m5] true 0)]) W8.length (.row [.I m0, .I m1, .I m2', .I m3', .I m4', .I m5] true 0) := Live.new
    have qx : Pre W8 (W8 ++ [some (.row [.I m0, .I m1, .I m2', .I m3', .I m4', .I m5] true 0)]) := Pre.app _ _
    have Iq := (Iw26.pre (hp8)).pre qx
    rcases hD2 with rfl | rfl | rfl
    all_goals
      simp (disch := omega) only [f3, f4, f5, f8, f12, f16, f20, f24, f25, f26, f27, splice, Bool.not_true, ↓SXd, SXu, slBounds, ↓sop, ↓aop, ↓reduceIte, LV.cells, AOp.dst, LV.I, LV.B, LV.U, LV.S, LV.nil, Nat.reduceEqDiff, Nat.reduceAdd, Nat.reduceMul, Nat.reduceSub, Nat.reduceLeDiff, Nat.reduceBEq, Nat.reduceDiv, Nat.reduceMod, Int.reduceToNat, Int.reduceLT, Int.reduceLE, Int.reduceAdd, Int.reduceSub, Int.reduceMul, Int.reduceEq, Int.reduceNeg, reduceCtorEq, resV, resAll, ARes.ev, LV.flat, ite_true, ite_false, exists_eq_left', exists_eq_left, keyOf, implies_true, fillC, capOf]
      generalize W8.length = m30 at B30 ⊢
      generalize W8 ++ [some (Blk.row [.I m0, .I m1, .I m2', .I m3', .I m4', .I m5] true 0)] = W9 at B30 qx Iq ⊢
      refine callK_of (k_rSum Iq (by omega) hbd) ?_
      rw [hsq]
    · have ef : ((faceN cs2 (2 * (0 : Int).toNat) : Nat) : Int) + (faceN cs2 (2 * (0 : Int).toNat + 1) : Nat) = (m0 : Int) + m1 := by rw [r0, r1]; rfl
      simp (disch := omega) only [f3, f4, f5, f8, f12, f16, f20, f24, f25, f26, f27, ef, ↓SXd, SXu, slBounds, ↓sop, ↓aop, ↓reduceIte, LV.cells, AOp.dst, LV.I, LV.B, LV.U, LV.S, LV.nil, Nat.reduceEqDiff, Nat.reduceAdd, Nat.reduceMul, Nat.reduceSub, Nat.reduceLeDiff, Nat.reduceBEq, Nat.reduceDiv, Nat.reduceMod, Int.reduceToNat, Int.reduceLT, Int.reduceLE, Int.reduceAdd, Int.reduceSub, Int.reduceMul, Int.reduceEq, Int.reduceNeg, reduceCtorEq, resV, resAll, ARes.ev, LV.flat, ite_true, ite_false, exists_eq_left', exists_eq_left, keyOf, implies_true, fillC, capOf]
      all_goals exact qx
    · have ef : ((faceN cs2 (2 * (1 : Int).toNat) : Nat) : Int) + (faceN cs2 (2 * (1 : Int).toNat + 1) : Nat) = (m2' : Int) + m3' := by rw [r2, r3]; rfl
      simp (disch := omega) only [f3, f4, f5, f8, f12, f16, f20, f24, f25, f26, f27, ef, ↓SXd, SXu, slBounds, ↓sop, ↓aop, ↓reduceIte, LV.cells, AOp.dst, LV.I, LV.B, LV.U, LV.S, LV.nil, Nat.reduceEqDiff, Nat.reduceAdd, Nat.reduceMul, Nat.reduceSub, Nat.reduceLeDiff, Nat.reduceBEq, Nat.reduceDiv, Nat.reduceMod, Int.reduceToNat, Int.reduceLT, Int.reduceLE, Int.reduceAdd, Int.reduceSub, Int.reduceMul, Int.reduceEq, Int.reduceNeg, reduceCtorEq, resV, resAll, ARes.ev, LV.flat, ite_true, ite_false, exists_eq_left', exists_eq_left, keyOf, implies_true, fillC, capOf]
      all_goals exact qx
    · have ef : ((faceN cs2 (2 * (2 : Int).toNat) : Nat) : Int) + (faceN cs2 (2 * (2 : Int).toNat + 1) : Nat) = (m4' : Int) + m5 := by rw [r4, r5]; rfl
      simp (disch := omega) only [f3, f4, f5, f8, f12, f16, f20, f24, f25, f26, f27, ef, ↓SXd, SXu, slBounds, ↓sop, ↓aop, ↓reduceIte, LV.cells, AOp.dst, LV.I, LV.B, LV.U, LV.S, LV.nil, Nat.reduceEqDiff, Nat.reduceAdd, Nat.reduceMul, Nat.reduceSub, Nat.reduceLeDiff, Nat.reduceBEq, Nat.reduceDiv, Nat.reduceMod, Int.reduceToNat, Int.reduceLT, Int.reduceLE, Int.reduceAdd, Int.reduceSub, Int.reduceMul, Int.reduceEq, Int.reduceNeg, reduceCtorEq, resV, resAll, ARes.ev, LV.flat, ite_true, ite_false, exists_eq_left', exists_eq_left, keyOf, implies_true, fillC, capOf]
      all_goals exact qx
  have B3f := (B3.pre (q2.trans (q3.trans (q4.trans (q5.trans (q6.trans (hp7.trans (hp8))))))))
  have Tf := (T.pre (q2.trans (q3.trans (q4.trans (q5.trans (q6.trans (hp7.trans (hp8))))))))
  have B4f := (B4.pre (q3.trans (q4.trans (q5.trans (q6.trans (hp7.trans (hp8)))))))
  have B20f := (B20.pre (q5.trans (q6.trans (hp7.trans (hp8)))))
  have U20f := (U20.pre (q5.trans (q6.trans (hp7.trans (hp8)))))
  clear f3 f4 f5 f8 f12 f16 f20 f24 f25 f26 f27
  rintro fr X ⟨hX, f3, f4, f5, f8, f12, f16, f20⟩
  replace B3f := B3f.pre hX
  replace Tf := Tf.pre hX
  replace B4f := B4f.pre hX
  replace B20f := B20f.pre hX
  replace U20f := U20f.pre hX
  cases b
  · simp (disch := omega) only [f3, f4, f5, f8, f12, f16, f20, ↓SXd, SXu, slBounds, ↓sop, ↓aop, ↓reduceIte, LV.cells, AOp.dst, LV.I, LV.B, LV.U, LV.S, LV.nil, Nat.reduceEqDiff, Nat.reduceAdd, Nat.reduceMul, Nat.reduceSub, Nat.reduceLeDiff, Nat.reduceBEq, Nat.reduceDiv, Nat.reduceMod, Int.reduceToNat, Int.reduceLT, Int.reduceLE, Int.reduceAdd, Int.reduceSub, Int.reduceMul, Int.reduceEq, Int.reduceNeg, reduceCtorEq, resV, resAll, ARes.ev, LV.flat, ite_true, ite_false, exists_eq_left', exists_eq_left, keyOf, implies_true, fillC, capOf]
    rfl
  obtain ⟨hH, e01, e23, e45, l0, l2, l4, hG, ho, hos, hst, htc, _, _, _, _, _, _, hlit⟩ := hV rfl
  subst hG
  simp only at B20f U20f
  simp (disch := omega) only [f3, f4, f5, f8, f12, f16, f20, ↓SXd, SXu, slBounds, ↓sop, ↓aop, ↓reduceIte, LV.cells, AOp.dst, LV.I, LV.B, LV.U, LV.S, LV.nil, Nat.reduceEqDiff, Nat.reduceAdd, Nat.reduceMul, Nat.reduceSub, Nat.reduceLeDiff, Nat.reduceBEq, Nat.reduceDiv, Nat.reduceMod, Int.reduceToNat, Int.reduceLT, Int.reduceLE, Int.reduceAdd, Int.reduceSub, Int.reduceMul, Int.reduceEq, Int.reduceNeg, reduceCtorEq, resV, resAll, ARes.ev, LV.flat, ite_true, ite_false, exists_eq_left', exists_eq_left, keyOf, implies_true, fillC, capOf]
  refine ev_loop (fun m fr M' => ∃ d : Nat, d + m = 3 ∧ M' = X ∧ fr 3 = .ptr m3 0 ∧ fr 4 = .ptr m4 0 ∧ fr 8 = .I (s : Nat) ∧ fr 12 = .I (o : Nat) ∧ fr 16 = .I (tc : Nat) ∧ fr 20 = .ptr m20 0 ∧ fr 32 = .I d) 3
    ⟨0, rfl, rfl, f3, f4, f8, f12, f16, f20, rfl⟩ ?_
  clear f3 f4 f5 f8 f12 f16 f20
  rintro m fr X ⟨d, hd, rfl, f3, f4, f8, f12, f16, f20, f32⟩
  simp (disch := omega) only [f3, f4, f8, f12, f16, f20, f32, ↓SXd, SXu, slBounds, ↓sop, ↓aop, ↓reduceIte, LV.cells, AOp.dst, LV.I, LV.B, LV.U, LV.S, LV.nil, Nat.reduceEqDiff, Nat.reduceAdd, Nat.reduceMul, Nat.reduceSub, Nat.reduceLeDiff, Nat.reduceBEq, Nat.reduceDiv, Nat.reduceMod, Int.reduceToNat, Int.reduceLT, Int.reduceLE, Int.reduceAdd, Int.reduceSub, Int.reduceMul, Int.reduceEq, Int.reduceNeg, reduceCtorEq, resV, resAll, ARes.ev, LV.flat, ite_true, ite_false, exists_eq_left', exists_eq_left, keyOf, implies_true, fillC, capOf]
  refine condC_dec (fun hlt => ?_) (fun hlt => ?_)
  · have hn : m - 1 < m := by omega
    rcases (show d = 0 ∨ d = 1 ∨ d = 2 by omega) with rfl | rfl | rfl
    · replace f32 : fr 32 = .I 0 := f32
      simp (disch := omega) only [f3, f4, f8, f12, f16, f20, f32, f32, B4f.cell, e01, Nat.mul_one, Nat.zero_add, ↓SXd, SXu, slBounds, ↓sop, ↓aop, ↓reduceIte, LV.cells, AOp.dst, LV.I, LV.B, LV.U, LV.S, LV.nil, Nat.reduceEqDiff, Nat.reduceAdd, Nat.reduceMul, Nat.reduceSub, Nat.reduceLeDiff, Nat.reduceBEq, Nat.reduceDiv, Nat.reduceMod, Int.reduceToNat, Int.reduceLT, Int.reduceLE, Int.reduceAdd, Int.reduceSub, Int.reduceMul, Int.reduceEq, Int.reduceNeg, reduceCtorEq, resV, resAll, ARes.ev, LV.flat, ite_true, ite_false, exists_eq_left', exists_eq_left, keyOf, implies_true, fillC, capOf]
      exact ⟨m - 1, by omega, 1, by omega, rfl, f3, f4, f8, f12, f16, f20, rfl⟩
    · replace f32 : fr 32 = .I 1 := f32
      simp (disch := omega) only [f3, f4, f8, f12, f16, f20, f32, f32, B4f.cell, e23, Nat.mul_one, Nat.zero_add, ↓SXd, SXu, slBounds, ↓sop, ↓aop, ↓reduceIte, LV.cells, AOp.dst, LV.I, LV.B, LV.U, LV.S, LV.nil, Nat.reduceEqDiff, Nat.reduceAdd, Nat.reduceMul, Nat.reduceSub, Nat.reduceLeDiff, Nat.reduceBEq, Nat.reduceDiv, Nat.reduceMod, Int.reduceToNat, Int.reduceLT, Int.reduceLE, Int.reduceAdd, Int.reduceSub, Int.reduceMul, Int.reduceEq, Int.reduceNeg, reduceCtorEq, resV, resAll, ARes.ev, LV.flat, ite_true, ite_false, exists_eq_left', exists_eq_left, keyOf, implies_true, fillC, capOf]
      exact ⟨m - 1, by omega, 2, by omega, rfl, f3, f4, f8, f12, f16, f20, rfl⟩
    · replace f32 : fr 32 = .I 2 := f32
      simp (disch := omega) only [f3, f4, f8, f12, f16, f20, f32, f32, B4f.cell, e45, Nat.mul_one, Nat.zero_add, ↓SXd, SXu, slBounds, ↓sop, ↓aop, ↓reduceIte, LV.cells, AOp.dst, LV.I, LV.B, LV.U, LV.S, LV.nil, Nat.reduceEqDiff, Nat.reduceAdd, Nat.reduceMul, Nat.reduceSub, Nat.reduceLeDiff, Nat.reduceBEq, Nat.reduceDiv, Nat.reduceMod, Int.reduceToNat, Int.reduceLT, Int.reduceLE, Int.reduceAdd, Int.reduceSub, Int.reduceMul, Int.reduceEq, Int.reduceNeg, reduceCtorEq, resV, resAll, ARes.ev, LV.flat, ite_true, ite_false, exists_eq_left', exists_eq_left, keyOf, implies_true, fillC, capOf]
      exact ⟨m - 1, by omega, 3, by omega, rfl, f3, f4, f8, f12, f16, f20, rfl⟩
  simp (disch := omega) only [f3, f4, f8, f12, f16, f20, f32, B3f.cells, ↓SXd, SXu, slBounds, ↓sop, ↓aop, ↓reduceIte, LV.cells, AOp.dst, LV.I, LV.B, LV.U, LV.S, LV.nil, Nat.reduceEqDiff, Nat.reduceAdd, Nat.reduceMul, Nat.reduceSub, Nat.reduceLeDiff, Nat.reduceBEq, Nat.reduceDiv, Nat.reduceMod, Int.reduceToNat, Int.reduceLT, Int.reduceLE, Int.reduceAdd, Int.reduceSub, Int.reduceMul, Int.reduceEq, Int.reduceNeg, reduceCtorEq, resV, resAll, ARes.ev, LV.flat, ite_true, ite_false, exists_eq_left', exists_eq_left, keyOf, implies_true, fillC, capOf]
  refine callR_of (g_ShadowsOf Tf.has hH) ?_
  rintro _ N9 ⟨a33, b33, c33, rfl, i33a, i33b, i33c, hp9⟩
  have B33 : Live (N9 ++ [some (.row [.I x, .I y, .I z, .ref a33 0 (shdOf x y z 2 cs).length, .ref b33 0 (shdOf x y z 1 cs).length, .ref c33 0 (shdOf x y z 0 cs).length] true 0)]) N9.length (.row [.I x, .I y, .I z, .ref a33 0 (shdOf x y z 2 cs).length, .ref b33 0 (shdOf x y z 1 cs).length, .ref c33 0 (shdOf x y z 0 cs).length] true 0) := Live.new
  have I33a := i33a.app (L := [some (.row [.I x, .I y, .I z, .ref a33 0 (shdOf x y z 2 cs).length, .ref b33 0 (shdOf x y z 1 cs).length, .ref c33 0 (shdOf x y z 0 cs).length] true 0)])
  have I33b := i33b.app (L := [some (.row [.I x, .I y, .I z, .ref a33 0 (shdOf x y z 2 cs).length, .ref b33 0 (shdOf x y z 1 cs).length, .ref c33 0 (shdOf x y z 0 cs).length] true 0)])
  have I33c := i33c.app (L := [some (.row [.I x, .I y, .I z, .ref a33 0 (shdOf x y z 2 cs).length, .ref b33 0 (shdOf x y z 1 cs).length, .ref c33 0 (shdOf x y z 0 cs).length] true 0)])
  have q9 : Pre X (N9 ++ [some (.row [.I x, .I y, .I z, .ref a33 0 (shdOf x y z 2 cs).length, .ref b33 0 (shdOf x y z 1 cs).length, .ref c33 0 (shdOf x y z 0 cs).length] true 0)]) := hp9.trans (Pre.app _ _)
  simp (disch := omega) only [f3, f4, f8, f12, f16, f20, f32, splice, (B20f.pre q9).cells, ↓SXd, SXu, slBounds, ↓sop, ↓aop, ↓reduceIte, LV.cells, AOp.dst, LV.I, LV.B, LV.U, LV.S, LV.nil, Nat.reduceEqDiff, Nat.reduceAdd, Nat.reduceMul, Nat.reduceSub, Nat.reduceLeDiff, Nat.reduceBEq, Nat.reduceDiv, Nat.reduceMod, Int.reduceToNat, Int.reduceLT, Int.reduceLE, Int.reduceAdd, Int.reduceSub, Int.reduceMul, Int.reduceEq, Int.reduceNeg, reduceCtorEq, resV, resAll, ARes.ev, LV.flat, ite_true, ite_false, exists_eq_left', exists_eq_left, keyOf, implies_true, fillC, capOf]
  generalize N9.length = m33 at B33 ⊢
  generalize N9 ++ [some (Blk.row [.I x, .I y, .I z, .ref a33 0 (shdOf x y z 2 cs).length, .ref b33 0 (shdOf x y z 1 cs).length, .ref c33 0 (shdOf x y z 0 cs).length] true 0)] = X2 at B33 I33a I33b I33c q9 ⊢
  have hFok : HeapOK x y z (filL x y z cs) := pick_ok hH.1 _
  refine callK_of (g_SurfaceOf (U20f.pre q9) (by have := hFok.len; omega)) ?_
  rw [show surfOf x y z (filL x y z cs) = some (surfN (filL x y z cs)) from if_pos hFok, Option.getD_some, Option.isSome_some, ho]
  have hgt : ¬ ((o : Nat) : Int) > (s : Nat) := by omega
  have hcl64 := hH.len
  have hb1 : ∀ {d : Nat}, ∀ i, 0 ≤ (shdOf x y z d cs).getD i 0 ∧ (shdOf x y z d cs).getD i 0 ≤ 1000000 := fun {d} i => by
    by_cases hi : i < (linesOf x y z d).toNat
    · rw [shd_get hi]; omega
    · rw [List.getD_eq_getElem?_getD, List.getElem?_eq_none (by rw [shdOf_len]; omega), Option.getD_none]; omega
  have hlq : ∀ {d : Nat}, d < 3 → (shdOf x y z d cs).length ≤ 1000000 := fun {d} hd => by
    have := lines_le hH.1 hd
    rw [shdOf_len]; omega
  have o2 : 0 ≤ litSum (shdOf x y z 2 cs) ∧ litSum (shdOf x y z 2 cs) ≤ 1000000 := by have := litSum_bound (l := shdOf x y z 2 cs) shd_ones; have := hlq (d := 2) (by omega); omega
  have o1 : 0 ≤ litSum (shdOf x y z 1 cs) ∧ litSum (shdOf x y z 1 cs) ≤ 1000000 := by have := litSum_bound (l := shdOf x y z 1 cs) shd_ones; have := hlq (d := 1) (by omega); omega
  have o0 : 0 ≤ litSum (shdOf x y z 0 cs) ∧ litSum (shdOf x y z 0 cs) ≤ 1000000 := by have := litSum_bound (l := shdOf x y z 0 cs) shd_ones; have := hlq (d := 0) (by omega); omega
  simp (disch := omega) only [f3, f4, f8, f12, f16, f20, f32, Bool.not_true, hgt, hst, (B3f.pre q9).cell, ↓SXd, SXu, slBounds, ↓sop, ↓aop, ↓reduceIte, LV.cells, AOp.dst, LV.I, LV.B, LV.U, LV.S, LV.nil, Nat.reduceEqDiff, Nat.reduceAdd, Nat.reduceMul, Nat.reduceSub, Nat.reduceLeDiff, Nat.reduceBEq, Nat.reduceDiv, Nat.reduceMod, Int.reduceToNat, Int.reduceLT, Int.reduceLE, Int.reduceAdd, Int.reduceSub, Int.reduceMul, Int.reduceEq, Int.reduceNeg, reduceCtorEq, resV, resAll, ARes.ev, LV.flat, ite_true, ite_false, exists_eq_left', exists_eq_left, keyOf, implies_true, fillC, capOf]
  simp (disch := omega) only [f3, f4, f8, f12, f16, f20, f32, B33.cell, ↓SXd, SXu, slBounds, ↓sop, ↓aop, ↓reduceIte, LV.cells, AOp.dst, LV.I, LV.B, LV.U, LV.S, LV.nil, Nat.reduceEqDiff, Nat.reduceAdd, Nat.reduceMul, Nat.reduceSub, Nat.reduceLeDiff, Nat.reduceBEq, Nat.reduceDiv, Nat.reduceMod, Int.reduceToNat, Int.reduceLT, Int.reduceLE, Int.reduceAdd, Int.reduceSub, Int.reduceMul, Int.reduceEq, Int.reduceNeg, reduceCtorEq, resV, resAll, ARes.ev, LV.flat, ite_true, ite_false, exists_eq_left', exists_eq_left, keyOf, implies_true, fillC, capOf]
  refine callK_of (k_rSum (.inr ⟨_, _, rfl, I33a⟩) (hlq (by omega)) hb1) ?_
  simp (disch := omega) only [f3, f4, f8, f12, f16, f20, f32, ↓SXd, SXu, slBounds, ↓sop, ↓aop, ↓reduceIte, LV.cells, AOp.dst, LV.I, LV.B, LV.U, LV.S, LV.nil, Nat.reduceEqDiff, Nat.reduceAdd, Nat.reduceMul, Nat.reduceSub, Nat.reduceLeDiff, Nat.reduceBEq, Nat.reduceDiv, Nat.reduceMod, Int.reduceToNat, Int.reduceLT, Int.reduceLE, Int.reduceAdd, Int.reduceSub, Int.reduceMul, Int.reduceEq, Int.reduceNeg, reduceCtorEq, resV, resAll, ARes.ev, LV.flat, ite_true, ite_false, exists_eq_left', exists_eq_left, keyOf, implies_true, fillC, capOf]
  refine callK_of (k_rSum (.inr ⟨_, _, rfl, I33b⟩) (hlq (by omega)) hb1) ?_
  simp (disch := omega) only [f3, f4, f8, f12, f16, f20, f32, ↓SXd, SXu, slBounds, ↓sop, ↓aop, ↓reduceIte, LV.cells, AOp.dst, LV.I, LV.B, LV.U, LV.S, LV.nil, Nat.reduceEqDiff, Nat.reduceAdd, Nat.reduceMul, Nat.reduceSub, Nat.reduceLeDiff, Nat.reduceBEq, Nat.reduceDiv, Nat.reduceMod, Int.reduceToNat, Int.reduceLT, Int.reduceLE, Int.reduceAdd, Int.reduceSub, Int.reduceMul, Int.reduceEq, Int.reduceNeg, reduceCtorEq, resV, resAll, ARes.ev, LV.flat, ite_true, ite_false, exists_eq_left', exists_eq_left, keyOf, implies_true, fillC, capOf]
  refine callK_of (k_rSum (.inr ⟨_, _, rfl, I33c⟩) (hlq (by omega)) hb1) ?_
  generalize litSum (shdOf x y z 2 cs) = t2 at o2 hlit ⊢
  generalize litSum (shdOf x y z 1 cs) = t1 at o1 hlit ⊢
  generalize litSum (shdOf x y z 0 cs) = t0 at o0 hlit ⊢
  have hge : ((o : Nat) : Int) ≥ 2 * (t2 + t1 + t0) := hlit
  simp (disch := omega) only [f3, f4, f8, f12, f16, f20, f32, hge, ↓SXd, SXu, slBounds, ↓sop, ↓aop, ↓reduceIte, LV.cells, AOp.dst, LV.I, LV.B, LV.U, LV.S, LV.nil, Nat.reduceEqDiff, Nat.reduceAdd, Nat.reduceMul, Nat.reduceSub, Nat.reduceLeDiff, Nat.reduceBEq, Nat.reduceDiv, Nat.reduceMod, Int.reduceToNat, Int.reduceLT, Int.reduceLE, Int.reduceAdd, Int.reduceSub, Int.reduceMul, Int.reduceEq, Int.reduceNeg, reduceCtorEq, resV, resAll, ARes.ev, LV.flat, ite_true, ite_false, exists_eq_left', exists_eq_left, keyOf, implies_true, fillC, capOf]
  all_goals rfl
end Go.Ab

/- Bytes that came in, opened. -/
namespace Go.Ab
open Go Go.RowKit Go.Joins Go.ChangeShapes Go.WideShapes Go.Deep Go.WideElems Go.Maps

/-- What the abstract machine is told of a slice of bytes that came in. -/
def RowOfB (w : World) (a : Option Addr) (len cap : Nat) (xs : List Nat) : Prop :=
  xs.length = len ∧ len ≤ cap ∧ cap ≤ maxLen ∧ (∀ b ∈ xs, b ≤ 255) ∧ (cap = 0 ∨ ∃ b o c e fz, a = some ⟨b, o, none⟩ ∧ w.heap[b]? = some (.cells c e fz) ∧ ∀ i, i < len → c[o + i]? = some (.int .u8 ((xs.getD i 0 : Nat) : Int)))

section
variable {H : Type} {enc : TypeId × Value → H} {P : Program} {w : World} {held : Bool}
theorem open_bytesB {ts ti : TypeId} {fuel : Nat} {cs : List Value} {x : DataW H × List MemPlace} (hts : P.underlying ts = some (.slice ti)) (hti : P.underlying ti = some (.int .u8)) (hci : P.cellsOf ti = 1)
    (h : DataW.trod enc P w 0 (fun _ => true) held fuel ts cs = some x) : ∃ a len cap xs, cs = [.slice a len cap] ∧ RowOfB w a len cap xs := by
  rcases Go.ChangeShapes.open_ints hts hti hci h with ⟨rfl, _⟩ | ⟨a, len, cap, zs, rfl, _, hl, hm, hz, _, hel, hwf⟩
  · exact ⟨none, 0, 0, [], rfl, rfl, Nat.le_refl _, Nat.zero_le _, by simp, .inl rfl⟩
  · have hzl : zs.length = cap := by simpa using hz
    have hby : ∀ n ∈ zs, 0 ≤ n ∧ n ≤ 255 := fun n hn => by
      have h1 := hwf n hn
      unfold Lit.wf at h1
      rw [Bool.and_eq_true, decide_eq_true_iff, decide_eq_true_iff] at h1
      exact h1
    refine ⟨some a, len, cap, (zs.take len).map Int.toNat, rfl, by simp; omega, hl, hm, fun b hb => ?_, ?_⟩
    · obtain ⟨n, hn, rfl⟩ := List.mem_map.1 hb
      have := hby n (List.mem_of_mem_take hn)
      omega
    rcases Nat.eq_zero_or_pos cap with h0 | h0
    · exact .inl h0
    · refine .inr ?_
      have hc0 := hel 0 (by omega)
      obtain ⟨b, o, c, e, fz, ha, hh, _⟩ := cell_heap hc0
      have ha' : a = ⟨b, o, none⟩ := by simpa [Addr.add] using ha
      subst ha'
      refine ⟨b, o, c, e, fz, rfl, hh, fun i hi => ?_⟩
      have hcell := hel i (by omega)
      have hadd : (⟨b, o, none⟩ : Addr).add i = ⟨b, o + i, none⟩ := addr_add _ _ _
      rw [hadd] at hcell
      unfold World.cell? at hcell
      simp only [hh] at hcell
      have hil : i < zs.length := by omega
      have hbi := hby _ (getD_mem' (d := 0) hil)
      have hg : ((((zs.take len).map Int.toNat).getD i 0 : Nat) : Int) = zs.getD i 0 := by
        have e1 : ((zs.take len).map Int.toNat).getD i 0 = (zs.getD i 0).toNat := by simp [hi, hil]
        rw [e1]; omega
      rw [hg]
      simpa using hcell
end
theorem byL_get {bs : List Nat} {i : Nat} (h : i < bs.length) : (byL bs)[i]? = some (.val (.int .u8 ((bs.getD i 0 : Nat) : Int))) := by simp [byL, h]
theorem Inv.addBytes' {G : Gh} {M : Mem} {w : World} (hi : Inv G M w) (hno : NoOwn M) {a : Option Addr} {len cap : Nat} {xs : List Nat} (h : RowOfB w a len cap xs) :
    ∃ (G' : Gh) (N : Mem) (t : Nat), Ext G G' ∧ Inv G' N w ∧ NoOwn N ∧ Pre M N ∧ VR1 G' (.ref t 0 len) (.slice a len cap) ∧ Bytes N t 0 xs := by
  obtain ⟨h1, h2, h3, _, h4⟩ := h
  have key : ∃ G', Ext G G' ∧ Inv G' (M ++ [some (.row (byL xs) false 1)]) w ∧ NoOwn (M ++ [some (.row (byL xs) false 1)]) ∧ VR1 G' (.ref M.length 0 len) (.slice a len cap) := by
    refine hi.addRow hno h2 (by rw [byL_len]; omega) ?_
    rcases h4 with h0 | ⟨b, o, c, e, fz, ha, hh, hc⟩
    · refine .inl ⟨h0, ?_⟩
      have : xs = [] := List.eq_nil_of_length_eq_zero (by omega)
      rw [this]; rfl
    · refine .inr ⟨b, o, c, e, fz, ha, hh, fun j l hj => ?_⟩
      have hjl : j < xs.length := by
        rw [← byL_len]
        rcases Nat.lt_or_ge j (byL xs).length with h | h
        · exact h
        · rw [List.getElem?_eq_none h] at hj; cases hj
      rw [byL_get hjl] at hj
      cases hj
      exact ⟨_, hc j (by omega), rfl, rfl⟩
  obtain ⟨G', k1, k2, k3, k4⟩ := key
  exact ⟨G', _, _, k1, k2, k3, Pre.app _ _, k4, Has.new⟩
/-- Bytes whose block has elements of one cell. -/
def BytesZ (M : Mem) (t o : Nat) (bs : List Nat) : Prop := Bytes M t o bs ∧ getEsz M t = some 1
theorem RowOfB.le {w : World} {a : Option Addr} {len cap : Nat} {xs : List Nat} (h : RowOfB w a len cap xs) : xs.length ≤ 9223372036854775807 ∧ ∀ b ∈ xs, b ≤ 255 := by
  obtain ⟨h0, h1, h2, h3, _⟩ := h
  have := max63
  exact ⟨by omega, h3⟩
end Go.Ab
