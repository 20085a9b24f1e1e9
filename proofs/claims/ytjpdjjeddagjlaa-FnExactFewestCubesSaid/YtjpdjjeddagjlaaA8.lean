/- Parts of the proof of FnExactFewestCubesSaid: Vc Vd Ve Wf Wh Wi C_Wc K_Wc Wc Wd Wj Wk C_Wl K_Wl C_Wg K_Wg Wg. -/
import Derived.Test.YtjpdjjeddagjlaaA7
import Derived.Test.YtjpdjjeddagjlaaA4
import Derived.Test.YtjpdjjeddagjlaaA6
import Derived.Test.YtjpdjjeddagjlaaA5
import Derived.Test.YtjpdjjeddagjlaaA3
import Derived.Test.YtjpdjjeddagjlaaProg
import Derived.KernelRfl
set_option linter.all false
/- Contracts: lines that need a cube, and cells that must be, the program's side. -/
namespace Go.Ab
open Go
set_option linter.unusedSimpArgs false
set_option linter.unusedVariables false
set_option maxRecDepth 20000

theorem appendK_1a {M : Mem} {a : Option Blk} {t n e b : Nat} {acc new : List LV} {A : LV → Mem → Prop} (ht : Live (M ++ [a]) t (.row acc true e)) (hn : acc.length = n * e) (hne : new.length = e) (he : 0 < e)
    (hb : (n + 1) * b ≤ 140737488355328) (hn' : n + 1 ≤ 9223372036854775807)
    (hA : ∀ M', M'.length = M.length + 3 → Live M' (M.length + 2) (.row (acc ++ new) true e) → (∀ u, u ≠ t → u < M.length + 1 → M'[u]? = (M ++ [a])[u]?) → A (.ref (M.length + 2) 0 (n + 1)) M') :
    appendK e b (.ref t 0 n) (.ref (M.length + 1) 0 1) (M ++ [a, some (.row new true e)]) A := by
  have := appendK_1 (M := M ++ [a]) (A := A) ht hn hne he hb hn' fun M' k1 k2 k3 => by
    have hl : (M ++ [a]).length = M.length + 1 := by simp
    rw [hl] at k1 k2 k3 ⊢
    exact hA M' k1 k2 k3
  rw [show (M ++ [a]).length = M.length + 1 by simp, List.append_assoc] at this
  exact this
theorem g_countB {x y z : Int} (hS : Sides x y z) {p : Cell → Bool} {M : Mem} : CallsTo PG F.impl_set_count [.W (bs x y z p)] M (.I (((pick x y z p).length : Nat) : Int)) M := by
  have := g_count (s := bs x y z p) (M := M)
  rwa [swar_bs hS] at this
theorem g_needs_1 {x y z : Int} {c : Cell} {t o t' o' t2 o2 u v w d i : Nat} {tp fr sd : List Int} {M : Mem} (hS : Sides x y z) (hc : c.inBox x y z) (hd : d < 3)
    (hb : Live M u (.row [.I x, .I y, .I z, .ref t o tp.length, .ref t' o' fr.length, .ref t2 o2 sd.length] true 0)) (hv : Live M v (.row [.I d] true 0)) (hw : Live M w (.row [.I i] true 0)) :
    CallsTo PG F.impl_Shadow_needs_1 ([.agg [.I c.a, .I c.b, .I c.c]] ++ [(u, 0), (v, 0), (w, 0)].map fun p => .ptr p.1 p.2) M (.B (onLine y z d i c)) M := by
  have hul := hb.lt
  have hvl := hv.lt
  have hwl := hw.lt
  obtain ⟨hl1, hl2⟩ := lineOf_in hS hc hd
  refine calls_run K.impl_Shadow_needs_1 rfl ?_
  simp (disch := omega) only [C.impl_Shadow_needs_1, List.map_cons, List.map_nil, hb.app.cells, hv.app.cell, hw.app.cell, ↓SXd, SXu, slBounds, ↓sop, ↓aop, ↓reduceIte, LV.cells, AOp.dst, LV.I, LV.B, LV.U, LV.S, LV.nil, Nat.reduceEqDiff, Nat.reduceAdd, Nat.reduceMul, Nat.reduceSub, Nat.reduceLeDiff, Nat.reduceBEq, Nat.reduceDiv, Nat.reduceMod, Int.reduceToNat, Int.reduceLT, Int.reduceLE, Int.reduceAdd, Int.reduceSub, Int.reduceMul, Int.reduceEq, Int.reduceNeg, reduceCtorEq, resV, resAll, ARes.ev, LV.flat, ite_true, ite_false, exists_eq_left', exists_eq_left, keyOf, implies_true, fillC, capOf]
  refine callK_of (g_Shadow_box) ?_
  simp (disch := omega) only [↓SXd, SXu, slBounds, ↓sop, ↓aop, ↓reduceIte, LV.cells, AOp.dst, LV.I, LV.B, LV.U, LV.S, LV.nil, Nat.reduceEqDiff, Nat.reduceAdd, Nat.reduceMul, Nat.reduceSub, Nat.reduceLeDiff, Nat.reduceBEq, Nat.reduceDiv, Nat.reduceMod, Int.reduceToNat, Int.reduceLT, Int.reduceLE, Int.reduceAdd, Int.reduceSub, Int.reduceMul, Int.reduceEq, Int.reduceNeg, reduceCtorEq, resV, resAll, ARes.ev, LV.flat, ite_true, ite_false, exists_eq_left', exists_eq_left, keyOf, implies_true, fillC, capOf]
  refine callK_of (g_line hS hc hd) ?_
  simp (disch := omega) only [↓SXd, SXu, slBounds, ↓sop, ↓aop, ↓reduceIte, LV.cells, AOp.dst, LV.I, LV.B, LV.U, LV.S, LV.nil, Nat.reduceEqDiff, Nat.reduceAdd, Nat.reduceMul, Nat.reduceSub, Nat.reduceLeDiff, Nat.reduceBEq, Nat.reduceDiv, Nat.reduceMod, Int.reduceToNat, Int.reduceLT, Int.reduceLE, Int.reduceAdd, Int.reduceSub, Int.reduceMul, Int.reduceEq, Int.reduceNeg, reduceCtorEq, resV, resAll, ARes.ev, LV.flat, ite_true, ite_false, exists_eq_left', exists_eq_left, keyOf, implies_true, fillC, capOf]
  rw [show decide (lineOf y z c d = i) = onLine y z d i c from decide_eq_decide.2 ⟨fun h => by omega, fun h => by omega⟩]
  exact cmp_drop rfl

theorem ShdOK.len16 {x y z : Int} {tp fr sd : List Int} (hok : ShdOK x y z tp fr sd) (d : Nat) : (shdList d tp fr sd).length ≤ 16 := by
  have hS := hok.1
  have h0 := (hok.list (d := 0) (by omega)).2
  have h1 := (hok.list (d := 1) (by omega)).2
  have h2 := (hok.list (d := 2) (by omega)).2
  have q0 := lines_le hS (d := 0) (by omega)
  have q1 := lines_le hS (d := 1) (by omega)
  have q2 := lines_le hS (d := 2) (by omega)
  have e2 : (shdList 2 tp fr sd).length ≤ 16 := by omega
  rcases (show d = 0 ∨ d = 1 ∨ 2 ≤ d by omega) with rfl | rfl | hd
  · omega
  · omega
  · rwa [show shdList d tp fr sd = shdList 2 tp fr sd by unfold shdList; rw [if_neg (by omega), if_neg (by omega)]; rfl]
theorem lits_len {x y z : Int} {tp fr sd : List Int} (hok : ShdOK x y z tp fr sd) : (lits tp fr sd).length ≤ 64 := litTo_len (n := 16) hok.len16 (by omega)
section
variable {x y z : Int} {t o t' o' t2 o2 : Nat} {tp fr sd : List Int} {M : Mem} (h1 : Ints M t o tp) (h2 : Ints M t' o' fr) (h3 : Ints M t2 o2 sd) (hok : ShdOK x y z tp fr sd)
include h1 h2 h3 hok
theorem g_needs : CallsTo PG F.impl_Shadow_needs [.agg [.I x, .I y, .I z, .ref t o tp.length, .ref t' o' fr.length, .ref t2 o2 sd.length]] M (.ref M.length 0 (lits tp fr sd).length)
    (M ++ [some (.row (lineSets x y z (allowedB y z tp fr sd) (lits tp fr sd)) true 1)]) := by
  have hS := hok.1
  have ht := h1.lt
  have ht' := h2.lt
  have ht2 := h3.lt
  have hll := hok.len16
  refine calls_run K.impl_Shadow_needs rfl ?_
  simp (disch := omega) only [C.impl_Shadow_needs, ↓SXd, SXu, slBounds, ↓sop, ↓aop, ↓reduceIte, LV.cells, AOp.dst, LV.I, LV.B, LV.U, LV.S, LV.nil, Nat.reduceEqDiff, Nat.reduceAdd, Nat.reduceMul, Nat.reduceSub, Nat.reduceLeDiff, Nat.reduceBEq, Nat.reduceDiv, Nat.reduceMod, Int.reduceToNat, Int.reduceLT, Int.reduceLE, Int.reduceAdd, Int.reduceSub, Int.reduceMul, Int.reduceEq, Int.reduceNeg, reduceCtorEq, resV, resAll, ARes.ev, LV.flat, ite_true, ite_false, exists_eq_left', exists_eq_left, keyOf, implies_true, fillC, capOf]
  refine callK_of (g_allowed h1.app h2.app h3.app hok) ?_
  simp (disch := omega) only [↓SXd, SXu, slBounds, ↓sop, ↓aop, ↓reduceIte, LV.cells, AOp.dst, LV.I, LV.B, LV.U, LV.S, LV.nil, Nat.reduceEqDiff, Nat.reduceAdd, Nat.reduceMul, Nat.reduceSub, Nat.reduceLeDiff, Nat.reduceBEq, Nat.reduceDiv, Nat.reduceMod, Int.reduceToNat, Int.reduceLT, Int.reduceLE, Int.reduceAdd, Int.reduceSub, Int.reduceMul, Int.reduceEq, Int.reduceNeg, reduceCtorEq, resV, resAll, ARes.ev, LV.flat, ite_true, ite_false, exists_eq_left', exists_eq_left, keyOf, implies_true, fillC, capOf]
  generalize hA : allowedB y z tp fr sd = A
  refine ev_loop (fun m fr1 M' => ∃ d u : Nat, d + m = 3 ∧ Pre M M' ∧ Live M' M.length (.row [.I x, .I y, .I z, .ref t o tp.length, .ref t' o' fr.length, .ref t2 o2 sd.length] true 0) ∧ Live M' u (.row (lineSets x y z A (litTo tp fr sd d 0)) true 1) ∧ M.length < u ∧
    fr1 1 = .ptr M.length 0 ∧ fr1 3 = .ref u 0 (litTo tp fr sd d 0).length ∧ fr1 4 = .W (bs x y z A) ∧ fr1 11 = .I d) 3
    ⟨0, M.length + 1, rfl, Pre.app _ _, Live.new, Live.newj rfl, by omega, rfl, rfl, rfl, rfl⟩ ?_
  rintro m fr1 M' ⟨d, u, hd, hpre, b1, bu, hu, f1, f3, f4, f11⟩
  simp (disch := omega) only [f1, f3, f4, f11, ↓SXd, SXu, slBounds, ↓sop, ↓aop, ↓reduceIte, LV.cells, AOp.dst, LV.I, LV.B, LV.U, LV.S, LV.nil, Nat.reduceEqDiff, Nat.reduceAdd, Nat.reduceMul, Nat.reduceSub, Nat.reduceLeDiff, Nat.reduceBEq, Nat.reduceDiv, Nat.reduceMod, Int.reduceToNat, Int.reduceLT, Int.reduceLE, Int.reduceAdd, Int.reduceSub, Int.reduceMul, Int.reduceEq, Int.reduceNeg, reduceCtorEq, resV, resAll, ARes.ev, LV.flat, ite_true, ite_false, exists_eq_left', exists_eq_left, keyOf, implies_true, fillC, capOf]
  refine condC_dec (fun hlt => ?_) (fun hlt => ?_)
  · have hd3 : d < 3 := by omega
    obtain ⟨tt, oo, hq, hI⟩ : ∃ tt oo, (if d = 0 then LV.ref t2 o2 sd.length else if d = 1 then LV.ref t' o' fr.length else LV.ref t o tp.length) = .ref tt oo (shdList d tp fr sd).length ∧ Ints M tt oo (shdList d tp fr sd) := by
      unfold shdList
      rcases (show d = 0 ∨ d = 1 ∨ d = 2 by omega) with rfl | rfl | rfl
      · exact ⟨_, _, rfl, h3⟩
      · exact ⟨_, _, rfl, h2⟩
      · exact ⟨_, _, rfl, h1⟩
    have hMl := hpre.1
    have hlist := g_Shadow_list (x := x) (y := y) (z := z) (t := t) (t' := t') (t2 := t2) (o := o) (o' := o') (o2 := o2) (n := tp.length) (n' := fr.length) (n2 := sd.length) (M := M' ++ [some (.row [.I d] true 0)]) hd3 (by simp; omega) (by simp; omega) (by simp; omega)
    rw [hq] at hlist
    have hb1 := b1.lt
    simp (disch := omega) only [f1, f3, f4, f11, splice, b1.app.cells, ↓SXd, SXu, slBounds, ↓sop, ↓aop, ↓reduceIte, LV.cells, AOp.dst, LV.I, LV.B, LV.U, LV.S, LV.nil, Nat.reduceEqDiff, Nat.reduceAdd, Nat.reduceMul, Nat.reduceSub, Nat.reduceLeDiff, Nat.reduceBEq, Nat.reduceDiv, Nat.reduceMod, Int.reduceToNat, Int.reduceLT, Int.reduceLE, Int.reduceAdd, Int.reduceSub, Int.reduceMul, Int.reduceEq, Int.reduceNeg, reduceCtorEq, resV, resAll, ARes.ev, LV.flat, ite_true, ite_false, exists_eq_left', exists_eq_left, keyOf, implies_true, fillC, capOf]
    refine callK_of (hlist) ?_
    simp (disch := omega) only [f1, f3, f4, f11, ↓SXd, SXu, slBounds, ↓sop, ↓aop, ↓reduceIte, LV.cells, AOp.dst, LV.I, LV.B, LV.U, LV.S, LV.nil, Nat.reduceEqDiff, Nat.reduceAdd, Nat.reduceMul, Nat.reduceSub, Nat.reduceLeDiff, Nat.reduceBEq, Nat.reduceDiv, Nat.reduceMod, Int.reduceToNat, Int.reduceLT, Int.reduceLE, Int.reduceAdd, Int.reduceSub, Int.reduceMul, Int.reduceEq, Int.reduceNeg, reduceCtorEq, resV, resAll, ARes.ev, LV.flat, ite_true, ite_false, exists_eq_left', exists_eq_left, keyOf, implies_true, fillC, capOf]
    refine ev_loop (fun m2 fr2 M2 => ∃ i v : Nat, i + m2 = (shdList d tp fr sd).length ∧ Pre M M2 ∧ Live M2 M.length (.row [.I x, .I y, .I z, .ref t o tp.length, .ref t' o' fr.length, .ref t2 o2 sd.length] true 0) ∧ Live M2 M'.length (.row [.I d] true 0) ∧ Live M2 v (.row (lineSets x y z A (litTo tp fr sd d i)) true 1) ∧ M.length < v ∧ v ≠ M'.length ∧
      fr2 1 = .ptr M.length 0 ∧ fr2 3 = .ref v 0 (litTo tp fr sd d i).length ∧ fr2 4 = .W (bs x y z A) ∧ fr2 5 = .ptr M'.length 0 ∧ fr2 11 = .I d ∧ fr2 16 = .ref tt oo (shdList d tp fr sd).length ∧ fr2 17 = .I (shdList d tp fr sd).length ∧ fr2 18 = .I i) (shdList d tp fr sd).length
      ⟨0, u, by omega, hpre.app', b1.app, Live.new, bu.app, hu, by have := bu.lt; omega, f1, f3, f4, rfl, f11, rfl, rfl, rfl⟩ ?_
    rintro m2 fr2 M2 ⟨i, v, hi, p2, c1, c5, cv, hv, hvn, g1, g3, g4, g5, g11, g16, g17, g18⟩
    simp (disch := omega) only [g1, g3, g4, g5, g11, g16, g17, g18, ↓SXd, SXu, slBounds, ↓sop, ↓aop, ↓reduceIte, LV.cells, AOp.dst, LV.I, LV.B, LV.U, LV.S, LV.nil, Nat.reduceEqDiff, Nat.reduceAdd, Nat.reduceMul, Nat.reduceSub, Nat.reduceLeDiff, Nat.reduceBEq, Nat.reduceDiv, Nat.reduceMod, Int.reduceToNat, Int.reduceLT, Int.reduceLE, Int.reduceAdd, Int.reduceSub, Int.reduceMul, Int.reduceEq, Int.reduceNeg, reduceCtorEq, resV, resAll, ARes.ev, LV.flat, ite_true, ite_false, exists_eq_left', exists_eq_left, keyOf, implies_true, fillC, capOf]
    refine condC_dec (fun hlt2 => ?_) (fun hlt2 => ?_)
    · have hil : i < (shdList d tp fr sd).length := by omega
      have hgx := Ints.get ((hI.pre p2).app (L := [some (.row [.I 0] true 0)])) hil
      have hgx0 := Ints.get (hI.pre p2) hil
      have hll1 := hll d
      have hlen := litTo_len (tp := tp) (fr := fr) (sd := sd) (n := 16) hll (d := d) (i := i) (by have := hll d; omega)
      have hls : (litTo tp fr sd d i).length ≤ 64 := by
        have : (d + 1) * 16 ≤ 48 := by omega
        omega
      have hsucc := litTo_succ (tp := tp) (fr := fr) (sd := sd) (d := d) (i := i)
      simp (disch := omega) only [g1, g3, g4, g5, g11, g16, g17, g18, hgx0, hgx, splice, Nat.mul_one, ↓SXd, SXu, slBounds, ↓sop, ↓aop, ↓reduceIte, LV.cells, AOp.dst, LV.I, LV.B, LV.U, LV.S, LV.nil, Nat.reduceEqDiff, Nat.reduceAdd, Nat.reduceMul, Nat.reduceSub, Nat.reduceLeDiff, Nat.reduceBEq, Nat.reduceDiv, Nat.reduceMod, Int.reduceToNat, Int.reduceLT, Int.reduceLE, Int.reduceAdd, Int.reduceSub, Int.reduceMul, Int.reduceEq, Int.reduceNeg, reduceCtorEq, resV, resAll, ARes.ev, LV.flat, ite_true, ite_false, exists_eq_left', exists_eq_left, keyOf, implies_true, fillC, capOf]
      by_cases hz : (shdList d tp fr sd).getD i 0 = 1
      · rw [if_pos hz] at hsucc
        have hc1 := c1.lt
        simp (disch := omega) only [g1, g3, g4, g5, g11, g16, g17, g18, hz, c1.app.cells, ↓SXd, SXu, slBounds, ↓sop, ↓aop, ↓reduceIte, LV.cells, AOp.dst, LV.I, LV.B, LV.U, LV.S, LV.nil, Nat.reduceEqDiff, Nat.reduceAdd, Nat.reduceMul, Nat.reduceSub, Nat.reduceLeDiff, Nat.reduceBEq, Nat.reduceDiv, Nat.reduceMod, Int.reduceToNat, Int.reduceLT, Int.reduceLE, Int.reduceAdd, Int.reduceSub, Int.reduceMul, Int.reduceEq, Int.reduceNeg, reduceCtorEq, resV, resAll, ARes.ev, LV.flat, ite_true, ite_false, exists_eq_left', exists_eq_left, keyOf, implies_true, fillC, capOf]
        refine callK_of (g_Shadow_box) ?_
        simp (disch := omega) only [g1, g3, g4, g5, g11, g16, g17, g18, ↓SXd, SXu, slBounds, ↓sop, ↓aop, ↓reduceIte, LV.cells, AOp.dst, LV.I, LV.B, LV.U, LV.S, LV.nil, Nat.reduceEqDiff, Nat.reduceAdd, Nat.reduceMul, Nat.reduceSub, Nat.reduceLeDiff, Nat.reduceBEq, Nat.reduceDiv, Nat.reduceMod, Int.reduceToNat, Int.reduceLT, Int.reduceLE, Int.reduceAdd, Int.reduceSub, Int.reduceMul, Int.reduceEq, Int.reduceNeg, reduceCtorEq, resV, resAll, ARes.ev, LV.flat, ite_true, ite_false, exists_eq_left', exists_eq_left, keyOf, implies_true, fillC, capOf]
        refine callK_of (g_those hS (p := onLine y z d i) (f := F.impl_Shadow_needs_1) (caps := [(M.length, 0), (M'.length, 0), (M2.length, 0)]) fun M3 hp j hj => ?_) ?_
        · exact g_needs_1 hS (cellAt_in hS (by omega) (by have := (vol_cast hS).1; omega)).1 hd3 (c1.app.pre hp) (c5.app.pre hp) (Live.new.pre hp)
        simp (disch := omega) only [g1, g3, g4, g5, g11, g16, g17, g18, ↓SXd, SXu, slBounds, ↓sop, ↓aop, ↓reduceIte, LV.cells, AOp.dst, LV.I, LV.B, LV.U, LV.S, LV.nil, Nat.reduceEqDiff, Nat.reduceAdd, Nat.reduceMul, Nat.reduceSub, Nat.reduceLeDiff, Nat.reduceBEq, Nat.reduceDiv, Nat.reduceMod, Int.reduceToNat, Int.reduceLT, Int.reduceLE, Int.reduceAdd, Int.reduceSub, Int.reduceMul, Int.reduceEq, Int.reduceNeg, reduceCtorEq, resV, resAll, ARes.ev, LV.flat, ite_true, ite_false, exists_eq_left', exists_eq_left, keyOf, implies_true, fillC, capOf]
        rw [bs_and hS]
        refine appendK_1a (acc := lineSets x y z A (litTo tp fr sd d i)) (new := [.W (bs x y z (inLine y z A (d, i)))]) cv.app (by rw [lineSets_len]; omega) rfl (by omega) (by omega) (by omega) fun N l1 l2 l3 => ?_
        simp (disch := omega) only [g1, g3, g4, g5, g11, g16, g17, g18, ↓SXd, SXu, slBounds, ↓sop, ↓aop, ↓reduceIte, LV.cells, AOp.dst, LV.I, LV.B, LV.U, LV.S, LV.nil, Nat.reduceEqDiff, Nat.reduceAdd, Nat.reduceMul, Nat.reduceSub, Nat.reduceLeDiff, Nat.reduceBEq, Nat.reduceDiv, Nat.reduceMod, Int.reduceToNat, Int.reduceLT, Int.reduceLE, Int.reduceAdd, Int.reduceSub, Int.reduceMul, Int.reduceEq, Int.reduceNeg, reduceCtorEq, resV, resAll, ARes.ev, LV.flat, ite_true, ite_false, exists_eq_left', exists_eq_left, keyOf, implies_true, fillC, capOf]
        have hcv := cv.lt
        have hc5 := c5.lt
        have hpl := p2.1
        have e : lineSets x y z A (litTo tp fr sd d i) ++ [.W (bs x y z (inLine y z A (d, i)))] = lineSets x y z A (litTo tp fr sd d (i + 1)) := by
          rw [hsucc]; unfold lineSets; rw [List.map_append]; rfl
        rw [e] at l2
        have l3' : ∀ u, u ≠ v → u < (M2 ++ [some (Blk.row [.I i] true 0)]).length → N[u]? = (M2 ++ [some (Blk.row [.I i] true 0)])[u]? := by simpa using l3
        exact ⟨m2 - 1, by omega, i + 1, M2.length + 2, by omega, pre_step (p2.app' (L := [some (.row [.I i] true 0)])) (by omega) (j := 2) (by simp; omega) l3', live_step c1.app (by omega) l3', live_step c5.app (by omega) l3', l2, by omega, by omega, g1, by rw [hsucc, List.length_append, List.length_singleton]; rfl, g4, g5, g11, g16, g17, eqI (natI _)⟩
      · rw [if_neg hz, List.append_nil] at hsucc
        simp (disch := omega) only [g1, g3, g4, g5, g11, g16, g17, g18, hz, ↓SXd, SXu, slBounds, ↓sop, ↓aop, ↓reduceIte, LV.cells, AOp.dst, LV.I, LV.B, LV.U, LV.S, LV.nil, Nat.reduceEqDiff, Nat.reduceAdd, Nat.reduceMul, Nat.reduceSub, Nat.reduceLeDiff, Nat.reduceBEq, Nat.reduceDiv, Nat.reduceMod, Int.reduceToNat, Int.reduceLT, Int.reduceLE, Int.reduceAdd, Int.reduceSub, Int.reduceMul, Int.reduceEq, Int.reduceNeg, reduceCtorEq, resV, resAll, ARes.ev, LV.flat, ite_true, ite_false, exists_eq_left', exists_eq_left, keyOf, implies_true, fillC, capOf]
        rw [← hsucc] at cv g3
        have hcv := cv.lt
        exact ⟨m2 - 1, by omega, i + 1, v, by omega, p2.app', c1.app, c5.app, cv.app, hv, hvn, g1, g3, g4, g5, g11, g16, g17, eqI (natI _)⟩
    · simp (disch := omega) only [g1, g3, g4, g5, g11, g16, g17, g18, ↓SXd, SXu, slBounds, ↓sop, ↓aop, ↓reduceIte, LV.cells, AOp.dst, LV.I, LV.B, LV.U, LV.S, LV.nil, Nat.reduceEqDiff, Nat.reduceAdd, Nat.reduceMul, Nat.reduceSub, Nat.reduceLeDiff, Nat.reduceBEq, Nat.reduceDiv, Nat.reduceMod, Int.reduceToNat, Int.reduceLT, Int.reduceLE, Int.reduceAdd, Int.reduceSub, Int.reduceMul, Int.reduceEq, Int.reduceNeg, reduceCtorEq, resV, resAll, ARes.ev, LV.flat, ite_true, ite_false, exists_eq_left', exists_eq_left, keyOf, implies_true, fillC, capOf]
      have : i = (shdList d tp fr sd).length := by omega
      subst this
      rw [litTo_next] at cv g3
      exact ⟨m - 1, by omega, d + 1, v, by omega, p2, c1, cv, hv, g1, g3, g4, eqI (natI _)⟩
  · simp (disch := omega) only [f1, f3, f4, f11, ↓SXd, SXu, slBounds, ↓sop, ↓aop, ↓reduceIte, LV.cells, AOp.dst, LV.I, LV.B, LV.U, LV.S, LV.nil, Nat.reduceEqDiff, Nat.reduceAdd, Nat.reduceMul, Nat.reduceSub, Nat.reduceLeDiff, Nat.reduceBEq, Nat.reduceDiv, Nat.reduceMod, Int.reduceToNat, Int.reduceLT, Int.reduceLE, Int.reduceAdd, Int.reduceSub, Int.reduceMul, Int.reduceEq, Int.reduceNeg, reduceCtorEq, resV, resAll, ARes.ev, LV.flat, ite_true, ite_false, exists_eq_left', exists_eq_left, keyOf, implies_true, fillC, capOf]
    have : d = 3 := by omega
    subst this
    exact cmp_keepL hpre (by omega) bu lineSets_lo (by simp [rn, rn0, rn1, lits])
theorem g_must : CallsTo PG F.impl_Shadow_must [.agg [.I x, .I y, .I z, .ref t o tp.length, .ref t' o' fr.length, .ref t2 o2 sd.length]] M (.W (bs x y z (mustTo x y z (allowedB y z tp fr sd) (lits tp fr sd)))) M := by
  have hS := hok.1
  have ht := h1.lt
  have ht' := h2.lt
  have ht2 := h3.lt
  refine calls_run K.impl_Shadow_must rfl ?_
  simp (disch := omega) only [C.impl_Shadow_must, ↓SXd, SXu, slBounds, ↓sop, ↓aop, ↓reduceIte, LV.cells, AOp.dst, LV.I, LV.B, LV.U, LV.S, LV.nil, Nat.reduceEqDiff, Nat.reduceAdd, Nat.reduceMul, Nat.reduceSub, Nat.reduceLeDiff, Nat.reduceBEq, Nat.reduceDiv, Nat.reduceMod, Int.reduceToNat, Int.reduceLT, Int.reduceLE, Int.reduceAdd, Int.reduceSub, Int.reduceMul, Int.reduceEq, Int.reduceNeg, reduceCtorEq, resV, resAll, ARes.ev, LV.flat, ite_true, ite_false, exists_eq_left', exists_eq_left, keyOf, implies_true, fillC, capOf]
  refine callN_of (g_needs h1.app h2.app h3.app hok) ?_
  intro u N hu hp hn
  generalize allowedB y z tp fr sd = A at hn ⊢
  have hLl := lits_len hok
  generalize lits tp fr sd = L at hn hLl ⊢
  simp (disch := omega) only [↓SXd, SXu, slBounds, ↓sop, ↓aop, ↓reduceIte, LV.cells, AOp.dst, LV.I, LV.B, LV.U, LV.S, LV.nil, Nat.reduceEqDiff, Nat.reduceAdd, Nat.reduceMul, Nat.reduceSub, Nat.reduceLeDiff, Nat.reduceBEq, Nat.reduceDiv, Nat.reduceMod, Int.reduceToNat, Int.reduceLT, Int.reduceLE, Int.reduceAdd, Int.reduceSub, Int.reduceMul, Int.reduceEq, Int.reduceNeg, reduceCtorEq, resV, resAll, ARes.ev, LV.flat, ite_true, ite_false, exists_eq_left', exists_eq_left, keyOf, implies_true, fillC, capOf]
  have hpM : Pre M N := (Pre.app _ _).trans hp
  refine ev_loop (fun m fr1 M' => ∃ i : Nat, i + m = L.length ∧ M' = N ∧ fr1 3 = .W (bs x y z (mustTo x y z A (L.take i))) ∧ fr1 7 = .ref u 0 L.length ∧ fr1 8 = .I L.length ∧ fr1 9 = .I i) L.length
    ⟨0, by omega, rfl, by rw [show bs x y z (mustTo x y z A (L.take 0)) = 0#64 from (bs_zero hS).2 fun c _ => by simp [mustTo]]; rfl, rfl, rfl, rfl⟩ ?_
  rintro m fr1 M' ⟨i, hi, rfl, f3, f7, f8, f9⟩
  simp (disch := omega) only [f3, f7, f8, f9, ↓SXd, SXu, slBounds, ↓sop, ↓aop, ↓reduceIte, LV.cells, AOp.dst, LV.I, LV.B, LV.U, LV.S, LV.nil, Nat.reduceEqDiff, Nat.reduceAdd, Nat.reduceMul, Nat.reduceSub, Nat.reduceLeDiff, Nat.reduceBEq, Nat.reduceDiv, Nat.reduceMod, Int.reduceToNat, Int.reduceLT, Int.reduceLE, Int.reduceAdd, Int.reduceSub, Int.reduceMul, Int.reduceEq, Int.reduceNeg, reduceCtorEq, resV, resAll, ARes.ev, LV.flat, ite_true, ite_false, exists_eq_left', exists_eq_left, keyOf, implies_true, fillC, capOf]
  refine condC_dec (fun hlt => ?_) (fun hlt => ?_)
  · have hil : i < L.length := by omega
    have hg := hn.cell (o := i)
    rw [lineSets_get hil] at hg
    have hts : L.take (i + 1) = L.take i ++ [L.getD i (0, 0)] := by
      rw [List.take_succ, List.getElem?_eq_getElem hil]; simp [hil]
    have hsn := fun c => mustTo_snoc (x := x) (y := y) (z := z) (p := A) (L := L.take i) (q := L.getD i (0, 0)) (c := c)
    rw [← hts] at hsn
    generalize L.getD i (0, 0) = q at hg hsn
    simp (disch := omega) only [f3, f7, f8, f9, hg, Nat.mul_one, ↓SXd, SXu, slBounds, ↓sop, ↓aop, ↓reduceIte, LV.cells, AOp.dst, LV.I, LV.B, LV.U, LV.S, LV.nil, Nat.reduceEqDiff, Nat.reduceAdd, Nat.reduceMul, Nat.reduceSub, Nat.reduceLeDiff, Nat.reduceBEq, Nat.reduceDiv, Nat.reduceMod, Int.reduceToNat, Int.reduceLT, Int.reduceLE, Int.reduceAdd, Int.reduceSub, Int.reduceMul, Int.reduceEq, Int.reduceNeg, reduceCtorEq, resV, resAll, ARes.ev, LV.flat, ite_true, ite_false, exists_eq_left', exists_eq_left, keyOf, implies_true, fillC, capOf]
    refine callK_of (g_countB hS) ?_
    simp (disch := omega) only [f3, f7, f8, f9, ↓SXd, SXu, slBounds, ↓sop, ↓aop, ↓reduceIte, LV.cells, AOp.dst, LV.I, LV.B, LV.U, LV.S, LV.nil, Nat.reduceEqDiff, Nat.reduceAdd, Nat.reduceMul, Nat.reduceSub, Nat.reduceLeDiff, Nat.reduceBEq, Nat.reduceDiv, Nat.reduceMod, Int.reduceToNat, Int.reduceLT, Int.reduceLE, Int.reduceAdd, Int.reduceSub, Int.reduceMul, Int.reduceEq, Int.reduceNeg, reduceCtorEq, resV, resAll, ARes.ev, LV.flat, ite_true, ite_false, exists_eq_left', exists_eq_left, keyOf, implies_true, fillC, capOf]
    by_cases hc : (((pick x y z (inLine y z A q)).length : Nat) : Int) = 1
    · simp (disch := omega) only [f3, f7, f8, f9, hc, ↓SXd, SXu, slBounds, ↓sop, ↓aop, ↓reduceIte, LV.cells, AOp.dst, LV.I, LV.B, LV.U, LV.S, LV.nil, Nat.reduceEqDiff, Nat.reduceAdd, Nat.reduceMul, Nat.reduceSub, Nat.reduceLeDiff, Nat.reduceBEq, Nat.reduceDiv, Nat.reduceMod, Int.reduceToNat, Int.reduceLT, Int.reduceLE, Int.reduceAdd, Int.reduceSub, Int.reduceMul, Int.reduceEq, Int.reduceNeg, reduceCtorEq, resV, resAll, ARes.ev, LV.flat, ite_true, ite_false, exists_eq_left', exists_eq_left, keyOf, implies_true, fillC, capOf]
      rw [bs_or hS]
      exact ⟨m - 1, by omega, i + 1, by omega, rfl, by
        rw [(bs_eq hS).2 fun c _ => show (mustTo x y z A (L.take i) c || inLine y z A q c) = mustTo x y z A (L.take (i + 1)) c by rw [hsn, decide_eq_true (by omega), Bool.true_and]]; rfl, f7, f8, eqI (natI _)⟩
    · simp (disch := omega) only [f3, f7, f8, f9, hc, ↓SXd, SXu, slBounds, ↓sop, ↓aop, ↓reduceIte, LV.cells, AOp.dst, LV.I, LV.B, LV.U, LV.S, LV.nil, Nat.reduceEqDiff, Nat.reduceAdd, Nat.reduceMul, Nat.reduceSub, Nat.reduceLeDiff, Nat.reduceBEq, Nat.reduceDiv, Nat.reduceMod, Int.reduceToNat, Int.reduceLT, Int.reduceLE, Int.reduceAdd, Int.reduceSub, Int.reduceMul, Int.reduceEq, Int.reduceNeg, reduceCtorEq, resV, resAll, ARes.ev, LV.flat, ite_true, ite_false, exists_eq_left', exists_eq_left, keyOf, implies_true, fillC, capOf]
      exact ⟨m - 1, by omega, i + 1, by omega, rfl, by
        show fr1 3 = _
        rw [f3, (bs_eq hS).2 fun c _ => show mustTo x y z A (L.take i) c = mustTo x y z A (L.take (i + 1)) c by rw [hsn, decide_eq_false (by omega), Bool.false_and, Bool.or_false]], f7, f8, eqI (natI _)⟩
  · simp (disch := omega) only [f3, f7, f8, f9, ↓SXd, SXu, slBounds, ↓sop, ↓aop, ↓reduceIte, LV.cells, AOp.dst, LV.I, LV.B, LV.U, LV.S, LV.nil, Nat.reduceEqDiff, Nat.reduceAdd, Nat.reduceMul, Nat.reduceSub, Nat.reduceLeDiff, Nat.reduceBEq, Nat.reduceDiv, Nat.reduceMod, Int.reduceToNat, Int.reduceLT, Int.reduceLE, Int.reduceAdd, Int.reduceSub, Int.reduceMul, Int.reduceEq, Int.reduceNeg, reduceCtorEq, resV, resAll, ARes.ev, LV.flat, ite_true, ite_false, exists_eq_left', exists_eq_left, keyOf, implies_true, fillC, capOf]
    have : i = L.length := by omega
    subst this
    rw [List.take_length]
    exact cmp_pre hpM rfl
end
end Go.Ab

/- Contracts: cells that must be, the reference's side; MustCells and SpareCells, both sides. -/
namespace Go.Ab
open Go
set_option linter.unusedSimpArgs false
set_option linter.unusedVariables false
set_option maxRecDepth 20000

/-- Of the allowed cells those that must be (sp false), or the others. -/
def parted (x y z : Int) (tp fr sd : List Int) (sp : Bool) : List Cell := (pick x y z (allowedB y z tp fr sd)).filter fun c => aloneK y z (pick x y z (allowedB y z tp fr sd)) 3 c != sp
section
variable {x y z : Int} {t o t' o' t2 o2 : Nat} {tp fr sd : List Int} {M : Mem} (h1 : Ints M t o tp) (h2 : Ints M t' o' fr) (h3 : Ints M t2 o2 sd)
include h1 h2 h3
end
end Go.Ab

/- Contracts: MustCells and SpareCells, both sides. -/
namespace Go.Ab
open Go
set_option linter.unusedSimpArgs false
set_option linter.unusedVariables false
set_option maxRecDepth 20000

/-- A valid shadow whose lists fit together. -/
def Fits (x y z : Int) (tp fr sd : List Int) : Prop := ShdOK x y z tp fr sd ∧ HasShd x y z tp fr sd (pick x y z (allowedB y z tp fr sd))
instance (x y z : Int) (tp fr sd : List Int) : Decidable (Fits x y z tp fr sd) := by unfold Fits; exact inferInstance
theorem parted_pick {x y z : Int} {tp fr sd : List Int} {sp : Bool} (hok : ShdOK x y z tp fr sd) :
    parted x y z tp fr sd sp = pick x y z fun c => allowedB y z tp fr sd c && (mustTo x y z (allowedB y z tp fr sd) (lits tp fr sd) c != sp) := by
  unfold parted
  rw [show ∀ q, (pick x y z (allowedB y z tp fr sd)).filter q = pick x y z fun c => allowedB y z tp fr sd c && q c from fun q => by unfold pick; rw [List.filter_filter]; apply List.filter_congr; intro c _; rw [Bool.and_comm]]
  refine pick_congr hok.1 fun c hc => ?_
  rw [must_eq hok hc]
  cases allowedB y z tp fr sd c <;> simp
theorem parted_must {x y z : Int} {tp fr sd : List Int} (hok : ShdOK x y z tp fr sd) : parted x y z tp fr sd false = pick x y z (mustTo x y z (allowedB y z tp fr sd) (lits tp fr sd)) := by
  rw [parted_pick hok]
  refine pick_congr hok.1 fun c hc => ?_
  rw [must_eq hok hc]
  cases allowedB y z tp fr sd c <;> simp
def partOf (x y z : Int) (tp fr sd : List Int) (sp : Bool) : Option (List Cell) := if Fits x y z tp fr sd then some (parted x y z tp fr sd sp) else none
section
variable {x y z : Int} {t o t' o' t2 o2 : Nat} {tp fr sd : List Int} {M : Mem} (h1 : Ints M t o tp) (h2 : Ints M t' o' fr) (h3 : Ints M t2 o2 sd) (l1 : tp.length ≤ 1000000000) (l2 : fr.length ≤ 1000000000) (l3 : sd.length ≤ 1000000000)
include h1 h2 h3 l1 l2 l3
end
end Go.Ab

/- Plain: fewest cubes that meet all lines. -/
namespace Go.Ab
open Go
set_option linter.unusedSimpArgs false
set_option linter.unusedVariables false

section
variable (y z : Int) (L : List (Nat × Nat))
/-- The first sublist of n more cells, in the order of the list, with which the chosen ones meet all lines. -/
def fc : List Cell → List Cell → Nat → Option (List Cell)
  | _, ch, 0 => if Meets y z L ch then some ch else none
  | [], _, _ + 1 => none
  | c :: rest, ch, n + 1 => match fc rest (ch ++ [c]) n with
    | some r => some r
    | none => fc rest ch (n + 1)
end
section
variable {y z : Int} {L : List (Nat × Nat)}
theorem fc_some : ∀ {rest ch : List Cell} {n : Nat} {r : List Cell}, fc y z L rest ch n = some r → ∃ T, T.Sublist rest ∧ T.length = n ∧ r = ch ++ T ∧ Meets y z L r
  | rest, ch, 0, r, h => by
    unfold fc at h
    split at h
    · rename_i hm
      cases h
      exact ⟨[], List.nil_sublist _, rfl, by simp, hm⟩
    · cases h
  | [], ch, n + 1, r, h => by unfold fc at h; cases h
  | c :: rest, ch, n + 1, r, h => by
    unfold fc at h
    split at h
    · rename_i r' hr
      cases h
      obtain ⟨T, h1, h2, h3, h4⟩ := fc_some hr
      exact ⟨c :: T, h1.cons_cons c, by simp [h2], by rw [h3, List.append_assoc]; rfl, h4⟩
    · obtain ⟨T, h1, h2, h3, h4⟩ := fc_some h
      exact ⟨T, h1.cons c, h2, h3, h4⟩
theorem fc_none : ∀ {rest ch : List Cell} {n : Nat}, fc y z L rest ch n = none → ∀ T, T.Sublist rest → T.length = n → ¬ Meets y z L (ch ++ T)
  | rest, ch, 0, h, T, _, hl => by
    have : T = [] := List.eq_nil_of_length_eq_zero hl
    subst this
    rw [List.append_nil]
    intro hm
    unfold fc at h
    rw [if_pos hm] at h; cases h
  | [], ch, n + 1, h, T, hs, hl => by
    have : T = [] := List.sublist_nil.1 hs
    subst this; simp at hl
  | c :: rest, ch, n + 1, h, T, hs, hl => by
    unfold fc at h
    split at h
    · cases h
    · rename_i hr
      cases hs with
      | cons _ hs => exact fc_none h T hs hl
      | cons_cons _ hs =>
        rename_i T'
        intro hm
        exact fc_none hr T' hs (by simpa using hl) (by rw [List.append_assoc]; exact hm)
theorem fc_isSome {rest ch : List Cell} {n : Nat} : (fc y z L rest ch n).isSome = true ↔ ∃ T, T.Sublist rest ∧ T.length = n ∧ Meets y z L (ch ++ T) := by
  constructor
  · intro h
    obtain ⟨r, hr⟩ := Option.isSome_iff_exists.1 h
    obtain ⟨T, h1, h2, h3, h4⟩ := fc_some hr
    exact ⟨T, h1, h2, by rw [← h3]; exact h4⟩
  · rintro ⟨T, h1, h2, h3⟩
    cases hf : fc y z L rest ch n with
    | some r => rfl
    | none => exact absurd h3 (fc_none hf T h1 h2)
theorem Meets.mono {cs ds : List Cell} (h : Meets y z L cs) (hs : ∀ c ∈ cs, c ∈ ds) : Meets y z L ds := fun q hq => by
  obtain ⟨c, hc, ho⟩ := h q hq
  exact ⟨c, hs c hc, ho⟩
/-- Some cells of a list, at most so many, not among others, meet with the chosen ones all lines. -/
def Cov (y z : Int) (L : List (Nat × Nat)) (al : List Cell) (p w : Cell → Bool) (n : Nat) : Prop := ∃ T : List Cell, T.length ≤ n ∧ (∀ c ∈ T, w c = false) ∧ ∀ q ∈ L, ∃ c ∈ al, onLine y z q.1 q.2 c = true ∧ (p c = true ∨ c ∈ T)
noncomputable instance instDecCov {al : List Cell} {p w : Cell → Bool} {n : Nat} : Decidable (Cov y z L al p w n) := Classical.propDecidable _
end
end Go.Ab

/- Contracts: whether cells can meet all dark lines, the reference's side. -/
namespace Go.Ab
open Go
set_option linter.unusedSimpArgs false
set_option linter.unusedVariables false
set_option maxRecDepth 20000

def seenTo (y z : Int) (tp fr : List Int) (V : List Bool) (c : Cell) : Nat → List Bool
  | 0 => V
  | k + 1 => (seenTo y z tp fr V c k).set (gl y z tp fr (2 - k) c) true
theorem seenTo_len {y z : Int} {tp fr : List Int} {V : List Bool} {c : Cell} : ∀ {k : Nat}, (seenTo y z tp fr V c k).length = V.length
  | 0 => rfl
  | k + 1 => by rw [seenTo, List.length_set, seenTo_len]
def seenL (y z : Int) (tp fr : List Int) (n : Nat) (cs : List Cell) : List Bool := cs.foldl (fun V c => seenTo y z tp fr V c 3) (List.replicate n false)
theorem seenF_len {y z : Int} {tp fr : List Int} : ∀ {cs : List Cell} {V : List Bool}, (cs.foldl (fun V c => seenTo y z tp fr V c 3) V).length = V.length
  | [], _ => rfl
  | c :: cs, V => by rw [List.foldl_cons, seenF_len, seenTo_len]
theorem set_t {v : List Bool} {k n : Nat} (h : n < v.length) : (v.set k true).getD n false = true ↔ v.getD n false = true ∨ k = n := by
  rw [getD_set]
  by_cases e : n = k
  · subst e; rw [if_pos ⟨rfl, h⟩]; simp
  · rw [if_neg (fun h => e h.1)]
    exact ⟨fun h => .inl h, fun h => h.elim id fun k => absurd k.symm e⟩
theorem seenTo_get {y z : Int} {tp fr : List Int} {V : List Bool} {c : Cell} {n : Nat} (h : n < V.length) : (seenTo y z tp fr V c 3).getD n false = true ↔ V.getD n false = true ∨ ∃ d, d < 3 ∧ gl y z tp fr d c = n := by
  show (((V.set (gl y z tp fr 2 c) true).set (gl y z tp fr 1 c) true).set (gl y z tp fr 0 c) true).getD n false = true ↔ _
  rw [set_t (by simpa using h), set_t (by simpa using h), set_t h]
  constructor
  · rintro (((h | h) | h) | h)
    · exact .inl h
    · exact .inr ⟨2, by omega, h⟩
    · exact .inr ⟨1, by omega, h⟩
    · exact .inr ⟨0, by omega, h⟩
  · rintro (h | ⟨d, hd, h⟩)
    · exact .inl (.inl (.inl h))
    · rcases (show d = 0 ∨ d = 1 ∨ d = 2 by omega) with rfl | rfl | rfl
      · exact .inr h
      · exact .inl (.inr h)
      · exact .inl (.inl (.inr h))
theorem seenF_get {y z : Int} {tp fr : List Int} {n : Nat} : ∀ {cs : List Cell} {V : List Bool}, n < V.length → ((cs.foldl (fun V c => seenTo y z tp fr V c 3) V).getD n false = true ↔ V.getD n false = true ∨ ∃ c ∈ cs, ∃ d, d < 3 ∧ gl y z tp fr d c = n)
  | [], V, _ => by simp
  | c :: cs, V, h => by
    rw [List.foldl_cons, seenF_get (by rw [seenTo_len]; exact h), seenTo_get h]
    constructor
    · rintro ((h | ⟨d, hd, e⟩) | ⟨e, he, d, hd, k⟩)
      · exact .inl h
      · exact .inr ⟨c, by simp, d, hd, e⟩
      · exact .inr ⟨e, by simp [he], d, hd, k⟩
    · rintro (h | ⟨e, he, d, hd, k⟩)
      · exact .inl (.inl h)
      · rcases List.mem_cons.1 he with rfl | he
        · exact .inl (.inr ⟨d, hd, k⟩)
        · exact .inr ⟨e, he, d, hd, k⟩
/-- Each dark line has a cell of the list. -/
def CanMeet (y z : Int) (tp fr : List Int) (D : List Bool) (cs : List Cell) : Prop := ∀ n, n < D.length → D.getD n false = true → (seenL y z tp fr D.length cs).getD n false = true
noncomputable instance {y z : Int} {tp fr : List Int} {D : List Bool} {cs : List Cell} : Decidable (CanMeet y z tp fr D cs) := Classical.propDecidable _
theorem canMeet_iff {y z : Int} {tp fr : List Int} {D : List Bool} {cs : List Cell} : CanMeet y z tp fr D cs ↔ ∀ n, n < D.length → D.getD n false = true → ∃ c ∈ cs, ∃ d, d < 3 ∧ gl y z tp fr d c = n := by
  unfold CanMeet seenL
  constructor
  · intro h n hn hd
    have := (seenF_get (by simpa using hn)).1 (h n hn hd)
    rcases this with h | h
    · rw [List.getD_eq_getElem?_getD, List.getElem?_replicate, if_pos hn] at h; cases h
    · exact h
  · intro h n hn hd
    exact (seenF_get (by simpa using hn)).2 (.inr (h n hn hd))

theorem made_bool (n : Nat) : (List.replicate n [LV.val (Value.bool false)]).flatten = boolL (List.replicate n false) := by
  simp [boolL]
theorem h_l3Can {x y z : Int} {a b c' : LV} {q r e : Nat} {w : Bool} {tp fr sd : List Int} {cs : List Cell} {D : List Bool} {M : Mem} (hok : ShdOK x y z tp fr sd) (ha : a.one = true ∧ a.cells = some [a]) (hb : b.one = true ∧ b.cells = some [b]) (hc' : c'.one = true ∧ c'.cells = some [c'])
    (h : Tri M q r cs) (hin : ∀ c ∈ cs, c.inBox x y z) (hn : cs.length ≤ 1000000) (hD : Live M e (.row (boolL D) w 1)) (hDl : D.length = tp.length + fr.length + sd.length) :
    CallsTo PG F.spec_l3Can [.agg [.I x, .I y, .I z, a, b, c'], .ref q r cs.length, .ref e 0 D.length] M (.B (decide (CanMeet y z tp fr D cs))) M := by
  have hS := hok.1
  have hq := h.lt
  have he := hD.lt
  have b0 : ((sd.length : Nat) : Int) = y * z := hok.2.2.2.2
  have b1 : ((fr.length : Nat) : Int) = x * z := hok.2.2.1.2
  have b2 : ((tp.length : Nat) : Int) = x * y := hok.2.1.2
  obtain ⟨⟨_, _⟩, ⟨_, _⟩, ⟨_, _⟩⟩ := prod_le hS
  have hglb : ∀ c ∈ cs, ∀ d, d < 3 → gl y z tp fr d c < D.length := fun c hc d hd => by
    have l0 := lineOf_in hS (hin c hc) (d := 0) (by omega)
    have l1 := lineOf_in hS (hin c hc) (d := 1) (by omega)
    have l2 := lineOf_in hS (hin c hc) (d := 2) (by omega)
    have q0 : linesOf x y z 0 = y * z := rfl
    have q1 : linesOf x y z 1 = x * z := rfl
    have q2 : linesOf x y z 2 = x * y := rfl
    rcases (show d = 0 ∨ d = 1 ∨ d = 2 by omega) with rfl | rfl | rfl
    · simp only [gl, show offL tp fr 0 = tp.length + fr.length from rfl]; omega
    · simp only [gl, show offL tp fr 1 = tp.length from rfl]; omega
    · simp only [gl, show offL tp fr 2 = 0 from rfl]; omega
  refine calls_run K.spec_l3Can rfl ?_
  simp (disch := omega) only [C.spec_l3Can, made_bool, ha, hb, hc', ↓SXd, SXu, slBounds, ↓sop, ↓aop, ↓reduceIte, LV.cells, AOp.dst, LV.I, LV.B, LV.U, LV.S, LV.nil, Nat.reduceEqDiff, Nat.reduceAdd, Nat.reduceMul, Nat.reduceSub, Nat.reduceLeDiff, Nat.reduceBEq, Nat.reduceDiv, Nat.reduceMod, Int.reduceToNat, Int.reduceLT, Int.reduceLE, Int.reduceAdd, Int.reduceSub, Int.reduceMul, Int.reduceEq, Int.reduceNeg, reduceCtorEq, resV, resAll, ARes.ev, LV.flat, ite_true, ite_false, exists_eq_left', exists_eq_left, keyOf, implies_true, fillC, capOf]
  refine ev_loop (fun m fr1 M' => ∃ i : Nat, i + m = cs.length ∧ Pre M M' ∧ Live M' M.length (.row [.I x, .I y, .I z, a, b, c'] true 0) ∧ Live M' (M.length + 1) (.row (boolL ((cs.take i).foldl (fun V c => seenTo y z tp fr V c 3) (List.replicate D.length false))) true 1) ∧
    fr1 1 = .ref q r cs.length ∧ fr1 2 = .ref e 0 D.length ∧ fr1 3 = .ptr M.length 0 ∧ fr1 7 = .ref (M.length + 1) 0 D.length ∧ fr1 8 = .I i) cs.length
    ⟨0, by omega, Pre.app _ _, Live.new, Live.newj rfl, rfl, rfl, rfl, rfl, rfl⟩ ?_
  rintro m fr1 M' ⟨i, hi, p3, cb, cv, f1, f2, f3, f7, f8⟩
  simp (disch := omega) only [f1, f2, f3, f7, f8, ↓SXd, SXu, slBounds, ↓sop, ↓aop, ↓reduceIte, LV.cells, AOp.dst, LV.I, LV.B, LV.U, LV.S, LV.nil, Nat.reduceEqDiff, Nat.reduceAdd, Nat.reduceMul, Nat.reduceSub, Nat.reduceLeDiff, Nat.reduceBEq, Nat.reduceDiv, Nat.reduceMod, Int.reduceToNat, Int.reduceLT, Int.reduceLE, Int.reduceAdd, Int.reduceSub, Int.reduceMul, Int.reduceEq, Int.reduceNeg, reduceCtorEq, resV, resAll, ARes.ev, LV.flat, ite_true, ite_false, exists_eq_left', exists_eq_left, keyOf, implies_true, fillC, capOf]
  refine condC_dec (fun hlt => ?_) (fun hlt => ?_)
  · have hil : i < cs.length := by omega
    have hg := Tri.get (h.pre p3) hil
    have hci := hin _ (getD_mem' (d := default) hil)
    have hgi := hglb _ (getD_mem' (d := default) hil)
    have hts : (cs.take (i + 1)).foldl (fun V c => seenTo y z tp fr V c 3) (List.replicate D.length false) = seenTo y z tp fr ((cs.take i).foldl (fun V c => seenTo y z tp fr V c 3) (List.replicate D.length false)) (cs.getD i default) 3 := by
      rw [List.take_succ, List.getElem?_eq_getElem hil, Option.toList_some, List.foldl_append]; simp [hil]
    have hVl := seenF_len (y := y) (z := z) (tp := tp) (fr := fr) (cs := cs.take i) (V := List.replicate D.length false)
    rw [List.length_replicate] at hVl
    generalize cs.getD i default = c at hg hci hgi hts
    generalize (cs.take i).foldl (fun V c => seenTo y z tp fr V c 3) (List.replicate D.length false) = V at cv hts hVl
    have hcb := cb.lt
    have hcv := cv.lt
    simp (disch := omega) only [f1, f2, f3, f7, f8, hg, Cell.row, cb.cells, ↓SXd, SXu, slBounds, ↓sop, ↓aop, ↓reduceIte, LV.cells, AOp.dst, LV.I, LV.B, LV.U, LV.S, LV.nil, Nat.reduceEqDiff, Nat.reduceAdd, Nat.reduceMul, Nat.reduceSub, Nat.reduceLeDiff, Nat.reduceBEq, Nat.reduceDiv, Nat.reduceMod, Int.reduceToNat, Int.reduceLT, Int.reduceLE, Int.reduceAdd, Int.reduceSub, Int.reduceMul, Int.reduceEq, Int.reduceNeg, reduceCtorEq, resV, resAll, ARes.ev, LV.flat, ite_true, ite_false, exists_eq_left', exists_eq_left, keyOf, implies_true, fillC, capOf]
    refine callK_of (h_l3Lines hok hci ha hb hc') ?_
    simp (disch := omega) only [f1, f2, f3, f7, f8, splice, ↓SXd, SXu, slBounds, ↓sop, ↓aop, ↓reduceIte, LV.cells, AOp.dst, LV.I, LV.B, LV.U, LV.S, LV.nil, Nat.reduceEqDiff, Nat.reduceAdd, Nat.reduceMul, Nat.reduceSub, Nat.reduceLeDiff, Nat.reduceBEq, Nat.reduceDiv, Nat.reduceMod, Int.reduceToNat, Int.reduceLT, Int.reduceLE, Int.reduceAdd, Int.reduceSub, Int.reduceMul, Int.reduceEq, Int.reduceNeg, reduceCtorEq, resV, resAll, ARes.ev, LV.flat, ite_true, ite_false, exists_eq_left', exists_eq_left, keyOf, implies_true, fillC, capOf]
    refine ev_loop (fun m2 fr2 M2 => ∃ k : Nat, k + m2 = 3 ∧ Pre M M2 ∧ Live M2 M.length (.row [.I x, .I y, .I z, a, b, c'] true 0) ∧ Live M2 (M.length + 1) (.row (boolL (seenTo y z tp fr V c k)) true 1) ∧ Live M2 M'.length (.row [.I (gl y z tp fr 2 c : Nat), .I (gl y z tp fr 1 c : Nat), .I (gl y z tp fr 0 c : Nat)] true 0) ∧
      fr2 1 = .ref q r cs.length ∧ fr2 2 = .ref e 0 D.length ∧ fr2 3 = .ptr M.length 0 ∧ fr2 7 = .ref (M.length + 1) 0 D.length ∧ fr2 8 = .I i ∧ fr2 9 = .ptr M'.length 0 ∧ fr2 10 = .I k) 3
      ⟨0, rfl, p3.app', cb.app, cv.app, Live.new, f1, f2, f3, f7, f8, rfl, rfl⟩ ?_
    rintro m2 fr2 M2 ⟨k, hk, p4, db, dv, d9, g1, g2, g3, g7, g8, g9, g10⟩
    simp (disch := omega) only [g1, g2, g3, g7, g8, g9, g10, ↓SXd, SXu, slBounds, ↓sop, ↓aop, ↓reduceIte, LV.cells, AOp.dst, LV.I, LV.B, LV.U, LV.S, LV.nil, Nat.reduceEqDiff, Nat.reduceAdd, Nat.reduceMul, Nat.reduceSub, Nat.reduceLeDiff, Nat.reduceBEq, Nat.reduceDiv, Nat.reduceMod, Int.reduceToNat, Int.reduceLT, Int.reduceLE, Int.reduceAdd, Int.reduceSub, Int.reduceMul, Int.reduceEq, Int.reduceNeg, reduceCtorEq, resV, resAll, ARes.ev, LV.flat, ite_true, ite_false, exists_eq_left', exists_eq_left, keyOf, implies_true, fillC, capOf]
    have hsl := seenTo_len (y := y) (z := z) (tp := tp) (fr := fr) (V := V) (c := c) (k := k)
    refine condC_dec (fun hlt2 => ?_) (fun hlt2 => ?_)
    · have hk3 : k < 3 := by omega
      have hgk := hgi (2 - k) (by omega)
      have h9 := d9.cell (o := k)
      rw [show [LV.I (gl y z tp fr 2 c : Nat), .I (gl y z tp fr 1 c : Nat), .I (gl y z tp fr 0 c : Nat)][k]? = some (.I (gl y z tp fr (2 - k) c : Nat)) by
        rcases (show k = 0 ∨ k = 1 ∨ k = 2 by omega) with rfl | rfl | rfl <;> rfl] at h9
      simp (disch := omega) only [g1, g2, g3, g7, g8, g9, g10, h9, Nat.mul_one, Nat.zero_add, ↓SXd, SXu, slBounds, ↓sop, ↓aop, ↓reduceIte, LV.cells, AOp.dst, LV.I, LV.B, LV.U, LV.S, LV.nil, Nat.reduceEqDiff, Nat.reduceAdd, Nat.reduceMul, Nat.reduceSub, Nat.reduceLeDiff, Nat.reduceBEq, Nat.reduceDiv, Nat.reduceMod, Int.reduceToNat, Int.reduceLT, Int.reduceLE, Int.reduceAdd, Int.reduceSub, Int.reduceMul, Int.reduceEq, Int.reduceNeg, reduceCtorEq, resV, resAll, ARes.ev, LV.flat, ite_true, ite_false, exists_eq_left', exists_eq_left, keyOf, implies_true, fillC, capOf]
      refine memK_bool dv (by omega) fun N3 e1 e2 e3 => ?_
      simp (disch := omega) only [g1, g2, g3, g7, g8, g9, g10, ↓SXd, SXu, slBounds, ↓sop, ↓aop, ↓reduceIte, LV.cells, AOp.dst, LV.I, LV.B, LV.U, LV.S, LV.nil, Nat.reduceEqDiff, Nat.reduceAdd, Nat.reduceMul, Nat.reduceSub, Nat.reduceLeDiff, Nat.reduceBEq, Nat.reduceDiv, Nat.reduceMod, Int.reduceToNat, Int.reduceLT, Int.reduceLE, Int.reduceAdd, Int.reduceSub, Int.reduceMul, Int.reduceEq, Int.reduceNeg, reduceCtorEq, resV, resAll, ARes.ev, LV.flat, ite_true, ite_false, exists_eq_left', exists_eq_left, keyOf, implies_true, fillC, capOf]
      exact ⟨m2 - 1, by omega, k + 1, by omega, pre_step p4 (by omega) (j := 0) e1 e3, live_step db (by omega) e3, e2, live_step d9 (by omega) e3, g1, g2, g3, g7, g8, g9, eqI (natI _)⟩
    · simp (disch := omega) only [g1, g2, g3, g7, g8, g9, g10, ↓SXd, SXu, slBounds, ↓sop, ↓aop, ↓reduceIte, LV.cells, AOp.dst, LV.I, LV.B, LV.U, LV.S, LV.nil, Nat.reduceEqDiff, Nat.reduceAdd, Nat.reduceMul, Nat.reduceSub, Nat.reduceLeDiff, Nat.reduceBEq, Nat.reduceDiv, Nat.reduceMod, Int.reduceToNat, Int.reduceLT, Int.reduceLE, Int.reduceAdd, Int.reduceSub, Int.reduceMul, Int.reduceEq, Int.reduceNeg, reduceCtorEq, resV, resAll, ARes.ev, LV.flat, ite_true, ite_false, exists_eq_left', exists_eq_left, keyOf, implies_true, fillC, capOf]
      have : k = 3 := by omega
      subst this
      rw [← hts] at dv
      exact ⟨m - 1, by omega, i + 1, by omega, p4, db, dv, g1, g2, g3, g7, eqI (natI _)⟩
  · have : i = cs.length := by omega
    subst this
    rw [List.take_length] at cv
    have hseen := seenF_len (y := y) (z := z) (tp := tp) (fr := fr) (cs := cs) (V := List.replicate D.length false)
    rw [List.length_replicate] at hseen
    change Live M' (M.length + 1) (.row (boolL (seenL y z tp fr D.length cs)) true 1) at cv
    change (seenL y z tp fr D.length cs).length = D.length at hseen
    have hcm : CanMeet y z tp fr D cs ↔ ∀ n, n < D.length → D.getD n false = true → (seenL y z tp fr D.length cs).getD n false = true := Iff.rfl
    generalize seenL y z tp fr D.length cs = V at cv hseen hcm
    simp (disch := omega) only [f1, f2, f3, f7, f8, ↓SXd, SXu, slBounds, ↓sop, ↓aop, ↓reduceIte, LV.cells, AOp.dst, LV.I, LV.B, LV.U, LV.S, LV.nil, Nat.reduceEqDiff, Nat.reduceAdd, Nat.reduceMul, Nat.reduceSub, Nat.reduceLeDiff, Nat.reduceBEq, Nat.reduceDiv, Nat.reduceMod, Int.reduceToNat, Int.reduceLT, Int.reduceLE, Int.reduceAdd, Int.reduceSub, Int.reduceMul, Int.reduceEq, Int.reduceNeg, reduceCtorEq, resV, resAll, ARes.ev, LV.flat, ite_true, ite_false, exists_eq_left', exists_eq_left, keyOf, implies_true, fillC, capOf]
    refine ev_loop (fun m fr1 N' => ∃ i : Nat, i + m = D.length ∧ N' = M' ∧ (∀ n, n < i → D.getD n false = true → V.getD n false = true) ∧ fr1 2 = .ref e 0 D.length ∧ fr1 7 = .ref (M.length + 1) 0 D.length ∧ fr1 11 = .I i) D.length
      ⟨0, by omega, rfl, by omega, f2, f7, rfl⟩ ?_
    clear f1 f2 f3 f7 f8
    rintro m fr1 N' ⟨i, hi, rfl, hj, f2, f7, f11⟩
    simp (disch := omega) only [f2, f7, f11, ↓SXd, SXu, slBounds, ↓sop, ↓aop, ↓reduceIte, LV.cells, AOp.dst, LV.I, LV.B, LV.U, LV.S, LV.nil, Nat.reduceEqDiff, Nat.reduceAdd, Nat.reduceMul, Nat.reduceSub, Nat.reduceLeDiff, Nat.reduceBEq, Nat.reduceDiv, Nat.reduceMod, Int.reduceToNat, Int.reduceLT, Int.reduceLE, Int.reduceAdd, Int.reduceSub, Int.reduceMul, Int.reduceEq, Int.reduceNeg, reduceCtorEq, resV, resAll, ARes.ev, LV.flat, ite_true, ite_false, exists_eq_left', exists_eq_left, keyOf, implies_true, fillC, capOf]
    refine condC_dec (fun hlt => ?_) (fun hlt => ?_)
    · have hil : i < D.length := by omega
      have hg := (hD.pre p3).cell (o := i)
      rw [boolL_get hil] at hg
      have hg2 := cv.cell (o := i)
      rw [boolL_get (by omega)] at hg2
      have hnx : ∀ {P : Prop}, (D.getD i false = true → V.getD i false = true) → (∀ n, n < i + 1 → D.getD n false = true → V.getD n false = true) := fun {P} h n hn hd => by
        rcases Nat.lt_or_ge n i with h2 | h2
        · exact hj n h2 hd
        · rw [show n = i by omega] at hd ⊢; exact h hd
      cases hdi : D.getD i false with
      | false =>
        rw [hdi] at hg hnx
        simp (disch := omega) only [f2, f7, f11, hg, Nat.mul_one, Nat.zero_add, ↓SXd, SXu, slBounds, ↓sop, ↓aop, ↓reduceIte, LV.cells, AOp.dst, LV.I, LV.B, LV.U, LV.S, LV.nil, Nat.reduceEqDiff, Nat.reduceAdd, Nat.reduceMul, Nat.reduceSub, Nat.reduceLeDiff, Nat.reduceBEq, Nat.reduceDiv, Nat.reduceMod, Int.reduceToNat, Int.reduceLT, Int.reduceLE, Int.reduceAdd, Int.reduceSub, Int.reduceMul, Int.reduceEq, Int.reduceNeg, reduceCtorEq, resV, resAll, ARes.ev, LV.flat, ite_true, ite_false, exists_eq_left', exists_eq_left, keyOf, implies_true, fillC, capOf]
        exact ⟨m - 1, by omega, i + 1, by omega, rfl, hnx (P := True) (by simp), f2, f7, eqI (natI _)⟩
      | true =>
        cases hvi : V.getD i false with
        | true =>
          rw [hdi] at hg
          rw [hvi] at hg2 hnx
          simp (disch := omega) only [f2, f7, f11, hg, hg2, Nat.mul_one, Nat.zero_add, ↓SXd, SXu, slBounds, ↓sop, ↓aop, ↓reduceIte, LV.cells, AOp.dst, LV.I, LV.B, LV.U, LV.S, LV.nil, Nat.reduceEqDiff, Nat.reduceAdd, Nat.reduceMul, Nat.reduceSub, Nat.reduceLeDiff, Nat.reduceBEq, Nat.reduceDiv, Nat.reduceMod, Int.reduceToNat, Int.reduceLT, Int.reduceLE, Int.reduceAdd, Int.reduceSub, Int.reduceMul, Int.reduceEq, Int.reduceNeg, reduceCtorEq, resV, resAll, ARes.ev, LV.flat, ite_true, ite_false, exists_eq_left', exists_eq_left, keyOf, implies_true, fillC, capOf]
          exact ⟨m - 1, by omega, i + 1, by omega, rfl, hnx (P := True) (by simp), f2, f7, eqI (natI _)⟩
        | false =>
          rw [hdi] at hg
          rw [hvi] at hg2
          simp (disch := omega) only [f2, f7, f11, hg, hg2, Nat.mul_one, Nat.zero_add, ↓SXd, SXu, slBounds, ↓sop, ↓aop, ↓reduceIte, LV.cells, AOp.dst, LV.I, LV.B, LV.U, LV.S, LV.nil, Nat.reduceEqDiff, Nat.reduceAdd, Nat.reduceMul, Nat.reduceSub, Nat.reduceLeDiff, Nat.reduceBEq, Nat.reduceDiv, Nat.reduceMod, Int.reduceToNat, Int.reduceLT, Int.reduceLE, Int.reduceAdd, Int.reduceSub, Int.reduceMul, Int.reduceEq, Int.reduceNeg, reduceCtorEq, resV, resAll, ARes.ev, LV.flat, ite_true, ite_false, exists_eq_left', exists_eq_left, keyOf, implies_true, fillC, capOf]
          rw [decide_eq_false (fun h => by rw [hcm.1 h i hil hdi] at hvi; cases hvi)]
          exact cmp_pre p3 rfl
    · simp (disch := omega) only [f2, f7, f11, ↓SXd, SXu, slBounds, ↓sop, ↓aop, ↓reduceIte, LV.cells, AOp.dst, LV.I, LV.B, LV.U, LV.S, LV.nil, Nat.reduceEqDiff, Nat.reduceAdd, Nat.reduceMul, Nat.reduceSub, Nat.reduceLeDiff, Nat.reduceBEq, Nat.reduceDiv, Nat.reduceMod, Int.reduceToNat, Int.reduceLT, Int.reduceLE, Int.reduceAdd, Int.reduceSub, Int.reduceMul, Int.reduceEq, Int.reduceNeg, reduceCtorEq, resV, resAll, ARes.ev, LV.flat, ite_true, ite_false, exists_eq_left', exists_eq_left, keyOf, implies_true, fillC, capOf]
      have : i = D.length := by omega
      subst this
      rw [decide_eq_true (hcm.2 hj)]
      exact cmp_pre p3 rfl
end Go.Ab

/- Contracts: the reference's search for cells that meet all lines. -/
namespace Go.Ab
open Go
set_option linter.unusedSimpArgs false
set_option linter.unusedVariables false
set_option maxRecDepth 20000

theorem countB_set : ∀ (v : List Bool) (k : Nat), v.countP id ≤ (v.set k false).countP id + 1
  | [], k => by simp
  | b :: v, 0 => by rw [List.set_cons_zero, List.countP_cons, List.countP_cons]; cases b <;> simp
  | b :: v, k + 1 => by
    have := countB_set v k
    rw [List.set_cons_succ, List.countP_cons, List.countP_cons]; omega
theorem dark_count {y z : Int} {tp fr : List Int} : ∀ {T : List Cell} {V : List Bool}, V.countP id ≤ (T.foldl (darkStep y z tp fr) V).countP id + 3 * T.length
  | [], V => by simp
  | c :: T, V => by
    have h1 := dark_count (y := y) (z := z) (tp := tp) (fr := fr) (T := T) (V := darkStep y z tp fr V c)
    have h2 : V.countP id ≤ (darkStep y z tp fr V c).countP id + 3 := by
      unfold darkStep
      have a := countB_set V (gl y z tp fr 2 c)
      have b := countB_set (V.set (gl y z tp fr 2 c) false) (gl y z tp fr 1 c)
      have c := countB_set ((V.set (gl y z tp fr 2 c) false).set (gl y z tp fr 1 c) false) (gl y z tp fr 0 c)
      omega
    rw [List.foldl_cons, List.length_cons]; omega
theorem count_zero {V : List Bool} : V.countP id = 0 ↔ ∀ n, n < V.length → V.getD n false = false := by
  rw [List.countP_eq_zero]
  constructor
  · intro h n hn
    have := h _ (getD_mem' (d := false) hn)
    simpa using this
  · intro h b hb
    obtain ⟨i, hi, rfl⟩ := List.getElem_of_mem hb
    have := h i hi
    simpa [hi] using this
theorem dark_app {y z : Int} {tp fr sd : List Int} {ch T : List Cell} : darkL y z tp fr sd (ch ++ T) = T.foldl (darkStep y z tp fr) (darkL y z tp fr sd ch) := by unfold darkL; rw [List.foldl_append]
section
variable {x y z : Int} {tp fr sd : List Int} (hok : ShdOK x y z tp fr sd)
include hok
theorem dark_zero {ch : List Cell} (h : ∀ c ∈ ch, c.inBox x y z) : (darkL y z tp fr sd ch).countP id = 0 ↔ Meets y z (lits tp fr sd) ch := by
  rw [count_zero]; exact met_iff hok h
theorem prune1 {ch T : List Cell} (h : ∀ c ∈ ch, c.inBox x y z) (hT : ∀ c ∈ T, c.inBox x y z) (hd : 3 * T.length < (darkL y z tp fr sd ch).countP id) : ¬ Meets y z (lits tp fr sd) (ch ++ T) := fun hm => by
  have h0 := (dark_zero hok (ch := ch ++ T) fun c hc => (List.mem_append.1 hc).elim (h c) (hT c)).2 hm
  rw [dark_app] at h0
  have := dark_count (y := y) (z := z) (tp := tp) (fr := fr) (T := T) (V := darkL y z tp fr sd ch)
  omega
theorem prune2 {ch T rest : List Cell} (h : ∀ c ∈ ch, c.inBox x y z) (hT : ∀ c ∈ rest, c.inBox x y z) (hs : T.Sublist rest) (hd : ¬ CanMeet y z tp fr (darkL y z tp fr sd ch) rest) : ¬ Meets y z (lits tp fr sd) (ch ++ T) := fun hm => by
  rw [canMeet_iff] at hd
  apply hd
  intro n hn hdn
  refine Classical.byContradiction fun hno => ?_
  have h0 := (met_iff hok (cs := ch ++ T) fun c hc => (List.mem_append.1 hc).elim (h c) fun hc => hT c (hs.mem hc)).2 hm n (by rw [darkL_len] at hn ⊢; exact hn)
  have h1 : (darkL y z tp fr sd (ch ++ T)).getD n false = true := by
    rw [dark_app, darkF_get]
    exact ⟨hdn, fun c hc d hd e => hno ⟨c, hs.mem hc, d, hd, e⟩⟩
  rw [h1] at h0; cases h0
end
theorem fc_none_of {y z : Int} {L : List (Nat × Nat)} {rest ch : List Cell} {n : Nat} (h : ∀ T, T.Sublist rest → T.length = n → ¬ Meets y z L (ch ++ T)) : fc y z L rest ch n = none := by
  cases hf : fc y z L rest ch n with
  | none => rfl
  | some r =>
    obtain ⟨T, h1, h2, h3⟩ := fc_isSome.1 (by rw [hf]; rfl)
    exact absurd h3 (h T h1 h2)

def SearchRes (M : Mem) (q : Nat) (r : Option (List Cell)) (v : LV) (N : Mem) : Prop := ∃ t, v = .tup [.ref t 0 (r.getD []).length, .B r.isSome] ∧ Live N t (.row (triL (r.getD [])) true 3) ∧ (t = q ∨ M.length ≤ t) ∧ Pre M N
section
variable {x y z : Int} {t o t' o' t2 o2 a : Nat} {w : Bool} {tp fr sd : List Int} {al : List Cell} (hok : ShdOK x y z tp fr sd) (hin : ∀ c ∈ al, c.inBox x y z) (hal : al.length ≤ 64)
include hok hin hal
theorem h_l3Search (k : Nat) (hk : k ≤ 1000) : ∀ (n : Nat) {ch : List Cell} {i0 q : Nat} {M : Mem}, ch.length + n = k → i0 ≤ al.length → Ints M t o tp → Ints M t' o' fr → Ints M t2 o2 sd → Live M a (.row (triL al) w 3) → Live M q (.row (triL ch) true 3) → (∀ c ∈ ch, c.inBox x y z) →
    CallsR PG F.spec_l3Search [.agg [.I x, .I y, .I z, .ref t o tp.length, .ref t' o' fr.length, .ref t2 o2 sd.length], .ref a 0 al.length, .I i0, .ref q 0 ch.length, .I k] M (SearchRes M q (fc y z (lits tp fr sd) (al.drop i0) ch n)) := by
  intro n
  induction n using Nat.strongRecOn with
  | ind n ih =>
  intro ch i0 q M hck hi0 h1 h2 h3 ha hq hch
  have ht := h1.lt
  have ht' := h2.lt
  have ht2 := h3.lt
  have hal' := ha.lt
  have hql := hq.lt
  refine callsR_run K.spec_l3Search rfl ?_
  simp (disch := omega) only [C.spec_l3Search, ↓SXd, SXu, slBounds, ↓sop, ↓aop, ↓reduceIte, LV.cells, AOp.dst, LV.I, LV.B, LV.U, LV.S, LV.nil, Nat.reduceEqDiff, Nat.reduceAdd, Nat.reduceMul, Nat.reduceSub, Nat.reduceLeDiff, Nat.reduceBEq, Nat.reduceDiv, Nat.reduceMod, Int.reduceToNat, Int.reduceLT, Int.reduceLE, Int.reduceAdd, Int.reduceSub, Int.reduceMul, Int.reduceEq, Int.reduceNeg, reduceCtorEq, resV, resAll, ARes.ev, LV.flat, ite_true, ite_false, exists_eq_left', exists_eq_left, keyOf, implies_true, fillC, capOf]
  refine callN_of (h_l3Dark h1.app h2.app h3.app hok hq.app.has hch (by omega)) ?_
  intro e N he hp hD
  have hDl := darkL_len (y := y) (z := z) (tp := tp) (fr := fr) (sd := sd) (cs := ch)
  have hz := dark_zero hok hch
  have hp1 := fun T hT hd => prune1 hok (T := T) hch hT hd
  have hp2 := fun T rest hT hs hd => prune2 hok (T := T) (rest := rest) hch hT hs hd
  have hpM : Pre M N := (Pre.app _ _).trans hp
  have b5 : Live N M.length (.row [.I x, .I y, .I z, .ref t o tp.length, .ref t' o' fr.length, .ref t2 o2 sd.length] true 0) := Live.new.pre hp
  have hD48 : (darkL y z tp fr sd ch).length ≤ 48 := by
    have b0 : ((sd.length : Nat) : Int) = y * z := hok.2.2.2.2
    have b1 : ((fr.length : Nat) : Int) = x * z := hok.2.2.1.2
    have b2 : ((tp.length : Nat) : Int) = x * y := hok.2.1.2
    obtain ⟨⟨_, _⟩, ⟨_, _⟩, ⟨_, _⟩⟩ := prod_le hok.1
    omega
  generalize darkL y z tp fr sd ch = D at hD hDl hz hp1 hp2 hD48 ⊢
  simp (disch := omega) only [↓SXd, SXu, slBounds, ↓sop, ↓aop, ↓reduceIte, LV.cells, AOp.dst, LV.I, LV.B, LV.U, LV.S, LV.nil, Nat.reduceEqDiff, Nat.reduceAdd, Nat.reduceMul, Nat.reduceSub, Nat.reduceLeDiff, Nat.reduceBEq, Nat.reduceDiv, Nat.reduceMod, Int.reduceToNat, Int.reduceLT, Int.reduceLE, Int.reduceAdd, Int.reduceSub, Int.reduceMul, Int.reduceEq, Int.reduceNeg, reduceCtorEq, resV, resAll, ARes.ev, LV.flat, ite_true, ite_false, exists_eq_left', exists_eq_left, keyOf, implies_true, fillC, capOf]
  refine ev_loop (fun m fr1 M' => ∃ i : Nat, i + m = D.length ∧ M' = N ∧ fr1 1 = .ref a 0 al.length ∧ fr1 2 = .I i0 ∧ fr1 3 = .ref q 0 ch.length ∧ fr1 4 = .I k ∧ fr1 5 = .ptr M.length 0 ∧ fr1 12 = .ref e 0 D.length ∧ fr1 13 = .I ((D.take i).countP id : Nat) ∧ fr1 14 = .I i) D.length
    ⟨0, by omega, rfl, rfl, rfl, rfl, rfl, rfl, rfl, rfl, rfl⟩ ?_
  rintro m fr1 M' ⟨i, hi, rfl, f1, f2, f3, f4, f5, f12, f13, f14⟩
  simp (disch := omega) only [f1, f2, f3, f4, f5, f12, f13, f14, ↓SXd, SXu, slBounds, ↓sop, ↓aop, ↓reduceIte, LV.cells, AOp.dst, LV.I, LV.B, LV.U, LV.S, LV.nil, Nat.reduceEqDiff, Nat.reduceAdd, Nat.reduceMul, Nat.reduceSub, Nat.reduceLeDiff, Nat.reduceBEq, Nat.reduceDiv, Nat.reduceMod, Int.reduceToNat, Int.reduceLT, Int.reduceLE, Int.reduceAdd, Int.reduceSub, Int.reduceMul, Int.reduceEq, Int.reduceNeg, reduceCtorEq, resV, resAll, ARes.ev, LV.flat, ite_true, ite_false, exists_eq_left', exists_eq_left, keyOf, implies_true, fillC, capOf]
  refine condC_dec (fun hlt => ?_) (fun hlt => ?_)
  · have hil : i < D.length := by omega
    have hg := hD.cell (o := i)
    rw [boolL_get hil] at hg
    have hts : (D.take (i + 1)).countP id = (D.take i).countP id + (if D.getD i false then 1 else 0) := by
      have e : D.getD i false = D[i] := by simp [hil]
      rw [List.take_succ, List.getElem?_eq_getElem hil, Option.toList_some, List.countP_append, List.countP_singleton, e]; rfl
    have hcl := List.countP_le_length (p := id) (l := D.take i)
    have htl := List.length_take_le i D
    cases hdi : D.getD i false with
    | true =>
      rw [hdi] at hg hts
      simp (disch := omega) only [f1, f2, f3, f4, f5, f12, f13, f14, hg, Nat.mul_one, Nat.zero_add, ↓SXd, SXu, slBounds, ↓sop, ↓aop, ↓reduceIte, LV.cells, AOp.dst, LV.I, LV.B, LV.U, LV.S, LV.nil, Nat.reduceEqDiff, Nat.reduceAdd, Nat.reduceMul, Nat.reduceSub, Nat.reduceLeDiff, Nat.reduceBEq, Nat.reduceDiv, Nat.reduceMod, Int.reduceToNat, Int.reduceLT, Int.reduceLE, Int.reduceAdd, Int.reduceSub, Int.reduceMul, Int.reduceEq, Int.reduceNeg, reduceCtorEq, resV, resAll, ARes.ev, LV.flat, ite_true, ite_false, exists_eq_left', exists_eq_left, keyOf, implies_true, fillC, capOf]
      exact ⟨m - 1, by omega, i + 1, by omega, rfl, f1, f2, f3, f4, f5, f12, by rw [hts]; exact eqI (natI _), eqI (natI _)⟩
    | false =>
      rw [hdi] at hg hts
      simp (disch := omega) only [f1, f2, f3, f4, f5, f12, f13, f14, hg, Nat.mul_one, Nat.zero_add, ↓SXd, SXu, slBounds, ↓sop, ↓aop, ↓reduceIte, LV.cells, AOp.dst, LV.I, LV.B, LV.U, LV.S, LV.nil, Nat.reduceEqDiff, Nat.reduceAdd, Nat.reduceMul, Nat.reduceSub, Nat.reduceLeDiff, Nat.reduceBEq, Nat.reduceDiv, Nat.reduceMod, Int.reduceToNat, Int.reduceLT, Int.reduceLE, Int.reduceAdd, Int.reduceSub, Int.reduceMul, Int.reduceEq, Int.reduceNeg, reduceCtorEq, resV, resAll, ARes.ev, LV.flat, ite_true, ite_false, exists_eq_left', exists_eq_left, keyOf, implies_true, fillC, capOf]
      exact ⟨m - 1, by omega, i + 1, by omega, rfl, f1, f2, f3, f4, f5, f12, by rw [hts]; exact f13, eqI (natI _)⟩
  · have : i = D.length := by omega
    subst this
    rw [List.take_length] at f13
    have hcl := List.countP_le_length (p := id) (l := D)
    have hi0' : i0 ≤ al.length := hi0
    have hnone : fc y z (lits tp fr sd) (al.drop i0) ch n = none → ∀ N' : Mem, Pre M' N' → SearchRes M q (fc y z (lits tp fr sd) (al.drop i0) ch n) (.tup [.ref N'.length 0 0, .B false]) (N' ++ [some (.row [] true 3)]) := fun h N' hN => by
      rw [h]
      exact ⟨N'.length, rfl, Live.new, .inr (Nat.le_trans hpM.1 hN.1), (hpM.trans hN).app'⟩
    have hdin : ∀ j, ∀ c ∈ al.drop j, c.inBox x y z := fun j c hc => hin c (List.mem_of_mem_drop hc)
    generalize D.countP id = lf at f13 hcl hz hp1
    cases n with
    | zero =>
      have hkc : (k : Int) = ch.length := by omega
      by_cases hm : Meets y z (lits tp fr sd) ch
      · have hlf : ((lf : Nat) : Int) = 0 := by rw [hz.2 hm]; rfl
        simp (disch := omega) only [f1, f2, f3, f4, f5, f12, f13, f14, hlf, hkc, ↓SXd, SXu, slBounds, ↓sop, ↓aop, ↓reduceIte, LV.cells, AOp.dst, LV.I, LV.B, LV.U, LV.S, LV.nil, Nat.reduceEqDiff, Nat.reduceAdd, Nat.reduceMul, Nat.reduceSub, Nat.reduceLeDiff, Nat.reduceBEq, Nat.reduceDiv, Nat.reduceMod, Int.reduceToNat, Int.reduceLT, Int.reduceLE, Int.reduceAdd, Int.reduceSub, Int.reduceMul, Int.reduceEq, Int.reduceNeg, reduceCtorEq, resV, resAll, ARes.ev, LV.flat, ite_true, ite_false, exists_eq_left', exists_eq_left, keyOf, implies_true, fillC, capOf]
        rw [show fc y z (lits tp fr sd) (al.drop i0) ch 0 = some ch by unfold fc; rw [if_pos hm]]
        exact ⟨q, rfl, hq.pre hpM, .inl rfl, hpM⟩
      · have hlf : ¬ ((lf : Nat) : Int) = 0 := fun h => hm (hz.1 (by omega))
        have hlg : ((lf : Nat) : Int) > 0 := by omega
        simp (disch := omega) only [f1, f2, f3, f4, f5, f12, f13, f14, hlf, hkc, Int.sub_self, Int.mul_zero, hlg, ↓SXd, SXu, slBounds, ↓sop, ↓aop, ↓reduceIte, LV.cells, AOp.dst, LV.I, LV.B, LV.U, LV.S, LV.nil, Nat.reduceEqDiff, Nat.reduceAdd, Nat.reduceMul, Nat.reduceSub, Nat.reduceLeDiff, Nat.reduceBEq, Nat.reduceDiv, Nat.reduceMod, Int.reduceToNat, Int.reduceLT, Int.reduceLE, Int.reduceAdd, Int.reduceSub, Int.reduceMul, Int.reduceEq, Int.reduceNeg, reduceCtorEq, resV, resAll, ARes.ev, LV.flat, ite_true, ite_false, exists_eq_left', exists_eq_left, keyOf, implies_true, fillC, capOf]
        exact hnone (by unfold fc; rw [if_neg hm]) _ (Pre.refl _)
    | succ n =>
      have hkc : ¬ ((ch.length : Nat) : Int) = k := by omega
      have hks : (k : Int) - ((ch.length : Nat) : Int) = (n : Int) + 1 := by omega
      have hal64 : al.length ≤ 64 := hal
      have hTin : ∀ T : List Cell, T.Sublist (al.drop i0) → ∀ c ∈ T, c.inBox x y z := fun T hT c hc => hdin i0 c (hT.mem hc)
      by_cases hbig : ((lf : Nat) : Int) > 3 * ((n : Int) + 1)
      · have hfn : fc y z (lits tp fr sd) (al.drop i0) ch (n + 1) = none := fc_none_of fun T hT hl => hp1 T (hTin T hT) (by rw [hl]; omega)
        by_cases hlf : ((lf : Nat) : Int) = 0
        · omega
        · simp (disch := omega) only [f1, f2, f3, f4, f5, f12, f13, f14, hlf, hkc, hks, hbig, ↓SXd, SXu, slBounds, ↓sop, ↓aop, ↓reduceIte, LV.cells, AOp.dst, LV.I, LV.B, LV.U, LV.S, LV.nil, Nat.reduceEqDiff, Nat.reduceAdd, Nat.reduceMul, Nat.reduceSub, Nat.reduceLeDiff, Nat.reduceBEq, Nat.reduceDiv, Nat.reduceMod, Int.reduceToNat, Int.reduceLT, Int.reduceLE, Int.reduceAdd, Int.reduceSub, Int.reduceMul, Int.reduceEq, Int.reduceNeg, reduceCtorEq, resV, resAll, ARes.ev, LV.flat, ite_true, ite_false, exists_eq_left', exists_eq_left, keyOf, implies_true, fillC, capOf]
          exact hnone hfn _ (Pre.refl _)
      · by_cases hfew : (al.length : Int) - (i0 : Int) < (n : Int) + 1
        · have hfn : fc y z (lits tp fr sd) (al.drop i0) ch (n + 1) = none := fc_none_of fun T hT hl _ => by
            have := hT.length_le
            rw [List.length_drop] at this; omega
          have hb0 : ¬ ((0 : Int) > 3 * ((n : Int) + 1)) := by omega
          by_cases hlf : ((lf : Nat) : Int) = 0
          · simp (disch := omega) only [f1, f2, f3, f4, f5, f12, f13, f14, hlf, hkc, hks, hb0, hfew, ↓SXd, SXu, slBounds, ↓sop, ↓aop, ↓reduceIte, LV.cells, AOp.dst, LV.I, LV.B, LV.U, LV.S, LV.nil, Nat.reduceEqDiff, Nat.reduceAdd, Nat.reduceMul, Nat.reduceSub, Nat.reduceLeDiff, Nat.reduceBEq, Nat.reduceDiv, Nat.reduceMod, Int.reduceToNat, Int.reduceLT, Int.reduceLE, Int.reduceAdd, Int.reduceSub, Int.reduceMul, Int.reduceEq, Int.reduceNeg, reduceCtorEq, resV, resAll, ARes.ev, LV.flat, ite_true, ite_false, exists_eq_left', exists_eq_left, keyOf, implies_true, fillC, capOf]
            exact hnone hfn _ (Pre.refl _)
          · simp (disch := omega) only [f1, f2, f3, f4, f5, f12, f13, f14, hlf, hkc, hks, hbig, hfew, ↓SXd, SXu, slBounds, ↓sop, ↓aop, ↓reduceIte, LV.cells, AOp.dst, LV.I, LV.B, LV.U, LV.S, LV.nil, Nat.reduceEqDiff, Nat.reduceAdd, Nat.reduceMul, Nat.reduceSub, Nat.reduceLeDiff, Nat.reduceBEq, Nat.reduceDiv, Nat.reduceMod, Int.reduceToNat, Int.reduceLT, Int.reduceLE, Int.reduceAdd, Int.reduceSub, Int.reduceMul, Int.reduceEq, Int.reduceNeg, reduceCtorEq, resV, resAll, ARes.ev, LV.flat, ite_true, ite_false, exists_eq_left', exists_eq_left, keyOf, implies_true, fillC, capOf]
            exact hnone hfn _ (Pre.refl _)
        · have hb0 : ¬ ((0 : Int) > 3 * ((n : Int) + 1)) := by omega
          have hdr := Tri.drop (ha.has.pre hpM) hi0
          have hdl : (al.drop i0).length = al.length - i0 := List.length_drop ..
          have hcan := h_l3Can (D := D) (a := .ref t o tp.length) (b := .ref t' o' fr.length) (c' := .ref t2 o2 sd.length) hok ⟨rfl, rfl⟩ ⟨rfl, rfl⟩ ⟨rfl, rfl⟩ hdr (hdin i0) (by omega) hD hDl
          rw [hdl, Nat.zero_add] at hcan
          have hesz := (ha.pre hpM).esz
          refine Classical.byCases (p := ((lf : Nat) : Int) = 0) (fun hlf => ?_) (fun hlf => ?_)
          all_goals
            simp (disch := omega) only [f1, f2, f3, f4, f5, f12, f13, f14, hlf, hkc, hks, hbig, hfew, hb0, b5.cells, hesz, Nat.zero_add, ↓SXd, SXu, slBounds, ↓sop, ↓aop, ↓reduceIte, LV.cells, AOp.dst, LV.I, LV.B, LV.U, LV.S, LV.nil, Nat.reduceEqDiff, Nat.reduceAdd, Nat.reduceMul, Nat.reduceSub, Nat.reduceLeDiff, Nat.reduceBEq, Nat.reduceDiv, Nat.reduceMod, Int.reduceToNat, Int.reduceLT, Int.reduceLE, Int.reduceAdd, Int.reduceSub, Int.reduceMul, Int.reduceEq, Int.reduceNeg, reduceCtorEq, resV, resAll, ARes.ev, LV.flat, ite_true, ite_false, exists_eq_left', exists_eq_left, keyOf, implies_true, fillC, capOf]
            refine callK_of hcan ?_
            by_cases hC : CanMeet y z tp fr D (al.drop i0)
            · simp (disch := omega) only [f1, f2, f3, f4, f5, f12, f13, f14, hC, ↓SXd, SXu, slBounds, ↓sop, ↓aop, ↓reduceIte, LV.cells, AOp.dst, LV.I, LV.B, LV.U, LV.S, LV.nil, Nat.reduceEqDiff, Nat.reduceAdd, Nat.reduceMul, Nat.reduceSub, Nat.reduceLeDiff, Nat.reduceBEq, Nat.reduceDiv, Nat.reduceMod, Int.reduceToNat, Int.reduceLT, Int.reduceLE, Int.reduceAdd, Int.reduceSub, Int.reduceMul, Int.reduceEq, Int.reduceNeg, reduceCtorEq, resV, resAll, ARes.ev, LV.flat, ite_true, ite_false, exists_eq_left', exists_eq_left, keyOf, implies_true, fillC, capOf]
              refine ev_loop (fun m fr2 M2 => ∃ i : Nat, i + m = al.length ∧ i0 ≤ i ∧ Pre M' M2 ∧ fr2 1 = .ref a 0 al.length ∧ fr2 3 = .ref q 0 ch.length ∧ fr2 4 = .I k ∧ fr2 5 = .ptr M.length 0 ∧ fr2 12 = .ref e 0 D.length ∧ fr2 15 = .I i ∧ fc y z (lits tp fr sd) (al.drop i0) ch (n + 1) = fc y z (lits tp fr sd) (al.drop i) ch (n + 1)) (al.length - i0)
                ⟨i0, by omega, by omega, Pre.refl _, f1, f3, f4, f5, f12, rfl, rfl⟩ ?_
              rintro m2 fr2 M2 ⟨i, hi, hii, hp3, g1, g3, g4, g5, g12, g15, hfi⟩
              simp (disch := omega) only [g1, g3, g4, g5, g12, g15, ↓SXd, SXu, slBounds, ↓sop, ↓aop, ↓reduceIte, LV.cells, AOp.dst, LV.I, LV.B, LV.U, LV.S, LV.nil, Nat.reduceEqDiff, Nat.reduceAdd, Nat.reduceMul, Nat.reduceSub, Nat.reduceLeDiff, Nat.reduceBEq, Nat.reduceDiv, Nat.reduceMod, Int.reduceToNat, Int.reduceLT, Int.reduceLE, Int.reduceAdd, Int.reduceSub, Int.reduceMul, Int.reduceEq, Int.reduceNeg, reduceCtorEq, resV, resAll, ARes.ev, LV.flat, ite_true, ite_false, exists_eq_left', exists_eq_left, keyOf, implies_true, fillC, capOf]
              refine condC_dec (fun hlt2 => ?_) (fun hlt2 => ?_)
              · have hil : i < al.length := by omega
                have hpM2 := hpM.trans hp3
                have b52 := b5.pre hp3
                have ha2 := ha.pre hpM2
                have hq2 := hq.pre hpM2
                have hg := ha2.tri0 hil
                have hcm := getD_mem' (d := default) hil
                have hcin := hin _ hcm
                have hdc : al.drop i = al.getD i default :: al.drop (i + 1) := by
                  rw [List.drop_eq_getElem_cons hil]; congr 1; simp [hil]
                have hfc : fc y z (lits tp fr sd) (al.drop i) ch (n + 1) = match fc y z (lits tp fr sd) (al.drop (i + 1)) (ch ++ [al.getD i default]) n with | some r => some r | none => fc y z (lits tp fr sd) (al.drop (i + 1)) ch (n + 1) := by rw [hdc]; rfl
                generalize al.getD i default = c at hg hcm hcin hfc
                simp (disch := omega) only [g1, g3, g4, g5, g12, g15, hg, Cell.row, b52.cells, splice, ↓SXd, SXu, slBounds, ↓sop, ↓aop, ↓reduceIte, LV.cells, AOp.dst, LV.I, LV.B, LV.U, LV.S, LV.nil, Nat.reduceEqDiff, Nat.reduceAdd, Nat.reduceMul, Nat.reduceSub, Nat.reduceLeDiff, Nat.reduceBEq, Nat.reduceDiv, Nat.reduceMod, Int.reduceToNat, Int.reduceLT, Int.reduceLE, Int.reduceAdd, Int.reduceSub, Int.reduceMul, Int.reduceEq, Int.reduceNeg, reduceCtorEq, resV, resAll, ARes.ev, LV.flat, ite_true, ite_false, exists_eq_left', exists_eq_left, keyOf, implies_true, fillC, capOf]
                refine appendK_list (acc := []) (n := 0) Live.new rfl (hq2.has.app) (by rw [triL_len]) (by omega) (by omega) fun u N k1 k2 k3 k4 => ?_
                have hl2 : ∀ {r1 r2 : Option Blk}, (M2 ++ [r1, r2]).length = M2.length + 2 := by intros; simp
                rw [hl2] at k1 k3 k4
                rw [List.nil_append] at k2
                have hk4 : ∀ v, v < M2.length → N[v]? = M2[v]? := fun v hv => by rw [k4 v (by omega) (by omega), List.getElem?_append_left hv]
                simp (disch := omega) only [g1, g3, g4, g5, g12, g15, ↓SXd, SXu, slBounds, ↓sop, ↓aop, ↓reduceIte, LV.cells, AOp.dst, LV.I, LV.B, LV.U, LV.S, LV.nil, Nat.reduceEqDiff, Nat.reduceAdd, Nat.reduceMul, Nat.reduceSub, Nat.reduceLeDiff, Nat.reduceBEq, Nat.reduceDiv, Nat.reduceMod, Int.reduceToNat, Int.reduceLT, Int.reduceLE, Int.reduceAdd, Int.reduceSub, Int.reduceMul, Int.reduceEq, Int.reduceNeg, reduceCtorEq, resV, resAll, ARes.ev, LV.flat, ite_true, ite_false, exists_eq_left', exists_eq_left, keyOf, implies_true, fillC, capOf]
                have hW1 : Live (N.set (M2.length + 1) (some (.row [.I c.a, .I c.b, .I c.c] true 3))) (M2.length + 1) (.row (triL [c]) true 3) := by
                  unfold Live; rw [List.getElem?_set_self (by omega)]; rfl
                have hW2 : Live (N.set (M2.length + 1) (some (.row [.I c.a, .I c.b, .I c.c] true 3))) u (.row (triL ch) true 3) := k2.set_ne (by omega)
                have hWp : Pre M2 (N.set (M2.length + 1) (some (.row [.I c.a, .I c.b, .I c.c] true 3))) := ⟨by rw [List.length_set]; omega, fun v hv => by rw [List.getElem?_set_ne (by omega)]; exact hk4 v hv⟩
                have hWl : (N.set (M2.length + 1) (some (Blk.row [.I c.a, .I c.b, .I c.c] true 3))).length = N.length := List.length_set ..
                have hbl : M.length < M2.length := b52.lt
                have hal2 : a < M2.length := ha2.lt
                refine ⟨⟨fun b hb => ?_, fun b hb => ?_⟩, ?_⟩
                · rw [hWp.2 _ hbl]; rw [List.getElem?_append_left hbl] at hb; exact hb
                · rw [hWp.2 _ hal2]; rw [List.getElem?_append_left hal2] at hb; exact hb
                change appendK 3 24 (LV.ref u 0 ch.length) (LV.ref (M2.length + 1) 0 1) (N.set (M2.length + 1) (some (.row [.I c.a, .I c.b, .I c.c] true 3))) _
                generalize N.set (M2.length + 1) (some (Blk.row [.I c.a, .I c.b, .I c.c] true 3)) = W at hW1 hW2 hWp hWl ⊢
                refine appendK_list (n2 := 1) hW2 (by rw [triL_len]) hW1.has rfl (by omega) (by omega) fun u2 N2 j1 j2 j3 j4 => ?_
                have hp4 : Pre M2 N2 := pre_stepL hWp (t := u) (by omega) j1 j4
                have hpMN : Pre M N2 := hpM2.trans hp4
                have hu2 : M2.length ≤ u2 := by have := hWp.1; omega
                rw [← triL_append] at j2
                simp (disch := omega) only [g1, g3, g4, g5, g12, g15, ↓SXd, SXu, slBounds, ↓sop, ↓aop, ↓reduceIte, LV.cells, AOp.dst, LV.I, LV.B, LV.U, LV.S, LV.nil, Nat.reduceEqDiff, Nat.reduceAdd, Nat.reduceMul, Nat.reduceSub, Nat.reduceLeDiff, Nat.reduceBEq, Nat.reduceDiv, Nat.reduceMod, Int.reduceToNat, Int.reduceLT, Int.reduceLE, Int.reduceAdd, Int.reduceSub, Int.reduceMul, Int.reduceEq, Int.reduceNeg, reduceCtorEq, resV, resAll, ARes.ev, LV.flat, ite_true, ite_false, exists_eq_left', exists_eq_left, keyOf, implies_true, fillC, capOf]
                refine ⟨fun b hb => by rw [j4 _ (by omega) (by omega)]; exact hb, ?_⟩
                rw [show ch.length + 1 = (ch ++ [c]).length by simp, natI]
                refine callR_of (ih n (by omega) (ch := ch ++ [c]) (i0 := i + 1) (q := u2) (M := N2) (by rw [List.length_append, List.length_singleton]; omega) (by omega) (h1.pre hpMN) (h2.pre hpMN) (h3.pre hpMN) (ha2.pre hp4) j2 (fun d hd => by
                  rcases List.mem_append.1 hd with hd | hd
                  · exact hch d hd
                  · rw [List.mem_singleton.1 hd]; exact hcin)) ?_
                rintro _ N3 ⟨r1, rfl, hr1, hr2, hp5⟩
                cases hr : fc y z (lits tp fr sd) (al.drop (i + 1)) (ch ++ [c]) n with
                | some r =>
                  rw [hr] at hfc hr1
                  simp (disch := omega) only [g1, g3, g4, g5, g12, g15, Option.isSome_some, ↓SXd, SXu, slBounds, ↓sop, ↓aop, ↓reduceIte, LV.cells, AOp.dst, LV.I, LV.B, LV.U, LV.S, LV.nil, Nat.reduceEqDiff, Nat.reduceAdd, Nat.reduceMul, Nat.reduceSub, Nat.reduceLeDiff, Nat.reduceBEq, Nat.reduceDiv, Nat.reduceMod, Int.reduceToNat, Int.reduceLT, Int.reduceLE, Int.reduceAdd, Int.reduceSub, Int.reduceMul, Int.reduceEq, Int.reduceNeg, reduceCtorEq, resV, resAll, ARes.ev, LV.flat, ite_true, ite_false, exists_eq_left', exists_eq_left, keyOf, implies_true, fillC, capOf]
                  rw [hfi, hfc]
                  exact ⟨r1, rfl, hr1, .inr (by have := hpM2.1; have := hp4.1; omega), hpMN.trans hp5⟩
                | none =>
                  rw [hr] at hfc
                  have hpMN3 := hpMN.trans hp5
                  have b53 := (b52.pre hp4).pre hp5
                  have hdr2 := Tri.drop (k := i + 1) (ha.has.pre hpMN3) (by omega)
                  have hdl2 : (al.drop (i + 1)).length = al.length - (i + 1) := List.length_drop ..
                  have hcan2 := h_l3Can (D := D) (a := .ref t o tp.length) (b := .ref t' o' fr.length) (c' := .ref t2 o2 sd.length) hok ⟨rfl, rfl⟩ ⟨rfl, rfl⟩ ⟨rfl, rfl⟩ hdr2 (hdin (i + 1)) (by omega) (((hD.pre hp3).pre hp4).pre hp5) hDl
                  rw [hdl2, Nat.zero_add] at hcan2
                  have hesz2 := ((ha2.pre hp4).pre hp5).esz
                  have hp3N : Pre M' N3 := (hp3.trans hp4).trans hp5
                  have hto : ((i : Int) + 1).toNat = i + 1 := by omega
                  simp (disch := omega) only [g1, g3, g4, g5, g12, g15, b53.cells, hesz2, hto, Nat.zero_add, Option.isSome_none, ↓SXd, SXu, slBounds, ↓sop, ↓aop, ↓reduceIte, LV.cells, AOp.dst, LV.I, LV.B, LV.U, LV.S, LV.nil, Nat.reduceEqDiff, Nat.reduceAdd, Nat.reduceMul, Nat.reduceSub, Nat.reduceLeDiff, Nat.reduceBEq, Nat.reduceDiv, Nat.reduceMod, Int.reduceToNat, Int.reduceLT, Int.reduceLE, Int.reduceAdd, Int.reduceSub, Int.reduceMul, Int.reduceEq, Int.reduceNeg, reduceCtorEq, resV, resAll, ARes.ev, LV.flat, ite_true, ite_false, exists_eq_left', exists_eq_left, keyOf, implies_true, fillC, capOf]
                  refine callK_of hcan2 ?_
                  by_cases hC2 : CanMeet y z tp fr D (al.drop (i + 1))
                  · simp (disch := omega) only [g1, g3, g4, g5, g12, g15, hC2, ↓SXd, SXu, slBounds, ↓sop, ↓aop, ↓reduceIte, LV.cells, AOp.dst, LV.I, LV.B, LV.U, LV.S, LV.nil, Nat.reduceEqDiff, Nat.reduceAdd, Nat.reduceMul, Nat.reduceSub, Nat.reduceLeDiff, Nat.reduceBEq, Nat.reduceDiv, Nat.reduceMod, Int.reduceToNat, Int.reduceLT, Int.reduceLE, Int.reduceAdd, Int.reduceSub, Int.reduceMul, Int.reduceEq, Int.reduceNeg, reduceCtorEq, resV, resAll, ARes.ev, LV.flat, ite_true, ite_false, exists_eq_left', exists_eq_left, keyOf, implies_true, fillC, capOf]
                    exact ⟨m2 - 1, by omega, i + 1, by omega, by omega, hp3N, g1, g3, g4, g5, g12, eqI (natI _), by rw [hfi, hfc]⟩
                  · simp (disch := omega) only [g1, g3, g4, g5, g12, g15, hC2, ↓SXd, SXu, slBounds, ↓sop, ↓aop, ↓reduceIte, LV.cells, AOp.dst, LV.I, LV.B, LV.U, LV.S, LV.nil, Nat.reduceEqDiff, Nat.reduceAdd, Nat.reduceMul, Nat.reduceSub, Nat.reduceLeDiff, Nat.reduceBEq, Nat.reduceDiv, Nat.reduceMod, Int.reduceToNat, Int.reduceLT, Int.reduceLE, Int.reduceAdd, Int.reduceSub, Int.reduceMul, Int.reduceEq, Int.reduceNeg, reduceCtorEq, resV, resAll, ARes.ev, LV.flat, ite_true, ite_false, exists_eq_left', exists_eq_left, keyOf, implies_true, fillC, capOf]
                    exact hnone (by rw [hfi, hfc]; exact fc_none_of fun T hT _ => hp2 T _ (hdin (i + 1)) hT hC2) _ hp3N
              · have : i = al.length := by omega
                subst this
                simp (disch := omega) only [g1, g3, g4, g5, g12, g15, ↓SXd, SXu, slBounds, ↓sop, ↓aop, ↓reduceIte, LV.cells, AOp.dst, LV.I, LV.B, LV.U, LV.S, LV.nil, Nat.reduceEqDiff, Nat.reduceAdd, Nat.reduceMul, Nat.reduceSub, Nat.reduceLeDiff, Nat.reduceBEq, Nat.reduceDiv, Nat.reduceMod, Int.reduceToNat, Int.reduceLT, Int.reduceLE, Int.reduceAdd, Int.reduceSub, Int.reduceMul, Int.reduceEq, Int.reduceNeg, reduceCtorEq, resV, resAll, ARes.ev, LV.flat, ite_true, ite_false, exists_eq_left', exists_eq_left, keyOf, implies_true, fillC, capOf]
                exact hnone (by rw [hfi, List.drop_length]; rfl) _ hp3
            · simp (disch := omega) only [f1, f2, f3, f4, f5, f12, f13, f14, hC, ↓SXd, SXu, slBounds, ↓sop, ↓aop, ↓reduceIte, LV.cells, AOp.dst, LV.I, LV.B, LV.U, LV.S, LV.nil, Nat.reduceEqDiff, Nat.reduceAdd, Nat.reduceMul, Nat.reduceSub, Nat.reduceLeDiff, Nat.reduceBEq, Nat.reduceDiv, Nat.reduceMod, Int.reduceToNat, Int.reduceLT, Int.reduceLE, Int.reduceAdd, Int.reduceSub, Int.reduceMul, Int.reduceEq, Int.reduceNeg, reduceCtorEq, resV, resAll, ARes.ev, LV.flat, ite_true, ite_false, exists_eq_left', exists_eq_left, keyOf, implies_true, fillC, capOf]
              exact hnone (fc_none_of fun T hT _ => hp2 T _ (hdin i0) hT hC) _ (Pre.refl _)
end
end Go.Ab

/- The abstract code of some functions (written by a program of mine from the translation, by way of prepF). -/
namespace Go.Ab.C
open Go.Ab
end Go.Ab.C

/- That the program has this code. -/
namespace Go.Ab.K
open Go Go.Ab
end Go.Ab.K

/- Contracts: CountHeaps, the reference's side. -/
namespace Go.Ab
open Go
set_option linter.unusedSimpArgs false
set_option linter.unusedVariables false
set_option maxRecDepth 20000

/-- Of a list the members whose bits are set, among the first k. -/
def selTo (S : List Cell) (code k : Nat) : List Cell := ((List.range k).filter fun i => code.testBit i).map fun i => S.getD i default
/-- The codes that make a heap. -/
def goodCode (y z : Int) (L : List (Nat × Nat)) (mu S : List Cell) (code : Nat) : Bool := decide (Meets y z L (mu ++ selTo S code S.length))
def countOf (x y z : Int) (tp fr sd : List Int) : Int × Bool :=
  if ShdOK x y z tp fr sd then (if Fits x y z tp fr sd then (if (parted x y z tp fr sd true).length ≤ 14 then ((((List.range (2 ^ (parted x y z tp fr sd true).length)).countP (goodCode y z (lits tp fr sd) (parted x y z tp fr sd false) (parted x y z tp fr sd true)) : Nat) : Int), true) else (0, false)) else (0, true)) else (0, false)
section
variable {x y z : Int} {t o t' o' t2 o2 : Nat} {tp fr sd : List Int} {M : Mem} (h1 : Ints M t o tp) (h2 : Ints M t' o' fr) (h3 : Ints M t2 o2 sd) (l1 : tp.length ≤ 1000000000) (l2 : fr.length ≤ 1000000000) (l3 : sd.length ≤ 1000000000)
include h1 h2 h3 l1 l2 l3
end
end Go.Ab

/- Plain: parts of a set in falling order. -/
namespace Go.Ab
open Go
set_option linter.unusedSimpArgs false
set_option linter.unusedVariables false

section
variable {x y z : Int} (hS : Sides x y z)
include hS
/-- The part with a code, as a set. -/
def bsel (x y z : Int) (S : List Cell) (code : Nat) : BitVec 64 := bs x y z fun c => decide (c ∈ selTo S code S.length)
end
end Go.Ab

/- Plain: the fewest cubes, and the first heap of them, step by step. -/
namespace Go.Ab
open Go
set_option linter.unusedSimpArgs false
set_option linter.unusedVariables false

theorem nodup_sub : ∀ {l T : List Cell}, l.Nodup → (∀ c ∈ l, c ∈ T) → l.length ≤ T.length
  | [], _, _, _ => Nat.zero_le _
  | a :: l, T, hn, h => by
    rw [List.nodup_cons] at hn
    have ha := h a (by simp)
    have := nodup_sub (l := l) (T := T.erase a) hn.2 fun c hc => (List.mem_erase_of_ne (fun e => hn.1 (by rw [← e]; exact hc))).2 (h c (by simp [hc]))
    rw [List.length_erase_of_mem ha] at this
    have : 0 < T.length := List.length_pos_of_mem ha
    simp only [List.length_cons]; omega
theorem pick_nodup {x y z : Int} (hS : Sides x y z) (p : Cell → Bool) : (pick x y z p).Nodup := (pick_ok hS p).nodup
/-- The first list of the fewest cells that meet all lines. -/
def fewR (y z : Int) (L : List (Nat × Nat)) (al : List Cell) : Option (List Cell) := (List.range (al.length + 1)).findSome? fun k => fc y z L al [] k
theorem exists_min {P : Nat → Prop} : ∀ n, P n → ∃ k, k ≤ n ∧ P k ∧ ∀ j, j < k → ¬ P j := by
  intro n
  induction n using Nat.strongRecOn with
  | ind n ih =>
    intro h
    by_cases hx : ∃ j, j < n ∧ P j
    · obtain ⟨j, h1, h2⟩ := hx
      obtain ⟨k, h3, h4, h5⟩ := ih j h1 h2
      exact ⟨k, by omega, h4, h5⟩
    · exact ⟨n, Nat.le_refl _, h, fun j hj hp => hx ⟨j, hj, hp⟩⟩
theorem fewR_of {y z : Int} {L : List (Nat × Nat)} {al r : List Cell} {k : Nat} (hk : k ≤ al.length) (h1 : fc y z L al [] k = some r) (h2 : ∀ j, j < k → fc y z L al [] j = none) : fewR y z L al = some r := by
  unfold fewR
  rw [List.findSome?_eq_some_iff]
  refine ⟨List.range k, k, (List.range (al.length - k)).map (k + 1 + ·), ?_, h1, fun j hj => h2 j (List.mem_range.1 hj)⟩
  rw [show al.length + 1 = k + 1 + (al.length - k) by omega, List.range_add, List.range_succ, List.append_assoc]; rfl

section
variable {x y z : Int} {tp fr sd : List Int}
theorem fits_meets (h : Fits x y z tp fr sd) : Meets y z (lits tp fr sd) (pick x y z (allowedB y z tp fr sd)) := by
  obtain ⟨hok, hs⟩ := h
  rintro ⟨d, i⟩ hq
  obtain ⟨hd, hi, hl⟩ := mem_lits.1 hq
  have hsl : shdOf x y z d (pick x y z (allowedB y z tp fr sd)) = shdList d tp fr sd := by
    rcases (show d = 0 ∨ d = 1 ∨ d = 2 by omega) with rfl | rfl | rfl
    · exact hs.2.2
    · exact hs.2.1
    · exact hs.1
  have hil : i < (linesOf x y z d).toNat := by
    have := (hok.list hd).2
    omega
  rw [← hsl] at hl
  unfold shdOf onesL at hl
  rw [List.getD_eq_getElem?_getD, List.getElem?_map] at hl
  have hvl := viewL_len (x := x) (y := y) (z := z) (d := d) (cs := pick x y z (allowedB y z tp fr sd))
  rw [List.getElem?_eq_getElem (by omega)] at hl
  have hg := viewL_get (x := x) (y := y) (z := z) (d := d) (cs := pick x y z (allowedB y z tp fr sd)) hil
  rw [List.getD_eq_getElem?_getD, List.getElem?_eq_getElem (by omega)] at hg
  simp only [Option.map_some, Option.getD_some] at hl hg
  rw [hg] at hl
  have hpos : 0 < (pick x y z (allowedB y z tp fr sd)).countP (onLine y z d i) := by omega
  obtain ⟨c, hc, ho⟩ := List.countP_pos_iff.1 hpos
  exact ⟨c, hc, ho⟩
/-- How many are needed, and the first list of them. -/
theorem few_ex (h : Fits x y z tp fr sd) : ∃ k r, k ≤ (pick x y z (allowedB y z tp fr sd)).length ∧ fc y z (lits tp fr sd) (pick x y z (allowedB y z tp fr sd)) [] k = some r ∧ (∀ j, j < k → fc y z (lits tp fr sd) (pick x y z (allowedB y z tp fr sd)) [] j = none) ∧
    fewR y z (lits tp fr sd) (pick x y z (allowedB y z tp fr sd)) = some r ∧ r.length = k := by
  have hm := fits_meets h
  obtain ⟨k, h1, h2, h3⟩ := exists_min (P := fun k => (fc y z (lits tp fr sd) (pick x y z (allowedB y z tp fr sd)) [] k).isSome = true) _ (fc_isSome.2 ⟨_, List.Sublist.refl _, rfl, hm⟩)
  obtain ⟨r, hr⟩ := Option.isSome_iff_exists.1 h2
  have hn : ∀ j, j < k → fc y z (lits tp fr sd) (pick x y z (allowedB y z tp fr sd)) [] j = none := fun j hj => by
    cases hf : fc y z (lits tp fr sd) (pick x y z (allowedB y z tp fr sd)) [] j with
    | none => rfl
    | some r => exact absurd (by show (fc _ _ _ _ _ _).isSome = true; rw [hf]; rfl) (h3 j hj)
  obtain ⟨T, h4, h5, h6, h7⟩ := fc_some hr
  exact ⟨k, r, h1, hr, hn, fewR_of h1 hr hn, by rw [h6]; simpa using h5⟩
theorem must_in (hok : ShdOK x y z tp fr sd) {T : List Cell} (hT : ∀ c ∈ T, c ∈ pick x y z (allowedB y z tp fr sd)) (hm : Meets y z (lits tp fr sd) T) : ∀ c ∈ parted x y z tp fr sd false, c ∈ T := by
  intro c hc
  rw [parted_must hok, mem_pick hok.1] at hc
  obtain ⟨hcb, hmu⟩ := hc
  unfold mustTo at hmu
  obtain ⟨q, hq, h1, h2⟩ := of_decide_eq_true hmu
  obtain ⟨e, he, ho⟩ := hm q hq
  have hea := (mem_pick hok.1).1 (hT e he)
  have hei : inLine y z (allowedB y z tp fr sd) q e = true := by unfold inLine; rw [hea.2, ho]; rfl
  have m1 := (mem_pick hok.1).2 ⟨hcb, h2⟩
  have m2 := (mem_pick hok.1).2 ⟨hea.1, hei⟩
  have hce : c = e := by
    generalize pick x y z (inLine y z (allowedB y z tp fr sd) q) = l at h1 m1 m2
    match l, h1 with
    | [a], _ => rw [List.mem_singleton.1 m1, List.mem_singleton.1 m2]
  rw [hce]; exact he
/-- The search of the program, in terms of that of the reference. -/
theorem cov_few (h : Fits x y z tp fr sd) {k n : Nat} {r : List Cell} (h1 : fc y z (lits tp fr sd) (pick x y z (allowedB y z tp fr sd)) [] k = some r) (h2 : ∀ j, j < k → fc y z (lits tp fr sd) (pick x y z (allowedB y z tp fr sd)) [] j = none) :
    Cov y z (lits tp fr sd) (pick x y z (allowedB y z tp fr sd)) (mustTo x y z (allowedB y z tp fr sd) (lits tp fr sd)) (fun _ => false) n ↔ k ≤ (parted x y z tp fr sd false).length + n := by
  have hok := h.1
  have hS := hok.1
  have hU := parted_must hok
  have hn := pick_nodup hS (allowedB y z tp fr sd)
  have hUn : (parted x y z tp fr sd false).Nodup := by rw [hU]; exact pick_nodup hS _
  have hUm := fun c => mem_pick hS (p := mustTo x y z (allowedB y z tp fr sd) (lits tp fr sd)) (c := c)
  rw [← hU] at hUm
  have hmi := fun T => must_in hok (T := T)
  generalize mustTo x y z (allowedB y z tp fr sd) (lits tp fr sd) = mu at hUm ⊢
  generalize parted x y z tp fr sd false = U at hUn hUm hmi ⊢
  have hAb : ∀ c ∈ pick x y z (allowedB y z tp fr sd), c.inBox x y z := fun c hc => ((mem_pick hS).1 hc).1
  generalize pick x y z (allowedB y z tp fr sd) = A at h1 h2 hn hAb hmi ⊢
  constructor
  · rintro ⟨T, t1, _, t3⟩
    refine Classical.byContradiction fun hlt => ?_
    have hs : (A.filter fun c => mu c || decide (c ∈ T)).Sublist A := List.filter_sublist
    have hm : Meets y z (lits tp fr sd) ([] ++ A.filter fun c => mu c || decide (c ∈ T)) := fun q hq => by
      obtain ⟨c, hc, ho, hpt⟩ := t3 q hq
      refine ⟨c, List.mem_filter.2 ⟨hc, ?_⟩, ho⟩
      rcases hpt with hp | hp
      · rw [hp]; rfl
      · rw [decide_eq_true hp]; simp
    have hl : (A.filter fun c => mu c || decide (c ∈ T)).length ≤ (U ++ T).length := nodup_sub (hn.filter _) fun c hc => by
      obtain ⟨hc1, hc2⟩ := List.mem_filter.1 hc
      rw [Bool.or_eq_true, decide_eq_true_iff] at hc2
      rcases hc2 with hc2 | hc2
      · exact List.mem_append.2 (.inl ((hUm c).2 ⟨hAb c hc1, hc2⟩))
      · exact List.mem_append.2 (.inr hc2)
    rw [List.length_append] at hl
    exact fc_none (h2 _ (by omega)) _ hs rfl hm
  · intro hle
    obtain ⟨T, t1, t2, t3, t4⟩ := fc_some h1
    rw [List.nil_append] at t3
    subst t3
    have hTA : ∀ c ∈ r, c ∈ A := fun c hc => t1.mem hc
    have hUT := hmi r hTA t4
    refine ⟨r.filter fun c => !mu c, ?_, fun _ _ => rfl, fun q hq => ?_⟩
    · have hrn : r.Nodup := hn.sublist t1
      have e1 := List.length_eq_countP_add_countP mu (l := r)
      have e2 : U.length ≤ (r.filter mu).length := nodup_sub hUn fun c hc => List.mem_filter.2 ⟨hUT c hc, ((hUm c).1 hc).2⟩
      rw [← List.countP_eq_length_filter] at e2
      have e3 : (r.filter fun c => !mu c).length = r.countP fun c => decide ¬mu c = true := by
        rw [← List.countP_eq_length_filter]
        apply List.countP_congr
        intro c _; cases mu c <;> simp
      omega
    · obtain ⟨c, hc, ho⟩ := t4 q hq
      refine ⟨c, hTA c hc, ho, ?_⟩
      cases hmc : mu c with
      | true => exact .inl rfl
      | false => exact .inr (List.mem_filter.2 ⟨hc, by rw [hmc]; rfl⟩)
theorem must_le (h : Fits x y z tp fr sd) {k : Nat} {r : List Cell} (h1 : fc y z (lits tp fr sd) (pick x y z (allowedB y z tp fr sd)) [] k = some r) : (parted x y z tp fr sd false).length ≤ k := by
  obtain ⟨T, t1, t2, t3, t4⟩ := fc_some h1
  rw [List.nil_append] at t3
  subst t3
  have hUn : (parted x y z tp fr sd false).Nodup := by rw [parted_must h.1]; exact pick_nodup h.1.1 _
  have := nodup_sub hUn (must_in h.1 (fun c hc => t1.mem hc) t4)
  omega
end
end Go.Ab

/- Contracts: FewestCubes and FirstFewest, the reference's side. -/
namespace Go.Ab
open Go
set_option linter.unusedSimpArgs false
set_option linter.unusedVariables false
set_option maxRecDepth 20000

def SmallS (x y z : Int) (tp fr sd : List Int) : Prop := Fits x y z tp fr sd ∧ x * y * z ≤ 27
instance (x y z : Int) (tp fr sd : List Int) : Decidable (SmallS x y z tp fr sd) := by unfold SmallS; exact inferInstance
def fewCells (x y z : Int) (tp fr sd : List Int) : List Cell := (fewR y z (lits tp fr sd) (pick x y z (allowedB y z tp fr sd))).getD []
def fewOf (x y z : Int) (tp fr sd : List Int) : Int × Bool := if SmallS x y z tp fr sd then (((fewCells x y z tp fr sd).length : Nat), true) else (0, false)
def firstFew (x y z : Int) (tp fr sd : List Int) : Option Hp := if SmallS x y z tp fr sd then some ⟨x, y, z, fewCells x y z tp fr sd⟩ else none
section
variable {x y z : Int} {t o t' o' t2 o2 : Nat} {tp fr sd : List Int} {M : Mem} (h1 : Ints M t o tp) (h2 : Ints M t' o' fr) (h3 : Ints M t2 o2 sd)
include h1 h2 h3
theorem h_l3Fewest (hF : Fits x y z tp fr sd) : CallsR PG F.spec_l3Fewest [.agg [.I x, .I y, .I z, .ref t o tp.length, .ref t' o' fr.length, .ref t2 o2 sd.length]] M
    fun v N => ∃ u : Nat, v = .agg [.I x, .I y, .I z, .ref u 0 (fewCells x y z tp fr sd).length] ∧ Live N u (.row (triL (fewCells x y z tp fr sd)) true 3) ∧ M.length ≤ u ∧ Pre M N := by
  have hok := hF.1
  have hS := hok.1
  obtain ⟨k, r, hk, hr, hnone, hfr, hrl⟩ := few_ex hF
  have hfc : fewCells x y z tp fr sd = r := by unfold fewCells; rw [hfr]; rfl
  rw [hfc]
  have hAl := pick_len hS (allowedB y z tp fr sd)
  have hAin : ∀ c ∈ pick x y z (allowedB y z tp fr sd), c.inBox x y z := fun c hc => ((mem_pick hS).1 hc).1
  refine callsR_run K.spec_l3Fewest rfl ?_
  simp (disch := omega) only [C.spec_l3Fewest, ↓SXd, SXu, slBounds, ↓sop, ↓aop, ↓reduceIte, LV.cells, AOp.dst, LV.I, LV.B, LV.U, LV.S, LV.nil, Nat.reduceEqDiff, Nat.reduceAdd, Nat.reduceMul, Nat.reduceSub, Nat.reduceLeDiff, Nat.reduceBEq, Nat.reduceDiv, Nat.reduceMod, Int.reduceToNat, Int.reduceLT, Int.reduceLE, Int.reduceAdd, Int.reduceSub, Int.reduceMul, Int.reduceEq, Int.reduceNeg, reduceCtorEq, resV, resAll, ARes.ev, LV.flat, ite_true, ite_false, exists_eq_left', exists_eq_left, keyOf, implies_true, fillC, capOf]
  refine callH_of (h_l3Allowed h1.app h2.app h3.app hok) ?_
  intro a N ha hp hl
  have hM : Pre M N := (Pre.app _ _).trans hp
  have b1 : Live N M.length (.row [.I x, .I y, .I z, .ref t o tp.length, .ref t' o' fr.length, .ref t2 o2 sd.length] true 0) := Live.new.pre hp
  have b2 : Live N (M.length + 1) (.row [.I 0, .I 0, .I 0, .nil] true 0) := (Live.newj rfl).pre hp
  have hsearch := h_l3Search (x := x) (y := y) (z := z) (t := t) (o := o) (t' := t') (o' := o') (t2 := t2) (o2 := o2) (a := a) (w := true) hok hAin hAl
  generalize pick x y z (allowedB y z tp fr sd) = A at hk hr hnone hAl hl hsearch ⊢
  simp (disch := omega) only [↓SXd, SXu, slBounds, ↓sop, ↓aop, ↓reduceIte, LV.cells, AOp.dst, LV.I, LV.B, LV.U, LV.S, LV.nil, Nat.reduceEqDiff, Nat.reduceAdd, Nat.reduceMul, Nat.reduceSub, Nat.reduceLeDiff, Nat.reduceBEq, Nat.reduceDiv, Nat.reduceMod, Int.reduceToNat, Int.reduceLT, Int.reduceLE, Int.reduceAdd, Int.reduceSub, Int.reduceMul, Int.reduceEq, Int.reduceNeg, reduceCtorEq, resV, resAll, ARes.ev, LV.flat, ite_true, ite_false, exists_eq_left', exists_eq_left, keyOf, implies_true, fillC, capOf]
  refine ev_loop (fun m fr1 M' => ∃ j : Nat, j + m = A.length + 1 ∧ j ≤ k ∧ Pre N M' ∧ fr1 1 = .ptr M.length 0 ∧ fr1 2 = .ptr (M.length + 1) 0 ∧ fr1 3 = .ref a 0 A.length ∧ fr1 4 = .I j) (A.length + 1)
    ⟨0, by omega, by omega, Pre.refl _, rfl, rfl, rfl, rfl⟩ ?_
  rintro m fr1 M' ⟨j, hj, hjk, hpr, f1, f2, f3, f4⟩
  have hjA : (j : Int) ≤ A.length := by omega
  simp (disch := omega) only [f1, f2, f3, f4, hjA, (b1.pre hpr).cells, ↓SXd, SXu, slBounds, ↓sop, ↓aop, ↓reduceIte, LV.cells, AOp.dst, LV.I, LV.B, LV.U, LV.S, LV.nil, Nat.reduceEqDiff, Nat.reduceAdd, Nat.reduceMul, Nat.reduceSub, Nat.reduceLeDiff, Nat.reduceBEq, Nat.reduceDiv, Nat.reduceMod, Int.reduceToNat, Int.reduceLT, Int.reduceLE, Int.reduceAdd, Int.reduceSub, Int.reduceMul, Int.reduceEq, Int.reduceNeg, reduceCtorEq, resV, resAll, ARes.ev, LV.flat, ite_true, ite_false, exists_eq_left', exists_eq_left, keyOf, implies_true, fillC, capOf]
  have hpM := (hM.trans hpr).app' (L := [some (.row [] true 3)])
  refine callR_of (hsearch j (by omega) j (ch := []) (i0 := 0) (q := M'.length) (M := M' ++ [some (.row [] true 3)]) (by simp) (by omega) (h1.pre hpM) (h2.pre hpM) (h3.pre hpM) ((hl.pre hpr).app) Live.new (by simp)) ?_
  rintro _ N2 ⟨u, rfl, hu, hul, hp2⟩
  rw [List.drop_zero] at hu ⊢
  have hul2 : M'.length ≤ u := by
    rcases hul with h | h
    · omega
    · simp at h; omega
  have hpN2 : Pre N N2 := hpr.trans ((Pre.app _ _).trans hp2)
  cases hf : fc y z (lits tp fr sd) A [] j with
  | none =>
    have hjne : j ≠ k := fun e => by rw [e, hr] at hf; cases hf
    simp (disch := omega) only [f1, f2, f3, f4, Option.isSome_none, ↓SXd, SXu, slBounds, ↓sop, ↓aop, ↓reduceIte, LV.cells, AOp.dst, LV.I, LV.B, LV.U, LV.S, LV.nil, Nat.reduceEqDiff, Nat.reduceAdd, Nat.reduceMul, Nat.reduceSub, Nat.reduceLeDiff, Nat.reduceBEq, Nat.reduceDiv, Nat.reduceMod, Int.reduceToNat, Int.reduceLT, Int.reduceLE, Int.reduceAdd, Int.reduceSub, Int.reduceMul, Int.reduceEq, Int.reduceNeg, reduceCtorEq, resV, resAll, ARes.ev, LV.flat, ite_true, ite_false, exists_eq_left', exists_eq_left, keyOf, implies_true, fillC, capOf]
    exact ⟨m - 1, by omega, j + 1, by omega, by omega, hpN2, f1, f2, f3, eqI (natI _)⟩
  | some r' =>
    have hjk2 : j = k := by
      rcases Nat.lt_or_ge j k with h | h
      · rw [hnone j h] at hf; cases hf
      · omega
    subst hjk2
    rw [hr] at hf
    cases hf
    rw [hr] at hu
    simp only [Option.getD_some] at hu ⊢
    have hrl2 : r.length ≤ 64 := by omega
    simp (disch := omega) only [f1, f2, f3, f4, Option.isSome_some, (b1.pre hpN2).cell, ↓SXd, SXu, slBounds, ↓sop, ↓aop, ↓reduceIte, LV.cells, AOp.dst, LV.I, LV.B, LV.U, LV.S, LV.nil, Nat.reduceEqDiff, Nat.reduceAdd, Nat.reduceMul, Nat.reduceSub, Nat.reduceLeDiff, Nat.reduceBEq, Nat.reduceDiv, Nat.reduceMod, Int.reduceToNat, Int.reduceLT, Int.reduceLE, Int.reduceAdd, Int.reduceSub, Int.reduceMul, Int.reduceEq, Int.reduceNeg, reduceCtorEq, resV, resAll, ARes.ev, LV.flat, ite_true, ite_false, exists_eq_left', exists_eq_left, keyOf, implies_true, fillC, capOf]
    have huN := hu.lt
    refine callK_of (h_l2Empty) ?_
    simp (disch := omega) only [↓SXd, SXu, slBounds, ↓sop, ↓aop, ↓reduceIte, LV.cells, AOp.dst, LV.I, LV.B, LV.U, LV.S, LV.nil, Nat.reduceEqDiff, Nat.reduceAdd, Nat.reduceMul, Nat.reduceSub, Nat.reduceLeDiff, Nat.reduceBEq, Nat.reduceDiv, Nat.reduceMod, Int.reduceToNat, Int.reduceLT, Int.reduceLE, Int.reduceAdd, Int.reduceSub, Int.reduceMul, Int.reduceEq, Int.reduceNeg, reduceCtorEq, resV, resAll, ARes.ev, LV.flat, ite_true, ite_false, exists_eq_left', exists_eq_left, keyOf, implies_true, fillC, capOf]
    refine callK_of (h_l2Made (t := u) (by simp; omega)) ?_
    simp (disch := omega) only [f1, f2, f3, f4, ↓SXd, SXu, slBounds, ↓sop, ↓aop, ↓reduceIte, LV.cells, AOp.dst, LV.I, LV.B, LV.U, LV.S, LV.nil, Nat.reduceEqDiff, Nat.reduceAdd, Nat.reduceMul, Nat.reduceSub, Nat.reduceLeDiff, Nat.reduceBEq, Nat.reduceDiv, Nat.reduceMod, Int.reduceToNat, Int.reduceLT, Int.reduceLE, Int.reduceAdd, Int.reduceSub, Int.reduceMul, Int.reduceEq, Int.reduceNeg, reduceCtorEq, resV, resAll, ARes.ev, LV.flat, ite_true, ite_false, exists_eq_left', exists_eq_left, keyOf, implies_true, fillC, capOf]
    refine memK_box (vs := [.I x, .I y, .I z, .ref u 0 r.length]) (((b2.pre hpN2)).app) rfl fun N3 q1 q2 q3 => ?_
    simp (disch := omega) only [f1, f2, f3, f4, q2.cells, ↓SXd, SXu, slBounds, ↓sop, ↓aop, ↓reduceIte, LV.cells, AOp.dst, LV.I, LV.B, LV.U, LV.S, LV.nil, Nat.reduceEqDiff, Nat.reduceAdd, Nat.reduceMul, Nat.reduceSub, Nat.reduceLeDiff, Nat.reduceBEq, Nat.reduceDiv, Nat.reduceMod, Int.reduceToNat, Int.reduceLT, Int.reduceLE, Int.reduceAdd, Int.reduceSub, Int.reduceMul, Int.reduceEq, Int.reduceNeg, reduceCtorEq, resV, resAll, ARes.ev, LV.flat, ite_true, ite_false, exists_eq_left', exists_eq_left, keyOf, implies_true, fillC, capOf]
    have hlM : M.length + 1 < N2.length := (b2.pre hpN2).lt
    have hlMM := hM.1
    have hprl := hpr.1
    have hb2l := b2.lt
    refine ⟨u, rfl, live_step hu.app (by omega) q3, by omega, pre_step ((hM.trans hpN2).app') (by omega) (j := 0) q1 q3⟩
theorem h_l3Small (l1 : tp.length ≤ 1000000000) (l2 : fr.length ≤ 1000000000) (l3 : sd.length ≤ 1000000000) : CallsTo PG F.spec_l3Small [.agg [.I x, .I y, .I z, .ref t o tp.length, .ref t' o' fr.length, .ref t2 o2 sd.length]] M (.B (decide (SmallS x y z tp fr sd))) M := by
  refine calls_run K.spec_l3Small rfl ?_
  simp (disch := omega) only [C.spec_l3Small, ↓SXd, SXu, slBounds, ↓sop, ↓aop, ↓reduceIte, LV.cells, AOp.dst, LV.I, LV.B, LV.U, LV.S, LV.nil, Nat.reduceEqDiff, Nat.reduceAdd, Nat.reduceMul, Nat.reduceSub, Nat.reduceLeDiff, Nat.reduceBEq, Nat.reduceDiv, Nat.reduceMod, Int.reduceToNat, Int.reduceLT, Int.reduceLE, Int.reduceAdd, Int.reduceSub, Int.reduceMul, Int.reduceEq, Int.reduceNeg, reduceCtorEq, resV, resAll, ARes.ev, LV.flat, ite_true, ite_false, exists_eq_left', exists_eq_left, keyOf, implies_true, fillC, capOf]
  refine callK_of (h_l3Fit h1.app h2.app h3.app l1 l2 l3) ?_
  unfold SmallS
  by_cases hF : Fits x y z tp fr sd
  · rw [show decide (ShdOK x y z tp fr sd ∧ HasShd x y z tp fr sd (pick x y z (allowedB y z tp fr sd))) = true from decide_eq_true hF]
    have hv := vol_bound hF.1.1
    simp (disch := omega) only [hF, true_and, ↓SXd, SXu, slBounds, ↓sop, ↓aop, ↓reduceIte, LV.cells, AOp.dst, LV.I, LV.B, LV.U, LV.S, LV.nil, Nat.reduceEqDiff, Nat.reduceAdd, Nat.reduceMul, Nat.reduceSub, Nat.reduceLeDiff, Nat.reduceBEq, Nat.reduceDiv, Nat.reduceMod, Int.reduceToNat, Int.reduceLT, Int.reduceLE, Int.reduceAdd, Int.reduceSub, Int.reduceMul, Int.reduceEq, Int.reduceNeg, reduceCtorEq, resV, resAll, ARes.ev, LV.flat, ite_true, ite_false, exists_eq_left', exists_eq_left, keyOf, implies_true, fillC, capOf]
    exact cmp_drop rfl
  · rw [show decide (ShdOK x y z tp fr sd ∧ HasShd x y z tp fr sd (pick x y z (allowedB y z tp fr sd))) = false from decide_eq_false hF]
    simp (disch := omega) only [hF, false_and, ↓SXd, SXu, slBounds, ↓sop, ↓aop, ↓reduceIte, LV.cells, AOp.dst, LV.I, LV.B, LV.U, LV.S, LV.nil, Nat.reduceEqDiff, Nat.reduceAdd, Nat.reduceMul, Nat.reduceSub, Nat.reduceLeDiff, Nat.reduceBEq, Nat.reduceDiv, Nat.reduceMod, Int.reduceToNat, Int.reduceLT, Int.reduceLE, Int.reduceAdd, Int.reduceSub, Int.reduceMul, Int.reduceEq, Int.reduceNeg, reduceCtorEq, resV, resAll, ARes.ev, LV.flat, ite_true, ite_false, exists_eq_left', exists_eq_left, keyOf, implies_true, fillC, capOf]
    exact cmp_drop rfl
theorem h_sFewestCubes (l1 : tp.length ≤ 1000000000) (l2 : fr.length ≤ 1000000000) (l3 : sd.length ≤ 1000000000) : CallsR PG F.spec_FewestCubes [.agg [.I x, .I y, .I z, .ref t o tp.length, .ref t' o' fr.length, .ref t2 o2 sd.length]] M fun v N => v = .tup [.I (fewOf x y z tp fr sd).1, .B (fewOf x y z tp fr sd).2] ∧ Pre M N := by
  refine callsR_run K.spec_FewestCubes rfl ?_
  simp (disch := omega) only [C.spec_FewestCubes, ↓SXd, SXu, slBounds, ↓sop, ↓aop, ↓reduceIte, LV.cells, AOp.dst, LV.I, LV.B, LV.U, LV.S, LV.nil, Nat.reduceEqDiff, Nat.reduceAdd, Nat.reduceMul, Nat.reduceSub, Nat.reduceLeDiff, Nat.reduceBEq, Nat.reduceDiv, Nat.reduceMod, Int.reduceToNat, Int.reduceLT, Int.reduceLE, Int.reduceAdd, Int.reduceSub, Int.reduceMul, Int.reduceEq, Int.reduceNeg, reduceCtorEq, resV, resAll, ARes.ev, LV.flat, ite_true, ite_false, exists_eq_left', exists_eq_left, keyOf, implies_true, fillC, capOf]
  refine callK_of (h_l3Small h1.app h2.app h3.app l1 l2 l3) ?_
  simp (disch := omega) only [↓SXd, SXu, slBounds, ↓sop, ↓aop, ↓reduceIte, LV.cells, AOp.dst, LV.I, LV.B, LV.U, LV.S, LV.nil, Nat.reduceEqDiff, Nat.reduceAdd, Nat.reduceMul, Nat.reduceSub, Nat.reduceLeDiff, Nat.reduceBEq, Nat.reduceDiv, Nat.reduceMod, Int.reduceToNat, Int.reduceLT, Int.reduceLE, Int.reduceAdd, Int.reduceSub, Int.reduceMul, Int.reduceEq, Int.reduceNeg, reduceCtorEq, resV, resAll, ARes.ev, LV.flat, ite_true, ite_false, exists_eq_left', exists_eq_left, keyOf, implies_true, fillC, capOf]
  unfold fewOf
  by_cases hF : SmallS x y z tp fr sd
  · rw [if_pos hF]
    simp (disch := omega) only [hF, ↓SXd, SXu, slBounds, ↓sop, ↓aop, ↓reduceIte, LV.cells, AOp.dst, LV.I, LV.B, LV.U, LV.S, LV.nil, Nat.reduceEqDiff, Nat.reduceAdd, Nat.reduceMul, Nat.reduceSub, Nat.reduceLeDiff, Nat.reduceBEq, Nat.reduceDiv, Nat.reduceMod, Int.reduceToNat, Int.reduceLT, Int.reduceLE, Int.reduceAdd, Int.reduceSub, Int.reduceMul, Int.reduceEq, Int.reduceNeg, reduceCtorEq, resV, resAll, ARes.ev, LV.flat, ite_true, ite_false, exists_eq_left', exists_eq_left, keyOf, implies_true, fillC, capOf]
    refine callR_of (h_l3Fewest h1.app h2.app h3.app hF.1) ?_
    rintro _ N ⟨u, rfl, hu, _, hp⟩
    simp (disch := omega) only [↓SXd, SXu, slBounds, ↓sop, ↓aop, ↓reduceIte, LV.cells, AOp.dst, LV.I, LV.B, LV.U, LV.S, LV.nil, Nat.reduceEqDiff, Nat.reduceAdd, Nat.reduceMul, Nat.reduceSub, Nat.reduceLeDiff, Nat.reduceBEq, Nat.reduceDiv, Nat.reduceMod, Int.reduceToNat, Int.reduceLT, Int.reduceLE, Int.reduceAdd, Int.reduceSub, Int.reduceMul, Int.reduceEq, Int.reduceNeg, reduceCtorEq, resV, resAll, ARes.ev, LV.flat, ite_true, ite_false, exists_eq_left', exists_eq_left, keyOf, implies_true, fillC, capOf]
    exact ⟨rfl, (Pre.app _ _).trans hp⟩
  · rw [if_neg hF]
    simp (disch := omega) only [hF, ↓SXd, SXu, slBounds, ↓sop, ↓aop, ↓reduceIte, LV.cells, AOp.dst, LV.I, LV.B, LV.U, LV.S, LV.nil, Nat.reduceEqDiff, Nat.reduceAdd, Nat.reduceMul, Nat.reduceSub, Nat.reduceLeDiff, Nat.reduceBEq, Nat.reduceDiv, Nat.reduceMod, Int.reduceToNat, Int.reduceLT, Int.reduceLE, Int.reduceAdd, Int.reduceSub, Int.reduceMul, Int.reduceEq, Int.reduceNeg, reduceCtorEq, resV, resAll, ARes.ev, LV.flat, ite_true, ite_false, exists_eq_left', exists_eq_left, keyOf, implies_true, fillC, capOf]
    exact ⟨rfl, Pre.app _ _⟩
end
end Go.Ab

/- The abstract code of some functions (written by a program of mine from the translation, by way of prepF). -/
namespace Go.Ab.C
open Go.Ab
def impl_Shadow_fewest : AFn :=
  ⟨1, 31, [.tmp 2, .tmp 3],
    .seq (.ops [(none, .box 1 (.t 0)),
       (none, .mv 2 (.c (.I 0))),
       (none, .mv 3 (.c (.B false)))])
    (.seq (.seq (.ops [(none, .loadN 5 6 (.t 1)),
         (none, .call (some 6) F.impl_isFitting [(.t 5)]),
         (none, .un 7 .not (.t 6)),
         (none, .mv 8 (.t 7)),
         (some (8, false), .loadN 9 6 (.t 1)),
         (some (8, false), .call (some 10) F.impl_Shadow_box [(.t 9)]),
         (some (8, false), .call (some 11) F.impl_box_size [(.t 10)]),
         (some (8, false), .bin 12 .gtr (.t 11) (.c (.I 27))),
         (none, .pick 13 (.t 8) (.c (.B true)) (.t 12))])
      (.cond (.t 13) (.seq (.ops [(none, .mv 2 (.c (.I 0))),
           (none, .mv 3 (.c (.B false)))])
        (.ret))
       (.skip)))
     (.seq (.ops [(none, .loadN 14 6 (.t 1)),
         (none, .call (some 15) F.impl_Shadow_must [(.t 14)]),
         (none, .call (some 16) F.impl_set_count [(.t 15)]),
         (none, .mv 4 (.t 16))])
      (.seq (.block 0 (.loop (.seq (.seq (.draw [⟨(none, .loadN 17 6 (.t 1)), [], []⟩,
              ⟨(none, .loadN 19 6 (.t 1)), [], []⟩,
              ⟨(none, .mv 21 (.t 4)), [], []⟩,
              ⟨(none, .loadN 22 6 (.t 1)), [], []⟩,
              ⟨(none, .call (some 18) F.impl_Shadow_needs [(.t 17)]), [], [1, 2, 3]⟩,
              ⟨(none, .call (some 20) F.impl_Shadow_must [(.t 19)]), [], [2, 3]⟩,
              ⟨(none, .call (some 23) F.impl_Shadow_must [(.t 22)]), [], [2]⟩,
              ⟨(none, .call (some 24) F.impl_set_count [(.t 23)]), [], [2]⟩,
              ⟨(none, .bin 25 .sub (.t 21) (.t 24)), [], []⟩,
              ⟨(none, .call (some 26) F.impl_canMeet [(.t 18), (.t 20), (.c (.U 0)), (.t 25)]), [], []⟩,
              ⟨(none, .un 27 .not (.t 26)), [], []⟩])
           (.cond (.t 27) (.skip)
            (.exit 0)))
          (.block 1 (.ops [(none, .mv 28 (.t 4)),
              (none, .bin 29 .add (.t 28) (.c (.I 1))),
              (none, .mv 4 (.t 29))])))))
       (.seq (.ops [(none, .mv 30 (.t 4)),
           (none, .mv 2 (.t 30)),
           (none, .mv 3 (.c (.B true)))])
        (.ret)))))⟩
def impl_FewestCubes : AFn :=
  ⟨1, 8, [.tmp 2, .tmp 3],
    .seq (.ops [(none, .box 1 (.t 0)),
       (none, .mv 2 (.c (.I 0))),
       (none, .mv 3 (.c (.B false)))])
    (.seq (.ops [(none, .loadN 4 6 (.t 1)),
        (none, .call (some 5) F.impl_Shadow_fewest [(.t 4)]),
        (none, .extract 6 (.t 5) 0),
        (none, .extract 7 (.t 5) 1),
        (none, .mv 2 (.t 6)),
        (none, .mv 3 (.t 7))])
     (.ret))⟩
end Go.Ab.C

/- That the program has this code. -/
namespace Go.Ab.K
open Go Go.Ab
theorem impl_Shadow_fewest : prepF Go.Proofs.Try.prog F.impl_Shadow_fewest = some C.impl_Shadow_fewest := by kernel_rfl
theorem impl_FewestCubes : prepF Go.Proofs.Try.prog F.impl_FewestCubes = some C.impl_FewestCubes := by kernel_rfl
end Go.Ab.K

/- The abstract code of some functions (written by a program of mine from the translation, by way of prepF). -/
namespace Go.Ab.C
open Go.Ab
def impl_canMeet : AFn :=
  ⟨4, 77, [.tmp 8],
    .seq (.ops [(none, .mv 8 (.c (.B false)))])
    (.seq (.ops [(none, .mv 9 (.c (.U 0))),
        (none, .mv 10 (.c (.B false))),
        (none, .mv 11 (.c (.I 0))),
        (none, .mv 12 (.c (.U 0)))])
     (.seq (.seq (.ops [(none, .mv 17 (.t 0)),
          (none, .len 18 (.t 17)),
          (none, .mv 19 (.c (.I 0)))])
       (.block 0 (.loop (.seq (.ops [(none, .bin 20 .lss (.t 19) (.t 18))])
          (.seq (.cond (.t 20) (.skip)
            (.exit 0))
           (.seq (.block 1 (.seq (.ops [(none, .idxS 21 1 (.t 17) (.t 19)),
                 (none, .load1 22 (.t 21)),
                 (none, .mv 14 (.t 22))])
              (.seq (.seq (.ops [(none, .mv 23 (.t 14)),
                   (none, .mv 24 (.t 1)),
                   (none, .bin 25 .and (.t 23) (.t 24)),
                   (none, .bin 26 .neq (.t 25) (.c (.U 0)))])
                (.cond (.t 26) (.exit 1)
                 (.skip)))
               (.seq (.ops [(none, .mv 27 (.t 14)),
                   (none, .mv 28 (.t 2)),
                   (none, .bin 29 .andNot (.t 27) (.t 28)),
                   (none, .mv 15 (.t 29))])
                (.seq (.seq (.ops [(none, .mv 30 (.t 15)),
                     (none, .bin 31 .eql (.t 30) (.c (.U 0)))])
                  (.cond (.t 31) (.seq (.ops [(none, .mv 8 (.c (.B false)))])
                    (.ret))
                   (.skip)))
                 (.seq (.seq (.ops [(none, .mv 32 (.t 10)),
                      (none, .un 33 .not (.t 32)),
                      (none, .mv 34 (.t 33)),
                      (some (34, false), .mv 35 (.t 15)),
                      (some (34, false), .call (some 36) F.impl_set_count [(.t 35)]),
                      (some (34, false), .mv 37 (.t 9)),
                      (some (34, false), .call (some 38) F.impl_set_count [(.t 37)]),
                      (some (34, false), .bin 39 .lss (.t 36) (.t 38)),
                      (none, .pick 40 (.t 34) (.c (.B true)) (.t 39))])
                   (.cond (.t 40) (.ops [(none, .mv 41 (.t 15)),
                       (none, .mv 9 (.t 41)),
                       (none, .mv 10 (.c (.B true)))])
                    (.skip)))
                  (.seq (.ops [(none, .mv 42 (.t 15)),
                      (none, .mv 43 (.t 12)),
                      (none, .bin 44 .and (.t 42) (.t 43)),
                      (none, .bin 45 .eql (.t 44) (.c (.U 0)))])
                   (.cond (.t 45) (.seq (.ops [(none, .mv 46 (.t 11)),
                        (none, .bin 47 .add (.t 46) (.c (.I 1))),
                        (none, .mv 11 (.t 47))])
                     (.ops [(none, .mv 48 (.t 12)),
                        (none, .mv 49 (.t 15)),
                        (none, .bin 50 .or (.t 48) (.t 49)),
                        (none, .mv 12 (.t 50))]))
                    (.skip)))))))))
            (.ops [(none, .bin 51 .add (.t 19) (.c (.I 1))),
               (none, .mv 19 (.t 51))])))))))
      (.seq (.seq (.ops [(none, .mv 52 (.t 10)),
           (none, .un 53 .not (.t 52))])
        (.cond (.t 53) (.seq (.ops [(none, .mv 8 (.c (.B true)))])
          (.ret))
         (.skip)))
       (.seq (.seq (.ops [(none, .mv 54 (.t 11)),
            (none, .mv 55 (.t 3)),
            (none, .bin 56 .gtr (.t 54) (.t 55))])
         (.cond (.t 56) (.seq (.ops [(none, .mv 8 (.c (.B false)))])
           (.ret))
          (.skip)))
        (.seq (.block 2 (.loop (.seq (.seq (.ops [(none, .mv 57 (.t 9)),
                (none, .bin 58 .neq (.t 57) (.c (.U 0)))])
             (.cond (.t 58) (.skip)
              (.exit 2)))
            (.block 3 (.seq (.ops [(none, .mv 59 (.t 9)),
                 (none, .mv 60 (.t 9)),
                 (none, .un 61 .neg (.t 60)),
                 (none, .bin 62 .and (.t 59) (.t 61)),
                 (none, .mv 16 (.t 62))])
              (.seq (.seq (.ops [(none, .mv 63 (.t 0)),
                   (none, .mv 64 (.t 1)),
                   (none, .mv 65 (.t 16)),
                   (none, .bin 66 .or (.t 64) (.t 65)),
                   (none, .mv 67 (.t 2)),
                   (none, .mv 68 (.t 3)),
                   (none, .bin 69 .sub (.t 68) (.c (.I 1))),
                   (none, .call (some 70) F.impl_canMeet [(.t 63), (.t 66), (.t 67), (.t 69)])])
                (.cond (.t 70) (.seq (.ops [(none, .mv 8 (.c (.B true)))])
                  (.ret))
                 (.skip)))
               (.seq (.ops [(none, .mv 71 (.t 2)),
                   (none, .mv 72 (.t 16)),
                   (none, .bin 73 .or (.t 71) (.t 72)),
                   (none, .mv 2 (.t 73))])
                (.ops [(none, .mv 74 (.t 9)),
                   (none, .mv 75 (.t 16)),
                   (none, .bin 76 .andNot (.t 74) (.t 75)),
                   (none, .mv 9 (.t 76))]))))))))
         (.seq (.ops [(none, .mv 8 (.c (.B false)))])
          (.ret)))))))⟩
end Go.Ab.C

/- That the program has this code. -/
namespace Go.Ab.K
open Go Go.Ab
theorem impl_canMeet : prepF Go.Proofs.Try.prog F.impl_canMeet = some C.impl_canMeet := by kernel_rfl
end Go.Ab.K

/- Contracts: the program's search for cells that meet all lines. -/
namespace Go.Ab
open Go
set_option linter.unusedSimpArgs false
set_option linter.unusedVariables false
set_option maxRecDepth 20000

section
variable {x y z : Int} (hS : Sides x y z)
include hS
theorem low_of {p : Cell → Bool} (h : bs x y z p ≠ 0#64) : ∃ c, c.inBox x y z ∧ p c = true ∧ (∀ d, d.inBox x y z → p d = true → ¬ d.lt c) := by
  cases hh : pick x y z p with
  | nil =>
    exact absurd ((bs_zero hS).2 fun c hc => by
      cases hpc : p c with
      | false => rfl
      | true => have := (mem_pick hS).2 ⟨hc, hpc⟩; rw [hh] at this; cases this) h
  | cons c rs =>
    have hcq := (mem_pick hS (p := p) (c := c)).1 (by rw [hh]; simp)
    refine ⟨c, hcq.1, hcq.2, fun d hd hpd hlt => ?_⟩
    have hm := (mem_pick hS).2 ⟨hd, hpd⟩
    have hs := pick_sorted hS p
    rw [hh] at hm hs
    rcases List.mem_cons.1 hm with rfl | hm
    · exact Cell.lt_irrefl _ hlt
    · exact Cell.lt_irrefl _ (Cell.lt_trans hlt ((List.pairwise_cons.1 hs).1 d hm))
theorem countP_lt {T : List Cell} {p q : Cell → Bool} (h : ∀ a ∈ T, p a = true → q a = true) (hx : ∃ a ∈ T, q a = true ∧ p a = false) : T.countP p + 1 ≤ T.countP q := by
  rw [List.countP_eq_length_filter, List.countP_eq_length_filter]
  exact filter_lt hS h hx

/-- Cells that meet with the chosen ones all lines. -/
def Good (y z : Int) (L : List (Nat × Nat)) (al : List Cell) (p w : Cell → Bool) (T : List Cell) : Prop := (∀ c ∈ T, w c = false) ∧ ∀ q ∈ L, ∃ c ∈ al, onLine y z q.1 q.2 c = true ∧ (p c = true ∨ c ∈ T)

theorem g_canMeet {A : Cell → Bool} {L : List (Nat × Nat)} (hL : L.length ≤ 64) : ∀ (n : Nat) {p w : Cell → Bool} {u : Nat} {M : Mem}, Live M u (.row (lineSets x y z A L) true 1) → n ≤ 1000 →
    CallsTo PG F.impl_canMeet [.ref u 0 L.length, .W (bs x y z p), .W (bs x y z w), .I n] M (.B (decide (Cov y z L (pick x y z A) p w n))) M := by
  intro n
  induction n using Nat.strongRecOn with
  | ind n ih =>
  intro p w u M hu hn
  have hal : ∀ q c, (c.inBox x y z ∧ inLine y z A q c = true) ↔ (c ∈ pick x y z A ∧ onLine y z q.1 q.2 c = true) := fun q c => by
    rw [mem_pick hS]; unfold inLine; rw [Bool.and_eq_true]
    exact ⟨fun ⟨a, b, c⟩ => ⟨⟨a, b⟩, c⟩, fun ⟨⟨a, b⟩, c⟩ => ⟨a, b, c⟩⟩
  refine calls_run K.impl_canMeet rfl ?_
  simp (disch := omega) only [C.impl_canMeet, ↓SXd, SXu, slBounds, ↓sop, ↓aop, ↓reduceIte, LV.cells, AOp.dst, LV.I, LV.B, LV.U, LV.S, LV.nil, Nat.reduceEqDiff, Nat.reduceAdd, Nat.reduceMul, Nat.reduceSub, Nat.reduceLeDiff, Nat.reduceBEq, Nat.reduceDiv, Nat.reduceMod, Int.reduceToNat, Int.reduceLT, Int.reduceLE, Int.reduceAdd, Int.reduceSub, Int.reduceMul, Int.reduceEq, Int.reduceNeg, reduceCtorEq, resV, resAll, ARes.ev, LV.flat, ite_true, ite_false, exists_eq_left', exists_eq_left, keyOf, implies_true, fillC, capOf]
  refine ev_loop (fun m fr M' => ∃ (i : Nat) (lp up : Cell → Bool) (fd : Bool) (a : Nat), i + m = L.length ∧ M' = M ∧
    fr 0 = .ref u 0 L.length ∧ fr 1 = .W (bs x y z p) ∧ fr 2 = .W (bs x y z w) ∧ fr 3 = .I n ∧ fr 9 = .W (bs x y z lp) ∧ fr 10 = .B fd ∧ fr 11 = .I a ∧ fr 12 = .W (bs x y z up) ∧ fr 17 = .ref u 0 L.length ∧ fr 18 = .I L.length ∧ fr 19 = .I i ∧
    (fd = false → a = 0 ∧ ∀ j, j < i → ∃ c ∈ pick x y z A, onLine y z (L.getD j (0, 0)).1 (L.getD j (0, 0)).2 c = true ∧ p c = true) ∧
    (fd = true → 1 ≤ a ∧ ∃ q ∈ L, lp = (fun c => inLine y z A q c && !w c) ∧ ∀ c ∈ pick x y z A, onLine y z q.1 q.2 c = true → p c = false) ∧
    (∀ T, Good y z L (pick x y z A) p w T → a ≤ T.countP up) ∧ a ≤ i ∧ ((∃ c, up c = true) → 1 ≤ a)) L.length
    ⟨0, fun _ => false, fun _ => false, false, 0, by omega, rfl, rfl, rfl, rfl, rfl, by rw [← bs_none hS]; rfl, rfl, rfl, by rw [← bs_none hS]; rfl, rfl, rfl, rfl, fun _ => ⟨rfl, by omega⟩, (by simp), fun T _ => by omega, by omega, by simp⟩ ?_
  rintro m fr M' ⟨i, lp, up, fd, a, hi, rfl, f0, f1, f2, f3, f9, f10, f11, f12, f17, f18, f19, hf0, hf1, hap, hai, hupa⟩
  simp (disch := omega) only [f0, f1, f2, f3, f9, f10, f11, f12, f17, f18, f19, ↓SXd, SXu, slBounds, ↓sop, ↓aop, ↓reduceIte, LV.cells, AOp.dst, LV.I, LV.B, LV.U, LV.S, LV.nil, Nat.reduceEqDiff, Nat.reduceAdd, Nat.reduceMul, Nat.reduceSub, Nat.reduceLeDiff, Nat.reduceBEq, Nat.reduceDiv, Nat.reduceMod, Int.reduceToNat, Int.reduceLT, Int.reduceLE, Int.reduceAdd, Int.reduceSub, Int.reduceMul, Int.reduceEq, Int.reduceNeg, reduceCtorEq, resV, resAll, ARes.ev, LV.flat, ite_true, ite_false, exists_eq_left', exists_eq_left, keyOf, implies_true, fillC, capOf]
  refine condC_dec (fun hlt => ?_) (fun hlt => ?_)
  · have hil : i < L.length := by omega
    have hg := hu.cell (o := i)
    rw [lineSets_get hil] at hg
    have hqL := getD_mem' (d := ((0, 0) : Nat × Nat)) hil
    have hext : ∀ {P : Nat × Nat → Prop}, (∀ j, j < i → P (L.getD j (0, 0))) → P (L.getD i (0, 0)) → ∀ j, j < i + 1 → P (L.getD j (0, 0)) := fun h1 h2 j hj => by
      rcases Nat.lt_or_ge j i with h3 | h3
      · exact h1 j h3
      · rw [show j = i by omega]; exact h2
    generalize hq : L.getD i (0, 0) = q at hg hqL hext
    simp (disch := omega) only [f0, f1, f2, f3, f9, f10, f11, f12, f17, f18, f19, hg, Nat.mul_one, Nat.zero_add, ↓SXd, SXu, slBounds, ↓sop, ↓aop, ↓reduceIte, LV.cells, AOp.dst, LV.I, LV.B, LV.U, LV.S, LV.nil, Nat.reduceEqDiff, Nat.reduceAdd, Nat.reduceMul, Nat.reduceSub, Nat.reduceLeDiff, Nat.reduceBEq, Nat.reduceDiv, Nat.reduceMod, Int.reduceToNat, Int.reduceLT, Int.reduceLE, Int.reduceAdd, Int.reduceSub, Int.reduceMul, Int.reduceEq, Int.reduceNeg, reduceCtorEq, resV, resAll, ARes.ev, LV.flat, ite_true, ite_false, exists_eq_left', exists_eq_left, keyOf, implies_true, fillC, capOf]
    rw [bs_and hS]
    by_cases hmet : ∃ c ∈ pick x y z A, onLine y z q.1 q.2 c = true ∧ p c = true
    · have hne : ¬ (bs x y z (fun c => inLine y z A q c && p c) = 0#64) := fun h0 => by
        obtain ⟨c, h1, h2, h3⟩ := hmet
        have h4 := (hal q c).2 ⟨h1, h2⟩
        have := (bs_zero hS).1 h0 c h4.1
        rw [h4.2, h3] at this; cases this
      simp (disch := omega) only [f0, f1, f2, f3, f9, f10, f11, f12, f17, f18, f19, hne, ↓SXd, SXu, slBounds, ↓sop, ↓aop, ↓reduceIte, LV.cells, AOp.dst, LV.I, LV.B, LV.U, LV.S, LV.nil, Nat.reduceEqDiff, Nat.reduceAdd, Nat.reduceMul, Nat.reduceSub, Nat.reduceLeDiff, Nat.reduceBEq, Nat.reduceDiv, Nat.reduceMod, Int.reduceToNat, Int.reduceLT, Int.reduceLE, Int.reduceAdd, Int.reduceSub, Int.reduceMul, Int.reduceEq, Int.reduceNeg, reduceCtorEq, resV, resAll, ARes.ev, LV.flat, ite_true, ite_false, exists_eq_left', exists_eq_left, keyOf, implies_true, fillC, capOf]
      exact ⟨m - 1, by omega, i + 1, lp, up, fd, a, by omega, rfl, f0, f1, f2, f3, f9, f10, f11, f12, f17, f18, eqI (natI _), fun h => ⟨(hf0 h).1, hext (P := fun q => ∃ c ∈ pick x y z A, onLine y z q.1 q.2 c = true ∧ p c = true) (hf0 h).2 hmet⟩, hf1, hap, by omega, hupa⟩
    · have hun : ∀ c ∈ pick x y z A, onLine y z q.1 q.2 c = true → p c = false := fun c h1 h2 => by
        cases h3 : p c with
        | false => rfl
        | true => exact absurd ⟨c, h1, h2, h3⟩ hmet
      have hze : bs x y z (fun c => inLine y z A q c && p c) = 0#64 := (bs_zero hS).2 fun c hc => by
        cases h3 : inLine y z A q c with
        | false => rfl
        | true => rw [hun c ((hal q c).1 ⟨hc, h3⟩).1 ((hal q c).1 ⟨hc, h3⟩).2]; rfl
      simp (disch := omega) only [f0, f1, f2, f3, f9, f10, f11, f12, f17, f18, f19, hze, ↓SXd, SXu, slBounds, ↓sop, ↓aop, ↓reduceIte, LV.cells, AOp.dst, LV.I, LV.B, LV.U, LV.S, LV.nil, Nat.reduceEqDiff, Nat.reduceAdd, Nat.reduceMul, Nat.reduceSub, Nat.reduceLeDiff, Nat.reduceBEq, Nat.reduceDiv, Nat.reduceMod, Int.reduceToNat, Int.reduceLT, Int.reduceLE, Int.reduceAdd, Int.reduceSub, Int.reduceMul, Int.reduceEq, Int.reduceNeg, reduceCtorEq, resV, resAll, ARes.ev, LV.flat, ite_true, ite_false, exists_eq_left', exists_eq_left, keyOf, implies_true, fillC, capOf]
      rw [bs_diff hS]
      by_cases hl0 : bs x y z (fun c => inLine y z A q c && !w c) = 0#64
      · simp (disch := omega) only [f0, f1, f2, f3, f9, f10, f11, f12, f17, f18, f19, hl0, ↓SXd, SXu, slBounds, ↓sop, ↓aop, ↓reduceIte, LV.cells, AOp.dst, LV.I, LV.B, LV.U, LV.S, LV.nil, Nat.reduceEqDiff, Nat.reduceAdd, Nat.reduceMul, Nat.reduceSub, Nat.reduceLeDiff, Nat.reduceBEq, Nat.reduceDiv, Nat.reduceMod, Int.reduceToNat, Int.reduceLT, Int.reduceLE, Int.reduceAdd, Int.reduceSub, Int.reduceMul, Int.reduceEq, Int.reduceNeg, reduceCtorEq, resV, resAll, ARes.ev, LV.flat, ite_true, ite_false, exists_eq_left', exists_eq_left, keyOf, implies_true, fillC, capOf]
        rw [decide_eq_false (by
          rintro ⟨T, _, h2, h3⟩
          obtain ⟨c, h4, h5, h6⟩ := h3 q hqL
          have h7 := (hal q c).2 ⟨h4, h5⟩
          have h8 := (bs_zero hS).1 hl0 c h7.1
          rcases h6 with h6 | h6
          · rw [hun c h4 h5] at h6; cases h6
          · rw [h7.2, h2 c h6] at h8; cases h8)]
        exact cmp_drop0 rfl
      · have hgrow : bs x y z (fun c => (inLine y z A q c && !w c) && up c) = 0#64 → ∀ T, Good y z L (pick x y z A) p w T → T.countP up + 1 ≤ T.countP fun c => up c || (inLine y z A q c && !w c) := fun h0 T hT => by
          refine countP_lt hS (fun c _ hc => by rw [hc]; rfl) ?_
          obtain ⟨c, h4, h5, h6⟩ := hT.2 q hqL
          rcases h6 with h6 | h6
          · rw [hun c h4 h5] at h6; cases h6
          · have h7 := (hal q c).2 ⟨h4, h5⟩
            have h8 := (bs_zero hS).1 h0 c h7.1
            rw [h7.2, hT.1 c h6] at h8
            have h9 : up c = false := by simpa using h8
            exact ⟨c, h6, by rw [h7.2, hT.1 c h6]; simp, h9⟩
        have hage : ¬ bs x y z (fun c => (inLine y z A q c && !w c) && up c) = 0#64 → 1 ≤ a := fun h0 => by
          refine hupa (Classical.byContradiction fun hno => h0 ((bs_zero hS).2 fun c hc => ?_))
          cases h3 : up c with
          | false => simp
          | true => exact absurd ⟨c, h3⟩ hno
        cases fd with
        | false =>
          simp (disch := omega) only [f0, f1, f2, f3, f9, f10, f11, f12, f17, f18, f19, hl0, ↓SXd, SXu, slBounds, ↓sop, ↓aop, ↓reduceIte, LV.cells, AOp.dst, LV.I, LV.B, LV.U, LV.S, LV.nil, Nat.reduceEqDiff, Nat.reduceAdd, Nat.reduceMul, Nat.reduceSub, Nat.reduceLeDiff, Nat.reduceBEq, Nat.reduceDiv, Nat.reduceMod, Int.reduceToNat, Int.reduceLT, Int.reduceLE, Int.reduceAdd, Int.reduceSub, Int.reduceMul, Int.reduceEq, Int.reduceNeg, reduceCtorEq, resV, resAll, ARes.ev, LV.flat, ite_true, ite_false, exists_eq_left', exists_eq_left, keyOf, implies_true, fillC, capOf]
          rw [bs_and hS]
          by_cases hds : bs x y z (fun c => (inLine y z A q c && !w c) && up c) = 0#64
          · simp (disch := omega) only [f0, f1, f2, f3, f9, f10, f11, f12, f17, f18, f19, hds, ↓SXd, SXu, slBounds, ↓sop, ↓aop, ↓reduceIte, LV.cells, AOp.dst, LV.I, LV.B, LV.U, LV.S, LV.nil, Nat.reduceEqDiff, Nat.reduceAdd, Nat.reduceMul, Nat.reduceSub, Nat.reduceLeDiff, Nat.reduceBEq, Nat.reduceDiv, Nat.reduceMod, Int.reduceToNat, Int.reduceLT, Int.reduceLE, Int.reduceAdd, Int.reduceSub, Int.reduceMul, Int.reduceEq, Int.reduceNeg, reduceCtorEq, resV, resAll, ARes.ev, LV.flat, ite_true, ite_false, exists_eq_left', exists_eq_left, keyOf, implies_true, fillC, capOf]
            rw [bs_or hS]
            exact ⟨m - 1, by omega, i + 1, (fun c => inLine y z A q c && !w c), fun c => up c || (inLine y z A q c && !w c), true, a + 1, by omega, rfl, f0, f1, f2, f3, rfl, rfl, eqI (natI _), rfl, f17, f18, eqI (natI _), by simp, fun _ => ⟨by omega, ⟨q, hqL, rfl, hun⟩⟩, fun T hT => Nat.le_trans (Nat.add_le_add_right (hap T hT) 1) (hgrow hds T hT), by omega, fun _ => by omega⟩
          · have ha1 : 1 ≤ a := hage hds
            simp (disch := omega) only [f0, f1, f2, f3, f9, f10, f11, f12, f17, f18, f19, hds, ↓SXd, SXu, slBounds, ↓sop, ↓aop, ↓reduceIte, LV.cells, AOp.dst, LV.I, LV.B, LV.U, LV.S, LV.nil, Nat.reduceEqDiff, Nat.reduceAdd, Nat.reduceMul, Nat.reduceSub, Nat.reduceLeDiff, Nat.reduceBEq, Nat.reduceDiv, Nat.reduceMod, Int.reduceToNat, Int.reduceLT, Int.reduceLE, Int.reduceAdd, Int.reduceSub, Int.reduceMul, Int.reduceEq, Int.reduceNeg, reduceCtorEq, resV, resAll, ARes.ev, LV.flat, ite_true, ite_false, exists_eq_left', exists_eq_left, keyOf, implies_true, fillC, capOf]
            exact ⟨m - 1, by omega, i + 1, (fun c => inLine y z A q c && !w c), up, true, a, by omega, rfl, f0, f1, f2, f3, rfl, rfl, f11, f12, f17, f18, eqI (natI _), by simp, fun _ => ⟨ha1, ⟨q, hqL, rfl, hun⟩⟩, hap, by omega, hupa⟩
        | true =>
          obtain ⟨ha1, hlq⟩ := hf1 rfl
          simp (disch := omega) only [f0, f1, f2, f3, f9, f10, f11, f12, f17, f18, f19, hl0, ↓SXd, SXu, slBounds, ↓sop, ↓aop, ↓reduceIte, LV.cells, AOp.dst, LV.I, LV.B, LV.U, LV.S, LV.nil, Nat.reduceEqDiff, Nat.reduceAdd, Nat.reduceMul, Nat.reduceSub, Nat.reduceLeDiff, Nat.reduceBEq, Nat.reduceDiv, Nat.reduceMod, Int.reduceToNat, Int.reduceLT, Int.reduceLE, Int.reduceAdd, Int.reduceSub, Int.reduceMul, Int.reduceEq, Int.reduceNeg, reduceCtorEq, resV, resAll, ARes.ev, LV.flat, ite_true, ite_false, exists_eq_left', exists_eq_left, keyOf, implies_true, fillC, capOf]
          refine callK_of (g_count) ?_
          simp (disch := omega) only [f0, f1, f2, f3, f9, f10, f11, f12, f17, f18, f19, ↓SXd, SXu, slBounds, ↓sop, ↓aop, ↓reduceIte, LV.cells, AOp.dst, LV.I, LV.B, LV.U, LV.S, LV.nil, Nat.reduceEqDiff, Nat.reduceAdd, Nat.reduceMul, Nat.reduceSub, Nat.reduceLeDiff, Nat.reduceBEq, Nat.reduceDiv, Nat.reduceMod, Int.reduceToNat, Int.reduceLT, Int.reduceLE, Int.reduceAdd, Int.reduceSub, Int.reduceMul, Int.reduceEq, Int.reduceNeg, reduceCtorEq, resV, resAll, ARes.ev, LV.flat, ite_true, ite_false, exists_eq_left', exists_eq_left, keyOf, implies_true, fillC, capOf]
          refine callK_of (g_count) ?_
          simp (disch := omega) only [f0, f1, f2, f3, f9, f10, f11, f12, f17, f18, f19, ↓SXd, SXu, slBounds, ↓sop, ↓aop, ↓reduceIte, LV.cells, AOp.dst, LV.I, LV.B, LV.U, LV.S, LV.nil, Nat.reduceEqDiff, Nat.reduceAdd, Nat.reduceMul, Nat.reduceSub, Nat.reduceLeDiff, Nat.reduceBEq, Nat.reduceDiv, Nat.reduceMod, Int.reduceToNat, Int.reduceLT, Int.reduceLE, Int.reduceAdd, Int.reduceSub, Int.reduceMul, Int.reduceEq, Int.reduceNeg, reduceCtorEq, resV, resAll, ARes.ev, LV.flat, ite_true, ite_false, exists_eq_left', exists_eq_left, keyOf, implies_true, fillC, capOf]
          refine condC_cut (fun fr' N' => ∃ lp', N' = M' ∧ fr' 0 = .ref u 0 L.length ∧ fr' 1 = .W (bs x y z p) ∧ fr' 2 = .W (bs x y z w) ∧ fr' 3 = .I n ∧ fr' 9 = .W (bs x y z lp') ∧ fr' 10 = .B true ∧ fr' 11 = .I a ∧ fr' 12 = .W (bs x y z up) ∧ fr' 15 = .W (bs x y z fun c => inLine y z A q c && !w c) ∧ fr' 17 = .ref u 0 L.length ∧ fr' 18 = .I L.length ∧ fr' 19 = .I i ∧ (∃ q ∈ L, lp' = (fun c => inLine y z A q c && !w c) ∧ ∀ c ∈ pick x y z A, onLine y z q.1 q.2 c = true → p c = false)) ?_ ?_
          · refine condC_dec (fun _ => ?_) (fun _ => ?_)
            · simp (disch := omega) only [f0, f1, f2, f3, f9, f10, f11, f12, f17, f18, f19, ↓SXd, SXu, slBounds, ↓sop, ↓aop, ↓reduceIte, LV.cells, AOp.dst, LV.I, LV.B, LV.U, LV.S, LV.nil, Nat.reduceEqDiff, Nat.reduceAdd, Nat.reduceMul, Nat.reduceSub, Nat.reduceLeDiff, Nat.reduceBEq, Nat.reduceDiv, Nat.reduceMod, Int.reduceToNat, Int.reduceLT, Int.reduceLE, Int.reduceAdd, Int.reduceSub, Int.reduceMul, Int.reduceEq, Int.reduceNeg, reduceCtorEq, resV, resAll, ARes.ev, LV.flat, ite_true, ite_false, exists_eq_left', exists_eq_left, keyOf, implies_true, fillC, capOf]
              exact ⟨_, rfl, f0, f1, f2, f3, rfl, rfl, f11, f12, rfl, f17, f18, f19, q, hqL, rfl, hun⟩
            · simp (disch := omega) only [f0, f1, f2, f3, f9, f10, f11, f12, f17, f18, f19, ↓SXd, SXu, slBounds, ↓sop, ↓aop, ↓reduceIte, LV.cells, AOp.dst, LV.I, LV.B, LV.U, LV.S, LV.nil, Nat.reduceEqDiff, Nat.reduceAdd, Nat.reduceMul, Nat.reduceSub, Nat.reduceLeDiff, Nat.reduceBEq, Nat.reduceDiv, Nat.reduceMod, Int.reduceToNat, Int.reduceLT, Int.reduceLE, Int.reduceAdd, Int.reduceSub, Int.reduceMul, Int.reduceEq, Int.reduceNeg, reduceCtorEq, resV, resAll, ARes.ev, LV.flat, ite_true, ite_false, exists_eq_left', exists_eq_left, keyOf, implies_true, fillC, capOf]
              exact ⟨lp, rfl, f0, f1, f2, f3, f9, f10, f11, f12, rfl, f17, f18, f19, hlq⟩
          · clear f0 f1 f2 f3 f9 f10 f11 f12 f17 f18 f19
            rintro fr N' ⟨lp, rfl, f0, f1, f2, f3, f9, f10, f11, f12, f15, f17, f18, f19, hlq⟩
            simp (disch := omega) only [f0, f1, f2, f3, f9, f10, f11, f12, f15, f17, f18, f19, ↓SXd, SXu, slBounds, ↓sop, ↓aop, ↓reduceIte, LV.cells, AOp.dst, LV.I, LV.B, LV.U, LV.S, LV.nil, Nat.reduceEqDiff, Nat.reduceAdd, Nat.reduceMul, Nat.reduceSub, Nat.reduceLeDiff, Nat.reduceBEq, Nat.reduceDiv, Nat.reduceMod, Int.reduceToNat, Int.reduceLT, Int.reduceLE, Int.reduceAdd, Int.reduceSub, Int.reduceMul, Int.reduceEq, Int.reduceNeg, reduceCtorEq, resV, resAll, ARes.ev, LV.flat, ite_true, ite_false, exists_eq_left', exists_eq_left, keyOf, implies_true, fillC, capOf]
            rw [bs_and hS]
            by_cases hds : bs x y z (fun c => (inLine y z A q c && !w c) && up c) = 0#64
            · simp (disch := omega) only [f0, f1, f2, f3, f9, f10, f11, f12, f15, f17, f18, f19, hds, ↓SXd, SXu, slBounds, ↓sop, ↓aop, ↓reduceIte, LV.cells, AOp.dst, LV.I, LV.B, LV.U, LV.S, LV.nil, Nat.reduceEqDiff, Nat.reduceAdd, Nat.reduceMul, Nat.reduceSub, Nat.reduceLeDiff, Nat.reduceBEq, Nat.reduceDiv, Nat.reduceMod, Int.reduceToNat, Int.reduceLT, Int.reduceLE, Int.reduceAdd, Int.reduceSub, Int.reduceMul, Int.reduceEq, Int.reduceNeg, reduceCtorEq, resV, resAll, ARes.ev, LV.flat, ite_true, ite_false, exists_eq_left', exists_eq_left, keyOf, implies_true, fillC, capOf]
              rw [bs_or hS]
              exact ⟨m - 1, by omega, i + 1, lp, fun c => up c || (inLine y z A q c && !w c), true, a + 1, by omega, rfl, f0, f1, f2, f3, f9, f10, eqI (natI _), rfl, f17, f18, eqI (natI _), by simp, fun _ => ⟨by omega, hlq⟩, fun T hT => Nat.le_trans (Nat.add_le_add_right (hap T hT) 1) (hgrow hds T hT), by omega, fun _ => by omega⟩
            · simp (disch := omega) only [f0, f1, f2, f3, f9, f10, f11, f12, f15, f17, f18, f19, hds, ↓SXd, SXu, slBounds, ↓sop, ↓aop, ↓reduceIte, LV.cells, AOp.dst, LV.I, LV.B, LV.U, LV.S, LV.nil, Nat.reduceEqDiff, Nat.reduceAdd, Nat.reduceMul, Nat.reduceSub, Nat.reduceLeDiff, Nat.reduceBEq, Nat.reduceDiv, Nat.reduceMod, Int.reduceToNat, Int.reduceLT, Int.reduceLE, Int.reduceAdd, Int.reduceSub, Int.reduceMul, Int.reduceEq, Int.reduceNeg, reduceCtorEq, resV, resAll, ARes.ev, LV.flat, ite_true, ite_false, exists_eq_left', exists_eq_left, keyOf, implies_true, fillC, capOf]
              exact ⟨m - 1, by omega, i + 1, lp, up, true, a, by omega, rfl, f0, f1, f2, f3, f9, f10, f11, f12, f17, f18, eqI (natI _), by simp, fun _ => ⟨ha1, hlq⟩, hap, by omega, hupa⟩
  · have : i = L.length := by omega
    subst this
    cases fd with
    | false =>
      simp (disch := omega) only [f0, f1, f2, f3, f9, f10, f11, f12, f17, f18, f19, ↓SXd, SXu, slBounds, ↓sop, ↓aop, ↓reduceIte, LV.cells, AOp.dst, LV.I, LV.B, LV.U, LV.S, LV.nil, Nat.reduceEqDiff, Nat.reduceAdd, Nat.reduceMul, Nat.reduceSub, Nat.reduceLeDiff, Nat.reduceBEq, Nat.reduceDiv, Nat.reduceMod, Int.reduceToNat, Int.reduceLT, Int.reduceLE, Int.reduceAdd, Int.reduceSub, Int.reduceMul, Int.reduceEq, Int.reduceNeg, reduceCtorEq, resV, resAll, ARes.ev, LV.flat, ite_true, ite_false, exists_eq_left', exists_eq_left, keyOf, implies_true, fillC, capOf]
      rw [decide_eq_true (by
        refine ⟨[], by simp, by simp, fun q hq => ?_⟩
        obtain ⟨j, hj, e⟩ := List.getElem_of_mem hq
        have e' : L.getD j (0, 0) = q := by simpa [hj] using e
        obtain ⟨c, h4, h5, h6⟩ := (hf0 rfl).2 j hj
        rw [e'] at h5
        exact ⟨c, h4, h5, .inl h6⟩)]
      exact cmp_drop0 rfl
    | true =>
      obtain ⟨ha1, q, hqL, hlp, hun⟩ := hf1 rfl
      subst hlp
      simp (disch := omega) only [f0, f1, f2, f3, f9, f10, f11, f12, f17, f18, f19, ↓SXd, SXu, slBounds, ↓sop, ↓aop, ↓reduceIte, LV.cells, AOp.dst, LV.I, LV.B, LV.U, LV.S, LV.nil, Nat.reduceEqDiff, Nat.reduceAdd, Nat.reduceMul, Nat.reduceSub, Nat.reduceLeDiff, Nat.reduceBEq, Nat.reduceDiv, Nat.reduceMod, Int.reduceToNat, Int.reduceLT, Int.reduceLE, Int.reduceAdd, Int.reduceSub, Int.reduceMul, Int.reduceEq, Int.reduceNeg, reduceCtorEq, resV, resAll, ARes.ev, LV.flat, ite_true, ite_false, exists_eq_left', exists_eq_left, keyOf, implies_true, fillC, capOf]
      by_cases han : (a : Int) > n
      · simp (disch := omega) only [f0, f1, f2, f3, f9, f10, f11, f12, f17, f18, f19, han, ↓SXd, SXu, slBounds, ↓sop, ↓aop, ↓reduceIte, LV.cells, AOp.dst, LV.I, LV.B, LV.U, LV.S, LV.nil, Nat.reduceEqDiff, Nat.reduceAdd, Nat.reduceMul, Nat.reduceSub, Nat.reduceLeDiff, Nat.reduceBEq, Nat.reduceDiv, Nat.reduceMod, Int.reduceToNat, Int.reduceLT, Int.reduceLE, Int.reduceAdd, Int.reduceSub, Int.reduceMul, Int.reduceEq, Int.reduceNeg, reduceCtorEq, resV, resAll, ARes.ev, LV.flat, ite_true, ite_false, exists_eq_left', exists_eq_left, keyOf, implies_true, fillC, capOf]
        rw [decide_eq_false (by
          rintro ⟨T, h1, h2, h3⟩
          have h4 := hap T ⟨h2, h3⟩
          have h5 := List.countP_le_length (p := up) (l := T)
          omega)]
        exact cmp_drop0 rfl
      · have hn1 : ((n : Int) - 1) = ((n - 1 : Nat) : Int) := by omega
        simp (disch := omega) only [f0, f1, f2, f3, f9, f10, f11, f12, f17, f18, f19, han, ↓SXd, SXu, slBounds, ↓sop, ↓aop, ↓reduceIte, LV.cells, AOp.dst, LV.I, LV.B, LV.U, LV.S, LV.nil, Nat.reduceEqDiff, Nat.reduceAdd, Nat.reduceMul, Nat.reduceSub, Nat.reduceLeDiff, Nat.reduceBEq, Nat.reduceDiv, Nat.reduceMod, Int.reduceToNat, Int.reduceLT, Int.reduceLE, Int.reduceAdd, Int.reduceSub, Int.reduceMul, Int.reduceEq, Int.reduceNeg, reduceCtorEq, resV, resAll, ARes.ev, LV.flat, ite_true, ite_false, exists_eq_left', exists_eq_left, keyOf, implies_true, fillC, capOf]
        refine ev_loop (fun m2 fr2 M2 => ∃ dn : Cell → Bool, (pick x y z fun c => (inLine y z A q c && !w c) && !dn c).length < m2 ∧ M2 = M' ∧ fr2 0 = .ref u 0 L.length ∧ fr2 1 = .W (bs x y z p) ∧ fr2 2 = .W (bs x y z fun c => w c || dn c) ∧ fr2 3 = .I n ∧ fr2 9 = .W (bs x y z fun c => (inLine y z A q c && !w c) && !dn c) ∧
          (Cov y z L (pick x y z A) p w n → Cov y z L (pick x y z A) p (fun c => w c || dn c) n)) 65
          ⟨fun _ => false, Nat.lt_of_le_of_lt (pick_len hS _) (by omega), rfl, f0, f1, by show fr 2 = _; rw [f2]; simp, f3, by show fr 9 = _; rw [f9]; simp, fun h => by simpa using h⟩ ?_
        clear f0 f1 f2 f3 f9 f10 f11 f12 f17 f18 f19
        rintro m2 fr2 M2 ⟨dn, hm2, rfl, f0, f1, f2, f3, f9, hI⟩
        simp (disch := omega) only [f0, f1, f2, f3, f9, ↓SXd, SXu, slBounds, ↓sop, ↓aop, ↓reduceIte, LV.cells, AOp.dst, LV.I, LV.B, LV.U, LV.S, LV.nil, Nat.reduceEqDiff, Nat.reduceAdd, Nat.reduceMul, Nat.reduceSub, Nat.reduceLeDiff, Nat.reduceBEq, Nat.reduceDiv, Nat.reduceMod, Int.reduceToNat, Int.reduceLT, Int.reduceLE, Int.reduceAdd, Int.reduceSub, Int.reduceMul, Int.reduceEq, Int.reduceNeg, reduceCtorEq, resV, resAll, ARes.ev, LV.flat, ite_true, ite_false, exists_eq_left', exists_eq_left, keyOf, implies_true, fillC, capOf]
        by_cases hz : bs x y z (fun c => (inLine y z A q c && !w c) && !dn c) = 0#64
        · simp (disch := omega) only [f0, f1, f2, f3, f9, hz, ↓SXd, SXu, slBounds, ↓sop, ↓aop, ↓reduceIte, LV.cells, AOp.dst, LV.I, LV.B, LV.U, LV.S, LV.nil, Nat.reduceEqDiff, Nat.reduceAdd, Nat.reduceMul, Nat.reduceSub, Nat.reduceLeDiff, Nat.reduceBEq, Nat.reduceDiv, Nat.reduceMod, Int.reduceToNat, Int.reduceLT, Int.reduceLE, Int.reduceAdd, Int.reduceSub, Int.reduceMul, Int.reduceEq, Int.reduceNeg, reduceCtorEq, resV, resAll, ARes.ev, LV.flat, ite_true, ite_false, exists_eq_left', exists_eq_left, keyOf, implies_true, fillC, capOf]
          rw [decide_eq_false (by
            intro hC
            obtain ⟨T, _, h2, h3⟩ := hI hC
            obtain ⟨c, h4, h5, h6⟩ := h3 q hqL
            rcases h6 with h6 | h6
            · rw [hun c h4 h5] at h6; cases h6
            · have h7 := (hal q c).2 ⟨h4, h5⟩
              have h8 := (bs_zero hS).1 hz c h7.1
              have h9 := h2 c h6
              simp only [Bool.or_eq_false_iff] at h9
              rw [h7.2, h9.1, h9.2] at h8; cases h8)]
          exact cmp_drop0 rfl
        · obtain ⟨c, hcb, hcp, hlow⟩ := low_of hS hz
          simp (disch := omega) only [f0, f1, f2, f3, f9, hz, ↓SXd, SXu, slBounds, ↓sop, ↓aop, ↓reduceIte, LV.cells, AOp.dst, LV.I, LV.B, LV.U, LV.S, LV.nil, Nat.reduceEqDiff, Nat.reduceAdd, Nat.reduceMul, Nat.reduceSub, Nat.reduceLeDiff, Nat.reduceBEq, Nat.reduceDiv, Nat.reduceMod, Int.reduceToNat, Int.reduceLT, Int.reduceLE, Int.reduceAdd, Int.reduceSub, Int.reduceMul, Int.reduceEq, Int.reduceNeg, reduceCtorEq, resV, resAll, ARes.ev, LV.flat, ite_true, ite_false, exists_eq_left', exists_eq_left, keyOf, implies_true, fillC, capOf]
          rw [bs_low hS hcb hcp hlow, bs_or hS]
          have hcl : (inLine y z A q c && !w c) = true ∧ dn c = false := by simpa using hcp
          have hc1 : inLine y z A q c = true ∧ w c = false := by simpa using hcl.1
          have hrec := ih (n - 1) (by omega) (p := fun d => p d || decide (d = c)) (w := fun d => w d || dn d) hu (by omega)
          rw [← hn1] at hrec
          refine callK_of hrec ?_
          by_cases hC : Cov y z L (pick x y z A) (fun d => p d || decide (d = c)) (fun d => w d || dn d) (n - 1)
          · simp (disch := omega) only [f0, f1, f2, f3, f9, hC, ↓SXd, SXu, slBounds, ↓sop, ↓aop, ↓reduceIte, LV.cells, AOp.dst, LV.I, LV.B, LV.U, LV.S, LV.nil, Nat.reduceEqDiff, Nat.reduceAdd, Nat.reduceMul, Nat.reduceSub, Nat.reduceLeDiff, Nat.reduceBEq, Nat.reduceDiv, Nat.reduceMod, Int.reduceToNat, Int.reduceLT, Int.reduceLE, Int.reduceAdd, Int.reduceSub, Int.reduceMul, Int.reduceEq, Int.reduceNeg, reduceCtorEq, resV, resAll, ARes.ev, LV.flat, ite_true, ite_false, exists_eq_left', exists_eq_left, keyOf, implies_true, fillC, capOf]
            rw [decide_eq_true (by
              obtain ⟨T, h1, h2, h3⟩ := hC
              refine ⟨c :: T, by simp only [List.length_cons]; omega, fun d hd => ?_, fun r hr => ?_⟩
              · rcases List.mem_cons.1 hd with rfl | hd
                · exact hc1.2
                · have := h2 d hd; simp only [Bool.or_eq_false_iff] at this; exact this.1
              · obtain ⟨d, h4, h5, h6⟩ := h3 r hr
                refine ⟨d, h4, h5, ?_⟩
                rcases h6 with h6 | h6
                · rw [Bool.or_eq_true, decide_eq_true_iff] at h6
                  rcases h6 with h6 | h6
                  · exact .inl h6
                  · exact .inr (by simp [h6])
                · exact .inr (by simp [h6]))]
            exact cmp_drop0 rfl
          · simp (disch := omega) only [f0, f1, f2, f3, f9, hC, ↓SXd, SXu, slBounds, ↓sop, ↓aop, ↓reduceIte, LV.cells, AOp.dst, LV.I, LV.B, LV.U, LV.S, LV.nil, Nat.reduceEqDiff, Nat.reduceAdd, Nat.reduceMul, Nat.reduceSub, Nat.reduceLeDiff, Nat.reduceBEq, Nat.reduceDiv, Nat.reduceMod, Int.reduceToNat, Int.reduceLT, Int.reduceLE, Int.reduceAdd, Int.reduceSub, Int.reduceMul, Int.reduceEq, Int.reduceNeg, reduceCtorEq, resV, resAll, ARes.ev, LV.flat, ite_true, ite_false, exists_eq_left', exists_eq_left, keyOf, implies_true, fillC, capOf]
            rw [bs_or hS, bs_diff hS]
            refine ⟨m2 - 1, by omega, fun d => dn d || decide (d = c), ?_, rfl, f0, f1, ?_, f3, ?_, fun h => ?_⟩
            · have hlt : (pick x y z fun d => (inLine y z A q d && !w d) && !(dn d || decide (d = c))).length < (pick x y z fun d => (inLine y z A q d && !w d) && !dn d).length := by
                unfold pick
                refine filter_lt hS (fun d _ hd => ?_) ⟨c, (mem_cellsOf hS).2 hcb, hcp, by simp⟩
                simp only [Bool.and_eq_true, Bool.not_eq_true', Bool.or_eq_false_iff] at hd ⊢
                exact ⟨hd.1, hd.2.1⟩
              exact Nat.lt_of_lt_of_le hlt (by omega)
            · show LV.W _ = LV.W _
              rw [(bs_eq hS).2 fun d _ => Bool.or_assoc (w d) (dn d) (decide (d = c))]
            · show LV.W _ = LV.W _
              rw [(bs_eq hS).2 fun d _ => show (((inLine y z A q d && !w d) && !dn d) && !decide (d = c)) = ((inLine y z A q d && !w d) && !(dn d || decide (d = c))) by cases dn d <;> cases decide (d = c) <;> simp]
            · obtain ⟨T, h1, h2, h3⟩ := hI h
              refine ⟨T, h1, fun d hd => ?_, h3⟩
              have h9 := h2 d hd
              simp only [Bool.or_eq_false_iff] at h9 ⊢
              refine ⟨h9.1, h9.2, decide_eq_false ?_⟩
              rintro rfl
              apply hC
              refine ⟨T.erase d, by rw [List.length_erase_of_mem hd]; omega, fun e he => h2 e (List.mem_of_mem_erase he), fun r hr => ?_⟩
              obtain ⟨e, h4, h5, h6⟩ := h3 r hr
              refine ⟨e, h4, h5, ?_⟩
              rcases h6 with h6 | h6
              · exact .inl (by show (p e || decide (e = d)) = true; rw [h6]; rfl)
              · by_cases hed : e = d
                · exact .inl (by show (p e || decide (e = d)) = true; rw [decide_eq_true hed]; simp)
                · exact .inr ((List.mem_erase_of_ne hed).2 h6)
end
end Go.Ab
