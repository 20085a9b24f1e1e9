/- Parts of the proof of FnExactCountPackingsSaid: Zk LCountPackings. -/
import Derived.Test.YtjndofbhdogblaaA6
import Derived.Test.YtjndofbhdogblaaA4
import Derived.Test.YtjndofbhdogblaaA8
import Derived.Test.YtjndofbhdogblaaA5
set_option linter.all false
/- Contracts: all packings, and how many there are, the program's side. -/
namespace Go.Ab
open Go
set_option linter.unusedSimpArgs false
set_option linter.unusedVariables false
set_option maxRecDepth 20000

theorem start_at {x y z : Int} {cs : List Cell} (hS : Sides x y z) {c : Cell} (hc : c.inBox x y z) : atL y z (startL x y z cs) c = if c ∈ cs then -1 else -2 := by
  have hi := idx_in hS hc
  have hv := vol_cast hS
  have hk : (idx y z c).toNat < vol x y z := by omega
  have e : cellAt y z ((idx y z c).toNat : Nat) = c := by rw [show (((idx y z c).toNat : Nat) : Int) = idx y z c by omega]; exact hi.2.2
  unfold atL startL cellsOf
  simp [hk, show max (idx y z c) 0 = idx y z c by omega, hi.2.2]
theorem start_free {x y z : Int} {cs : List Cell} (hS : Sides x y z) (c : Cell) (hc : c.inBox x y z) : freeP cs c = freeX y z (startL x y z cs) c := by
  unfold freeP freeX
  rw [start_at hS hc]
  by_cases h : c ∈ cs <;> simp [h]
theorem start_cubes {x y z : Int} {cs : List Cell} (hS : Sides x y z) : CubesOK y z x cs (startL x y z cs) := fun c hc hm => by
  rw [start_at hS hc, if_pos hm]; omega
theorem start_agr {x y z : Int} {cs : List Cell} : Agr (startL x y z cs) (List.replicate (vol x y z) (-1)) := by
  refine ⟨by simp [startL, cellsOf], fun k hk h => ?_⟩
  have hk2 : k < vol x y z := by simpa [startL, cellsOf] using hk
  have : (startL x y z cs).getD k 0 = if cellAt y z k ∈ cs then -1 else -2 := by unfold startL cellsOf; simp [hk2]
  rw [this] at h ⊢
  split at h
  · rename_i hc; rw [if_pos hc]; simp [hk2]
  · exact absurd rfl h
section
variable {x y z : Int} {t o u c : Nat} {cs : List Cell} {L : List (List Cell)} {once : Bool} {B M : Mem} {fv : FuncId} {Inv : Nat → List (List Int) → Mem → Prop}
  (hA : AskOK x y z cs L) (h : Tri B t o cs) (hP : Pcs B u L) (hBM : Pre B M) (hc1 : B.length ≤ c) (hc2 : c < M.length)
  (hI : ∀ w, M.length ≤ w → Inv w [] M)
  (hInv : ∀ {w : Nat} {P : List (List Int)} {N N' : Mem}, Inv w P N → N.length ≤ N'.length → (∀ q, q < N.length → q ≠ w → N'[q]? = N[q]?) → Inv w P N')
  (hVis : ∀ {w : Nat} {P : List (List Int)} {ys : List Int} {N : Mem}, M.length ≤ w → (once = true → P = []) → Inv w P N → Live N w (.row (intL ys) true 1) → ys.length = vol x y z → P.length + 1 ≤ 1000000000 →
    CallsR PG fv [.ref w 0 ys.length, .ptr c 0] N fun r N' => r = .B (!once) ∧ N.length ≤ N'.length ∧ (∀ q, q < N.length → q ≠ c → N'[q]? = N[q]?) ∧ Inv w (P ++ [ys]) N')
include hA h hP hBM hc1 hc2 hI hInv hVis
theorem g_packings : CallsR PG F.impl_Heap_packings [.agg [.I x, .I y, .I z, .ref t o cs.length], .ref u 0 L.length, .clo fv [(c, 0)]] M fun r N => M.length ≤ N.length ∧ (∀ q, q < M.length → q ≠ c → N[q]? = M[q]?) ∧ ∃ w, M.length ≤ w ∧ Inv w (selP once (allPk x y z cs L)) N := by
  have hH := hA.2.1
  have hS := hH.1
  have hv := vol_cast hS
  have hL8 := hA.2.2
  have hcn := hH.len
  have h' := h.pre hBM
  have hP' := hP.pre hBM
  have ht := h'.lt
  have hul := hP'.lt
  have hBl := hBM.1
  refine callsR_run K.impl_Heap_packings rfl ?_
  simp (disch := omega) only [C.impl_Heap_packings, ↓SXd, SXu, slBounds, ↓sop, ↓aop, ↓reduceIte, LV.cells, AOp.dst, LV.I, LV.B, LV.U, LV.S, LV.nil, Nat.reduceEqDiff, Nat.reduceAdd, Nat.reduceMul, Nat.reduceSub, Nat.reduceLeDiff, Nat.reduceBEq, Nat.reduceDiv, Nat.reduceMod, Int.reduceToNat, Int.reduceLT, Int.reduceLE, Int.reduceAdd, Int.reduceSub, Int.reduceMul, Int.reduceEq, Int.reduceNeg, reduceCtorEq, resV, resAll, ARes.ev, LV.flat, ite_true, ite_false, exists_eq_left', exists_eq_left, keyOf, implies_true, fillC, capOf]
  refine callK_of (g_box) ?_
  simp (disch := omega) only [splice, ↓SXd, SXu, slBounds, ↓sop, ↓aop, ↓reduceIte, LV.cells, AOp.dst, LV.I, LV.B, LV.U, LV.S, LV.nil, Nat.reduceEqDiff, Nat.reduceAdd, Nat.reduceMul, Nat.reduceSub, Nat.reduceLeDiff, Nat.reduceBEq, Nat.reduceDiv, Nat.reduceMod, Int.reduceToNat, Int.reduceLT, Int.reduceLE, Int.reduceAdd, Int.reduceSub, Int.reduceMul, Int.reduceEq, Int.reduceNeg, reduceCtorEq, resV, resAll, ARes.ev, LV.flat, ite_true, ite_false, exists_eq_left', exists_eq_left, keyOf, implies_true, fillC, capOf]
  refine callK_of (g_size hS) ?_
  simp (disch := omega) only [↓SXd, SXu, slBounds, ↓sop, ↓aop, ↓reduceIte, LV.cells, AOp.dst, LV.I, LV.B, LV.U, LV.S, LV.nil, Nat.reduceEqDiff, Nat.reduceAdd, Nat.reduceMul, Nat.reduceSub, Nat.reduceLeDiff, Nat.reduceBEq, Nat.reduceDiv, Nat.reduceMod, Int.reduceToNat, Int.reduceLT, Int.reduceLE, Int.reduceAdd, Int.reduceSub, Int.reduceMul, Int.reduceEq, Int.reduceNeg, reduceCtorEq, resV, resAll, ARes.ev, LV.flat, ite_true, ite_false, exists_eq_left', exists_eq_left, keyOf, implies_true, fillC, capOf]
  refine ev_loop (fun m fr M' => ∃ i w : Nat, i + m = vol x y z ∧ Pre M M' ∧ Live M' M.length (.row [.I x, .I y, .I z, .ref t o cs.length] true 0) ∧ Live M' (M.length + 1) (.row [.ref u 0 L.length] true 0) ∧ Live M' (M.length + 2) (.row [.clo fv [(c, 0)]] true 0) ∧ Live M' (M.length + 4) (.row [.I x, .I y, .I z] true 0) ∧ Live M' (M.length + 5) (.row [.ref w 0 (List.replicate i (-1 : Int)).length] true 0) ∧ Live M' w (.row (intL (List.replicate i (-1))) true 1) ∧ (w = M.length + 3 ∨ M.length + 6 ≤ w) ∧
    fr 3 = .ptr M.length 0 ∧ fr 4 = .ptr (M.length + 1) 0 ∧ fr 5 = .ptr (M.length + 2) 0 ∧ fr 6 = .ptr (M.length + 4) 0 ∧ fr 7 = .ptr (M.length + 5) 0 ∧ fr 13 = .I (vol x y z : Nat) ∧ fr 14 = .I i) (vol x y z)
    ⟨0, M.length + 3, by omega, Pre.app _ _, Live.new, Live.newj rfl, Live.newj rfl, Live.newj rfl, Live.newj rfl, Live.newj rfl, .inl rfl, rfl, rfl, rfl, rfl, rfl, rfl, rfl⟩ ?_
  rintro m fr M' ⟨i, w, hi, hpre, b3, b4, b5, b6, b7, bw, hw, f3, f4, f5, f6, f7, f13, f14⟩
  simp (disch := omega) only [f3, f4, f5, f6, f7, f13, f14, ↓SXd, SXu, slBounds, ↓sop, ↓aop, ↓reduceIte, LV.cells, AOp.dst, LV.I, LV.B, LV.U, LV.S, LV.nil, Nat.reduceEqDiff, Nat.reduceAdd, Nat.reduceMul, Nat.reduceSub, Nat.reduceLeDiff, Nat.reduceBEq, Nat.reduceDiv, Nat.reduceMod, Int.reduceToNat, Int.reduceLT, Int.reduceLE, Int.reduceAdd, Int.reduceSub, Int.reduceMul, Int.reduceEq, Int.reduceNeg, reduceCtorEq, resV, resAll, ARes.ev, LV.flat, ite_true, ite_false, exists_eq_left', exists_eq_left, keyOf, implies_true, fillC, capOf]
  have hb7l := b7.lt
  have hwl := bw.lt
  refine condC_dec (fun hlt => ?_) (fun hlt => ?_)
  · have hrs : List.replicate (i + 1) (-1 : Int) = List.replicate i (-1) ++ [-1] := List.replicate_succ'
    have hrl : (List.replicate i (-1 : Int)).length = i := List.length_replicate ..
    simp (disch := omega) only [f3, f4, f5, f6, f7, f13, f14, b7.cell, ↓SXd, SXu, slBounds, ↓sop, ↓aop, ↓reduceIte, LV.cells, AOp.dst, LV.I, LV.B, LV.U, LV.S, LV.nil, Nat.reduceEqDiff, Nat.reduceAdd, Nat.reduceMul, Nat.reduceSub, Nat.reduceLeDiff, Nat.reduceBEq, Nat.reduceDiv, Nat.reduceMod, Int.reduceToNat, Int.reduceLT, Int.reduceLE, Int.reduceAdd, Int.reduceSub, Int.reduceMul, Int.reduceEq, Int.reduceNeg, reduceCtorEq, resV, resAll, ARes.ev, LV.flat, ite_true, ite_false, exists_eq_left', exists_eq_left, keyOf, implies_true, fillC, capOf]
    refine appendK_int bw (by omega) fun N' l1 l2 l3 => ?_
    rw [← hrs] at l2 ⊢
    have d7 := live_step b7 (by omega) l3
    simp (disch := omega) only [f3, f4, f5, f6, f7, f13, f14, ↓SXd, SXu, slBounds, ↓sop, ↓aop, ↓reduceIte, LV.cells, AOp.dst, LV.I, LV.B, LV.U, LV.S, LV.nil, Nat.reduceEqDiff, Nat.reduceAdd, Nat.reduceMul, Nat.reduceSub, Nat.reduceLeDiff, Nat.reduceBEq, Nat.reduceDiv, Nat.reduceMod, Int.reduceToNat, Int.reduceLT, Int.reduceLE, Int.reduceAdd, Int.reduceSub, Int.reduceMul, Int.reduceEq, Int.reduceNeg, reduceCtorEq, resV, resAll, ARes.ev, LV.flat, ite_true, ite_false, exists_eq_left', exists_eq_left, keyOf, implies_true, fillC, capOf]
    refine memK_one d7 (by simp) fun N3 j1 j2 j3 => ?_
    simp (disch := omega) only [f3, f4, f5, f6, f7, f13, f14, ↓SXd, SXu, slBounds, ↓sop, ↓aop, ↓reduceIte, LV.cells, AOp.dst, LV.I, LV.B, LV.U, LV.S, LV.nil, Nat.reduceEqDiff, Nat.reduceAdd, Nat.reduceMul, Nat.reduceSub, Nat.reduceLeDiff, Nat.reduceBEq, Nat.reduceDiv, Nat.reduceMod, Int.reduceToNat, Int.reduceLT, Int.reduceLE, Int.reduceAdd, Int.reduceSub, Int.reduceMul, Int.reduceEq, Int.reduceNeg, reduceCtorEq, resV, resAll, ARes.ev, LV.flat, ite_true, ite_false, exists_eq_left', exists_eq_left, keyOf, implies_true, fillC, capOf]
    exact ⟨m - 1, by omega, i + 1, M'.length + 1, by omega, pre_step (pre_step hpre (by omega) l1 l3) (by omega) (j := 0) j1 j3, live_step (live_step b3 (by omega) l3) (by omega) j3, live_step (live_step b4 (by omega) l3) (by omega) j3, live_step (live_step b5 (by omega) l3) (by omega) j3, live_step (live_step b6 (by omega) l3) (by omega) j3, j2, live_step l2 (by omega) j3, by omega, f3, f4, f5, f6, f7, f13, eqI (natI _)⟩
  · have : i = vol x y z := by omega
    subst this
    have hb3l := b3.lt
    have hb6l := b6.lt
    simp (disch := omega) only [f3, f4, f5, f6, f7, f13, f14, b3.app.cells, ↓SXd, SXu, slBounds, ↓sop, ↓aop, ↓reduceIte, LV.cells, AOp.dst, LV.I, LV.B, LV.U, LV.S, LV.nil, Nat.reduceEqDiff, Nat.reduceAdd, Nat.reduceMul, Nat.reduceSub, Nat.reduceLeDiff, Nat.reduceBEq, Nat.reduceDiv, Nat.reduceMod, Int.reduceToNat, Int.reduceLT, Int.reduceLE, Int.reduceAdd, Int.reduceSub, Int.reduceMul, Int.reduceEq, Int.reduceNeg, reduceCtorEq, resV, resAll, ARes.ev, LV.flat, ite_true, ite_false, exists_eq_left', exists_eq_left, keyOf, implies_true, fillC, capOf]
    refine callK_of (g_free (h'.pre hpre).app hH) ?_
    simp (disch := omega) only [f3, f4, f5, f6, f7, f13, f14, ↓SXd, SXu, slBounds, ↓sop, ↓aop, ↓reduceIte, LV.cells, AOp.dst, LV.I, LV.B, LV.U, LV.S, LV.nil, Nat.reduceEqDiff, Nat.reduceAdd, Nat.reduceMul, Nat.reduceSub, Nat.reduceLeDiff, Nat.reduceBEq, Nat.reduceDiv, Nat.reduceMod, Int.reduceToNat, Int.reduceLT, Int.reduceLE, Int.reduceAdd, Int.reduceSub, Int.reduceMul, Int.reduceEq, Int.reduceNeg, reduceCtorEq, resV, resAll, ARes.ev, LV.flat, ite_true, ite_false, exists_eq_left', exists_eq_left, keyOf, implies_true, fillC, capOf]
    rw [(bs_eq hS).2 (start_free hS)]
    rw [List.length_replicate] at b7
    have hE : PEnv x y z L.length B u (M.length + 1) (M.length + 2) (M.length + 4) (M.length + 5) M'.length w c fv (M' ++ [some (.row [.clo F.impl_Heap_packings_1 [(M.length + 1, 0), (M.length + 2, 0), (M.length + 5, 0), (M.length + 4, 0), (M'.length, 0)]] true 0)]) :=
      ⟨(hBM.trans hpre).app', b4.app, b5.app, b6.app, b7.app, Live.new⟩
    have hfill := g_fill (w := w) (c := c) (once := once) (fv := fv) (Inv := Inv w) hA hP (B := B) (a := M.length + 1) (v := M.length + 2) (pb := M.length + 4) (pl := M.length + 5) (pf := M'.length) (by unfold PDis; omega) (fun {P N N'} => hInv) (fun {P ys N} => hVis (by omega)) 8 (S := List.range L.length) (xs := startL x y z cs) (ys := List.replicate (vol x y z) (-1)) (used := 0) (P0 := [])
      (by rw [List.length_range]; exact hL8) (fun i hi _ => List.mem_range.2 hi) (start_len hA) (start_cubes hS) ⟨Nat.pos_of_ne_zero (by simp), fun i _ => by simp [start_no hA i]⟩ start_agr hE (by simp; omega) bw.app (hInv (hI w (by omega)) (by simp; omega) fun q h1 _ => by rw [List.getElem?_append_left (by omega)]; exact hpre.2 q h1) (fun _ => rfl) (by
        have := allPk_len hA
        unfold allPk at this
        simp only [List.length_nil]; omega)
    refine callR_of hfill ?_
    rintro _ N ⟨rfl, hfr, _, hIN⟩
    simp (disch := omega) only [f3, f4, f5, f6, f7, f13, f14, ↓SXd, SXu, slBounds, ↓sop, ↓aop, ↓reduceIte, LV.cells, AOp.dst, LV.I, LV.B, LV.U, LV.S, LV.nil, Nat.reduceEqDiff, Nat.reduceAdd, Nat.reduceMul, Nat.reduceSub, Nat.reduceLeDiff, Nat.reduceBEq, Nat.reduceDiv, Nat.reduceMod, Int.reduceToNat, Int.reduceLT, Int.reduceLE, Int.reduceAdd, Int.reduceSub, Int.reduceMul, Int.reduceEq, Int.reduceNeg, reduceCtorEq, resV, resAll, ARes.ev, LV.flat, ite_true, ite_false, exists_eq_left', exists_eq_left, keyOf, implies_true, fillC, capOf]
    refine ⟨by have := hfr.1; simp at this; omega, fun q h1 h2 => ?_, w, by omega, hIN⟩
    rw [hfr.2 q (by simp; omega) (by omega) h2, List.getElem?_append_left (by omega)]
    exact hpre.2 q h1
end
theorem g_visit {w c n k : Nat} {N : Mem} (hc : Live N c (.row [.I k] true 0)) (hk : k ≤ 1000000000) :
    CallsR PG F.impl_CountPackings_1 [.ref w 0 n, .ptr c 0] N fun r N' => r = .B true ∧ N.length ≤ N'.length ∧ (∀ q, q < N.length → q ≠ c → N'[q]? = N[q]?) ∧ Live N' c (.row [.I (k + 1 : Nat)] true 0) := by
  refine callsR_run K.impl_CountPackings_1 rfl ?_
  simp (disch := omega) only [C.impl_CountPackings_1, hc.cell, ↓SXd, SXu, slBounds, ↓sop, ↓aop, ↓reduceIte, LV.cells, AOp.dst, LV.I, LV.B, LV.U, LV.S, LV.nil, Nat.reduceEqDiff, Nat.reduceAdd, Nat.reduceMul, Nat.reduceSub, Nat.reduceLeDiff, Nat.reduceBEq, Nat.reduceDiv, Nat.reduceMod, Int.reduceToNat, Int.reduceLT, Int.reduceLE, Int.reduceAdd, Int.reduceSub, Int.reduceMul, Int.reduceEq, Int.reduceNeg, reduceCtorEq, resV, resAll, ARes.ev, LV.flat, ite_true, ite_false, exists_eq_left', exists_eq_left, keyOf, implies_true, fillC, capOf]
  refine memK_one hc (by simp) fun N3 j1 j2 j3 => ?_
  simp (disch := omega) only [↓SXd, SXu, slBounds, ↓sop, ↓aop, ↓reduceIte, LV.cells, AOp.dst, LV.I, LV.B, LV.U, LV.S, LV.nil, Nat.reduceEqDiff, Nat.reduceAdd, Nat.reduceMul, Nat.reduceSub, Nat.reduceLeDiff, Nat.reduceBEq, Nat.reduceDiv, Nat.reduceMod, Int.reduceToNat, Int.reduceLT, Int.reduceLE, Int.reduceAdd, Int.reduceSub, Int.reduceMul, Int.reduceEq, Int.reduceNeg, reduceCtorEq, resV, resAll, ARes.ev, LV.flat, ite_true, ite_false, exists_eq_left', exists_eq_left, keyOf, implies_true, fillC, capOf]
  exact ⟨rfl, by omega, fun q h1 h2 => j3 q h2 h1, j2⟩
theorem g_sCountPackings {x y z : Int} {t o u : Nat} {cs : List Cell} {L : List (List Cell)} {M : Mem} (h : Tri M t o cs) (hn : cs.length ≤ 1000000000) (hP : Pcs M u L) (hL : L.length ≤ 1000000000) (hLs : ∀ l ∈ L, l.length ≤ 1000000000) :
    CallsR PG F.impl_CountPackings [.agg [.I x, .I y, .I z, .ref t o cs.length], .ref u 0 L.length] M fun v N => v = .tup [.I (countPk x y z cs L).1, .B (countPk x y z cs L).2] ∧ Pre M N := by
  refine callsR_run K.impl_CountPackings rfl ?_
  simp (disch := omega) only [C.impl_CountPackings, ↓SXd, SXu, slBounds, ↓sop, ↓aop, ↓reduceIte, LV.cells, AOp.dst, LV.I, LV.B, LV.U, LV.S, LV.nil, Nat.reduceEqDiff, Nat.reduceAdd, Nat.reduceMul, Nat.reduceSub, Nat.reduceLeDiff, Nat.reduceBEq, Nat.reduceDiv, Nat.reduceMod, Int.reduceToNat, Int.reduceLT, Int.reduceLE, Int.reduceAdd, Int.reduceSub, Int.reduceMul, Int.reduceEq, Int.reduceNeg, reduceCtorEq, resV, resAll, ARes.ev, LV.flat, ite_true, ite_false, exists_eq_left', exists_eq_left, keyOf, implies_true, fillC, capOf]
  refine callK_of (g_arePacked hP.app hL hLs h.app hn) ?_
  simp (disch := omega) only [↓SXd, SXu, slBounds, ↓sop, ↓aop, ↓reduceIte, LV.cells, AOp.dst, LV.I, LV.B, LV.U, LV.S, LV.nil, Nat.reduceEqDiff, Nat.reduceAdd, Nat.reduceMul, Nat.reduceSub, Nat.reduceLeDiff, Nat.reduceBEq, Nat.reduceDiv, Nat.reduceMod, Int.reduceToNat, Int.reduceLT, Int.reduceLE, Int.reduceAdd, Int.reduceSub, Int.reduceMul, Int.reduceEq, Int.reduceNeg, reduceCtorEq, resV, resAll, ARes.ev, LV.flat, ite_true, ite_false, exists_eq_left', exists_eq_left, keyOf, implies_true, fillC, capOf]
  unfold countPk
  by_cases hA : AskOK x y z cs L
  · rw [if_pos hA, decide_eq_true hA]
    simp (disch := omega) only [splice, ↓SXd, SXu, slBounds, ↓sop, ↓aop, ↓reduceIte, LV.cells, AOp.dst, LV.I, LV.B, LV.U, LV.S, LV.nil, Nat.reduceEqDiff, Nat.reduceAdd, Nat.reduceMul, Nat.reduceSub, Nat.reduceLeDiff, Nat.reduceBEq, Nat.reduceDiv, Nat.reduceMod, Int.reduceToNat, Int.reduceLT, Int.reduceLE, Int.reduceAdd, Int.reduceSub, Int.reduceMul, Int.reduceEq, Int.reduceNeg, reduceCtorEq, resV, resAll, ARes.ev, LV.flat, ite_true, ite_false, exists_eq_left', exists_eq_left, keyOf, implies_true, fillC, capOf]
    have hpk := g_packings (x := x) (y := y) (z := z) (once := false) (c := M.length + 1) (B := M) (M := M ++ [some (.row [.I x, .I y, .I z, .ref t o cs.length] true 0), some (.row [.I 0] true 0)]) (fv := F.impl_CountPackings_1) (Inv := fun w P N => Live N (M.length + 1) (.row [.I (P.length : Nat)] true 0) ∧ w ≠ M.length + 1) hA h hP (Pre.app _ _) (by omega) (by simp)
      (fun w hw => ⟨Live.newj rfl, by simp at hw; omega⟩) (fun {w P N N'} hI h1 h2 => ⟨Live.at hI.1 (h2 _ hI.1.lt (fun e => hI.2 e.symm)), hI.2⟩)
      (fun {w P ys N} hw _ hI hl hy hb => (g_visit hI.1 (by omega)).mono fun r N' hr => ⟨hr.1, hr.2.1, hr.2.2.1, by rw [List.length_append]; exact hr.2.2.2, hI.2⟩)
    refine callR_of hpk ?_
    rintro _ N ⟨k1, k2, w, hw, k3, _⟩
    simp (disch := omega) only [k3.cell, ↓SXd, SXu, slBounds, ↓sop, ↓aop, ↓reduceIte, LV.cells, AOp.dst, LV.I, LV.B, LV.U, LV.S, LV.nil, Nat.reduceEqDiff, Nat.reduceAdd, Nat.reduceMul, Nat.reduceSub, Nat.reduceLeDiff, Nat.reduceBEq, Nat.reduceDiv, Nat.reduceMod, Int.reduceToNat, Int.reduceLT, Int.reduceLE, Int.reduceAdd, Int.reduceSub, Int.reduceMul, Int.reduceEq, Int.reduceNeg, reduceCtorEq, resV, resAll, ARes.ev, LV.flat, ite_true, ite_false, exists_eq_left', exists_eq_left, keyOf, implies_true, fillC, capOf]
    refine ⟨rfl, ?_⟩
    simp at k1
    exact ⟨by omega, fun q hq => by rw [k2 q (by simp; omega) (by omega), List.getElem?_append_left hq]⟩
  · rw [if_neg hA, decide_eq_false hA]
    simp (disch := omega) only [↓SXd, SXu, slBounds, ↓sop, ↓aop, ↓reduceIte, LV.cells, AOp.dst, LV.I, LV.B, LV.U, LV.S, LV.nil, Nat.reduceEqDiff, Nat.reduceAdd, Nat.reduceMul, Nat.reduceSub, Nat.reduceLeDiff, Nat.reduceBEq, Nat.reduceDiv, Nat.reduceMod, Int.reduceToNat, Int.reduceLT, Int.reduceLE, Int.reduceAdd, Int.reduceSub, Int.reduceMul, Int.reduceEq, Int.reduceNeg, reduceCtorEq, resV, resAll, ARes.ev, LV.flat, ite_true, ite_false, exists_eq_left', exists_eq_left, keyOf, implies_true, fillC, capOf]
    exact ⟨rfl, Pre.app _ _⟩
end Go.Ab

/- The law of CountPackings. -/
namespace Go.Ab
open Go
set_option linter.unusedSimpArgs false
set_option linter.unusedVariables false
set_option maxRecDepth 20000

theorem l_CountPackings {x y z : Int} {t o u : Nat} {cs : List Cell} {L : List (List Cell)} {M : Mem} (h : Tri M t o cs) (hn0 : cs.length ≤ 9223372036854775807) (hP : Pcs M u L) (hP0 : L.length ≤ 9223372036854775807 ∧ ∀ l ∈ L, l.length ≤ 9223372036854775807) :
    CallsR PG F.laws_FnExactCountPackings [.agg [.I x, .I y, .I z, .ref t o cs.length], .ref u 0 L.length] M fun v _ => v = .B true := by
  have ht := h.lt
  have hu := hP.lt
  have hP00 := hP0.1
  refine callsR_run K.laws_FnExactCountPackings rfl ?_
  simp (disch := omega) only [C.laws_FnExactCountPackings, ↓SXd, SXu, slBounds, ↓sop, ↓aop, ↓reduceIte, LV.cells, AOp.dst, LV.I, LV.B, LV.U, LV.S, LV.nil, Nat.reduceEqDiff, Nat.reduceAdd, Nat.reduceMul, Nat.reduceSub, Nat.reduceLeDiff, Nat.reduceBEq, Nat.reduceDiv, Nat.reduceMod, Int.reduceToNat, Int.reduceLT, Int.reduceLE, Int.reduceAdd, Int.reduceSub, Int.reduceMul, Int.reduceEq, Int.reduceNeg, reduceCtorEq, resV, resAll, ARes.ev, LV.flat, ite_true, ite_false, exists_eq_left', exists_eq_left, keyOf, implies_true, fillC, capOf]
  refine callK_of (h_szHeap (by omega) (by omega) (by omega)) ?_
  simp (disch := omega) only [↓SXd, SXu, slBounds, ↓sop, ↓aop, ↓reduceIte, LV.cells, AOp.dst, LV.I, LV.B, LV.U, LV.S, LV.nil, Nat.reduceEqDiff, Nat.reduceAdd, Nat.reduceMul, Nat.reduceSub, Nat.reduceLeDiff, Nat.reduceBEq, Nat.reduceDiv, Nat.reduceMod, Int.reduceToNat, Int.reduceLT, Int.reduceLE, Int.reduceAdd, Int.reduceSub, Int.reduceMul, Int.reduceEq, Int.reduceNeg, reduceCtorEq, resV, resAll, ARes.ev, LV.flat, ite_true, ite_false, exists_eq_left', exists_eq_left, keyOf, implies_true, fillC, capOf]
  by_cases hl : (1048576 : Int) < (cs.length : Nat)
  · rw [if_pos hl]
    simp (disch := omega) only [Int.reduceLT, ↓SXd, SXu, slBounds, ↓sop, ↓aop, ↓reduceIte, LV.cells, AOp.dst, LV.I, LV.B, LV.U, LV.S, LV.nil, Nat.reduceEqDiff, Nat.reduceAdd, Nat.reduceMul, Nat.reduceSub, Nat.reduceLeDiff, Nat.reduceBEq, Nat.reduceDiv, Nat.reduceMod, Int.reduceToNat, Int.reduceLT, Int.reduceLE, Int.reduceAdd, Int.reduceSub, Int.reduceMul, Int.reduceEq, Int.reduceNeg, reduceCtorEq, resV, resAll, ARes.ev, LV.flat, ite_true, ite_false, exists_eq_left', exists_eq_left, keyOf, implies_true, fillC, capOf]
    rfl
  rw [if_neg hl]
  simp (disch := omega) only [↓SXd, SXu, slBounds, ↓sop, ↓aop, ↓reduceIte, LV.cells, AOp.dst, LV.I, LV.B, LV.U, LV.S, LV.nil, Nat.reduceEqDiff, Nat.reduceAdd, Nat.reduceMul, Nat.reduceSub, Nat.reduceLeDiff, Nat.reduceBEq, Nat.reduceDiv, Nat.reduceMod, Int.reduceToNat, Int.reduceLT, Int.reduceLE, Int.reduceAdd, Int.reduceSub, Int.reduceMul, Int.reduceEq, Int.reduceNeg, reduceCtorEq, resV, resAll, ARes.ev, LV.flat, ite_true, ite_false, exists_eq_left', exists_eq_left, keyOf, implies_true, fillC, capOf]
  refine callK_of (h_szIntA3SS hP.app (by omega) (by omega) hP0) ?_
  simp (disch := omega) only [↓SXd, SXu, slBounds, ↓sop, ↓aop, ↓reduceIte, LV.cells, AOp.dst, LV.I, LV.B, LV.U, LV.S, LV.nil, Nat.reduceEqDiff, Nat.reduceAdd, Nat.reduceMul, Nat.reduceSub, Nat.reduceLeDiff, Nat.reduceBEq, Nat.reduceDiv, Nat.reduceMod, Int.reduceToNat, Int.reduceLT, Int.reduceLE, Int.reduceAdd, Int.reduceSub, Int.reduceMul, Int.reduceEq, Int.reduceNeg, reduceCtorEq, resV, resAll, ARes.ev, LV.flat, ite_true, ite_false, exists_eq_left', exists_eq_left, keyOf, implies_true, fillC, capOf]
  by_cases hl2 : (1048576 : Int) - (cs.length : Nat) < (L.length : Nat) + (tot L : Nat)
  · rw [if_pos hl2]
    simp (disch := omega) only [Int.reduceLT, ↓SXd, SXu, slBounds, ↓sop, ↓aop, ↓reduceIte, LV.cells, AOp.dst, LV.I, LV.B, LV.U, LV.S, LV.nil, Nat.reduceEqDiff, Nat.reduceAdd, Nat.reduceMul, Nat.reduceSub, Nat.reduceLeDiff, Nat.reduceBEq, Nat.reduceDiv, Nat.reduceMod, Int.reduceToNat, Int.reduceLT, Int.reduceLE, Int.reduceAdd, Int.reduceSub, Int.reduceMul, Int.reduceEq, Int.reduceNeg, reduceCtorEq, resV, resAll, ARes.ev, LV.flat, ite_true, ite_false, exists_eq_left', exists_eq_left, keyOf, implies_true, fillC, capOf]
    rfl
  rw [if_neg hl2]
  have hl3 : ¬ ((1048576 : Int) - (cs.length : Nat) - (L.length : Nat) - (tot L : Nat) < 0) := by omega
  have hn : cs.length ≤ 1000000000 := by omega
  have hL : L.length ≤ 1000000000 := by omega
  have hLs : ∀ l ∈ L, l.length ≤ 1000000000 := fun l hl => by have := tot_le_mem hl; omega
  simp (disch := omega) only [hl3, ↓SXd, SXu, slBounds, ↓sop, ↓aop, ↓reduceIte, LV.cells, AOp.dst, LV.I, LV.B, LV.U, LV.S, LV.nil, Nat.reduceEqDiff, Nat.reduceAdd, Nat.reduceMul, Nat.reduceSub, Nat.reduceLeDiff, Nat.reduceBEq, Nat.reduceDiv, Nat.reduceMod, Int.reduceToNat, Int.reduceLT, Int.reduceLE, Int.reduceAdd, Int.reduceSub, Int.reduceMul, Int.reduceEq, Int.reduceNeg, reduceCtorEq, resV, resAll, ARes.ev, LV.flat, ite_true, ite_false, exists_eq_left', exists_eq_left, keyOf, implies_true, fillC, capOf]
  refine callK_of (h_toHeap h.app hn) ?_
  simp (disch := omega) only [↓SXd, SXu, slBounds, ↓sop, ↓aop, ↓reduceIte, LV.cells, AOp.dst, LV.I, LV.B, LV.U, LV.S, LV.nil, Nat.reduceEqDiff, Nat.reduceAdd, Nat.reduceMul, Nat.reduceSub, Nat.reduceLeDiff, Nat.reduceBEq, Nat.reduceDiv, Nat.reduceMod, Int.reduceToNat, Int.reduceLT, Int.reduceLE, Int.reduceAdd, Int.reduceSub, Int.reduceMul, Int.reduceEq, Int.reduceNeg, reduceCtorEq, resV, resAll, ARes.ev, LV.flat, ite_true, ite_false, exists_eq_left', exists_eq_left, keyOf, implies_true, fillC, capOf]
  refine callR_of (h_toIntA3SS hP.app (by omega)) ?_
  rintro _ N1 ⟨u1, rfl, hp1, hpr1⟩
  have hc1 : Live N1 (M.length + 1) (.row (triL cs) true 3) := (Live.newj rfl).pre hpr1
  have b1 : Live N1 M.length (.row [.I x, .I y, .I z, .ref t o cs.length] true 0) := Live.new.pre hpr1
  have hM1 : Pre M N1 := (Pre.app _ _).trans hpr1
  simp (disch := omega) only [↓SXd, SXu, slBounds, ↓sop, ↓aop, ↓reduceIte, LV.cells, AOp.dst, LV.I, LV.B, LV.U, LV.S, LV.nil, Nat.reduceEqDiff, Nat.reduceAdd, Nat.reduceMul, Nat.reduceSub, Nat.reduceLeDiff, Nat.reduceBEq, Nat.reduceDiv, Nat.reduceMod, Int.reduceToNat, Int.reduceLT, Int.reduceLE, Int.reduceAdd, Int.reduceSub, Int.reduceMul, Int.reduceEq, Int.reduceNeg, reduceCtorEq, resV, resAll, ARes.ev, LV.flat, ite_true, ite_false, exists_eq_left', exists_eq_left, keyOf, implies_true, fillC, capOf]
  refine callR_of (h_sCountPackings hc1.has hn hp1.pcs hL hLs) ?_
  rintro _ N2 ⟨rfl, hpr2⟩
  have b2 := b1.pre hpr2
  have hM2 := hM1.trans hpr2
  simp (disch := omega) only [b2.cells, ↓SXd, SXu, slBounds, ↓sop, ↓aop, ↓reduceIte, LV.cells, AOp.dst, LV.I, LV.B, LV.U, LV.S, LV.nil, Nat.reduceEqDiff, Nat.reduceAdd, Nat.reduceMul, Nat.reduceSub, Nat.reduceLeDiff, Nat.reduceBEq, Nat.reduceDiv, Nat.reduceMod, Int.reduceToNat, Int.reduceLT, Int.reduceLE, Int.reduceAdd, Int.reduceSub, Int.reduceMul, Int.reduceEq, Int.reduceNeg, reduceCtorEq, resV, resAll, ARes.ev, LV.flat, ite_true, ite_false, exists_eq_left', exists_eq_left, keyOf, implies_true, fillC, capOf]
  refine callK_of (h_toHeap (h.pre hM2) hn) ?_
  simp (disch := omega) only [↓SXd, SXu, slBounds, ↓sop, ↓aop, ↓reduceIte, LV.cells, AOp.dst, LV.I, LV.B, LV.U, LV.S, LV.nil, Nat.reduceEqDiff, Nat.reduceAdd, Nat.reduceMul, Nat.reduceSub, Nat.reduceLeDiff, Nat.reduceBEq, Nat.reduceDiv, Nat.reduceMod, Int.reduceToNat, Int.reduceLT, Int.reduceLE, Int.reduceAdd, Int.reduceSub, Int.reduceMul, Int.reduceEq, Int.reduceNeg, reduceCtorEq, resV, resAll, ARes.ev, LV.flat, ite_true, ite_false, exists_eq_left', exists_eq_left, keyOf, implies_true, fillC, capOf]
  refine callR_of (h_toIntA3SS (hP.pre (hM2.trans (Pre.app _ _))) (by omega)) ?_
  rintro _ N3 ⟨u3, rfl, hp3, hpr3⟩
  have hc3 : Live N3 N2.length (.row (triL cs) true 3) := Live.new.pre hpr3
  have x3 : Live N3 (N2.length + 1) (.row [.I x, .I y, .I z, .ref N2.length 0 cs.length] true 0) := (Live.newj rfl).pre hpr3
  have b3 := b2.pre ((Pre.app _ _).trans hpr3)
  have hM3 := hM2.trans ((Pre.app _ _).trans hpr3)
  simp (disch := omega) only [x3.cells, ↓SXd, SXu, slBounds, ↓sop, ↓aop, ↓reduceIte, LV.cells, AOp.dst, LV.I, LV.B, LV.U, LV.S, LV.nil, Nat.reduceEqDiff, Nat.reduceAdd, Nat.reduceMul, Nat.reduceSub, Nat.reduceLeDiff, Nat.reduceBEq, Nat.reduceDiv, Nat.reduceMod, Int.reduceToNat, Int.reduceLT, Int.reduceLE, Int.reduceAdd, Int.reduceSub, Int.reduceMul, Int.reduceEq, Int.reduceNeg, reduceCtorEq, resV, resAll, ARes.ev, LV.flat, ite_true, ite_false, exists_eq_left', exists_eq_left, keyOf, implies_true, fillC, capOf]
  refine callR_of (g_sCountPackings hc3.has hn hp3.pcs hL hLs) ?_
  rintro _ N4 ⟨rfl, hpr4⟩
  have b4 := b3.pre hpr4
  have x4 := x3.pre hpr4
  have hc4 := hc3.pre hpr4
  have hp4 := hp3.pre hpr4
  have hM4 := hM3.trans hpr4
  simp (disch := omega) only [b4.cells, x4.cells, ↓SXd, SXu, slBounds, ↓sop, ↓aop, ↓reduceIte, LV.cells, AOp.dst, LV.I, LV.B, LV.U, LV.S, LV.nil, Nat.reduceEqDiff, Nat.reduceAdd, Nat.reduceMul, Nat.reduceSub, Nat.reduceLeDiff, Nat.reduceBEq, Nat.reduceDiv, Nat.reduceMod, Int.reduceToNat, Int.reduceLT, Int.reduceLE, Int.reduceAdd, Int.reduceSub, Int.reduceMul, Int.reduceEq, Int.reduceNeg, reduceCtorEq, resV, resAll, ARes.ev, LV.flat, ite_true, ite_false, exists_eq_left', exists_eq_left, keyOf, implies_true, fillC, capOf]
  refine callK_of (h_toHeap (h.pre hM4) hn) ?_
  simp (disch := omega) only [x4.cells, b4.cells, ↓SXd, SXu, slBounds, ↓sop, ↓aop, ↓reduceIte, LV.cells, AOp.dst, LV.I, LV.B, LV.U, LV.S, LV.nil, Nat.reduceEqDiff, Nat.reduceAdd, Nat.reduceMul, Nat.reduceSub, Nat.reduceLeDiff, Nat.reduceBEq, Nat.reduceDiv, Nat.reduceMod, Int.reduceToNat, Int.reduceLT, Int.reduceLE, Int.reduceAdd, Int.reduceSub, Int.reduceMul, Int.reduceEq, Int.reduceNeg, reduceCtorEq, resV, resAll, ARes.ev, LV.flat, ite_true, ite_false, exists_eq_left', exists_eq_left, keyOf, implies_true, fillC, capOf]
  have he := h_eqHeap (x := x) (y := y) (z := z) (x' := x) (y' := y) (z' := z) (M := N4 ++ [some (.row (triL cs) true 3)]) hc4.app.has (Live.newj (M := N4) (L := [some (.row (triL cs) true 3)]) (j := 0) rfl).has hn hn
  rw [decide_eq_true (by simp)] at he
  refine callK_of he ?_
  simp (disch := omega) only [↓SXd, SXu, slBounds, ↓sop, ↓aop, ↓reduceIte, LV.cells, AOp.dst, LV.I, LV.B, LV.U, LV.S, LV.nil, Nat.reduceEqDiff, Nat.reduceAdd, Nat.reduceMul, Nat.reduceSub, Nat.reduceLeDiff, Nat.reduceBEq, Nat.reduceDiv, Nat.reduceMod, Int.reduceToNat, Int.reduceLT, Int.reduceLE, Int.reduceAdd, Int.reduceSub, Int.reduceMul, Int.reduceEq, Int.reduceNeg, reduceCtorEq, resV, resAll, ARes.ev, LV.flat, ite_true, ite_false, exists_eq_left', exists_eq_left, keyOf, implies_true, fillC, capOf]
  refine callR_of (h_toIntA3SS (hP.pre (hM4.trans (Pre.app _ _))) (by omega)) ?_
  rintro _ N5 ⟨u5, rfl, hp5, hpr5⟩
  simp (disch := omega) only [↓SXd, SXu, slBounds, ↓sop, ↓aop, ↓reduceIte, LV.cells, AOp.dst, LV.I, LV.B, LV.U, LV.S, LV.nil, Nat.reduceEqDiff, Nat.reduceAdd, Nat.reduceMul, Nat.reduceSub, Nat.reduceLeDiff, Nat.reduceBEq, Nat.reduceDiv, Nat.reduceMod, Int.reduceToNat, Int.reduceLT, Int.reduceLE, Int.reduceAdd, Int.reduceSub, Int.reduceMul, Int.reduceEq, Int.reduceNeg, reduceCtorEq, resV, resAll, ARes.ev, LV.flat, ite_true, ite_false, exists_eq_left', exists_eq_left, keyOf, implies_true, fillC, capOf]
  refine callK_of (h_eqCss (hp4.pre ((Pre.app _ _).trans hpr5)).slcc.v hp5.slcc.v (by omega) (by omega)) ?_
  simp (disch := omega) only [↓SXd, SXu, slBounds, ↓sop, ↓aop, ↓reduceIte, LV.cells, AOp.dst, LV.I, LV.B, LV.U, LV.S, LV.nil, Nat.reduceEqDiff, Nat.reduceAdd, Nat.reduceMul, Nat.reduceSub, Nat.reduceLeDiff, Nat.reduceBEq, Nat.reduceDiv, Nat.reduceMod, Int.reduceToNat, Int.reduceLT, Int.reduceLE, Int.reduceAdd, Int.reduceSub, Int.reduceMul, Int.reduceEq, Int.reduceNeg, reduceCtorEq, resV, resAll, ARes.ev, LV.flat, ite_true, ite_false, exists_eq_left', exists_eq_left, keyOf, implies_true, fillC, capOf]
  rfl
end Go.Ab
