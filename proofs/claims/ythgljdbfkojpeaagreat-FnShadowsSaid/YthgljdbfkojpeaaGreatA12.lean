/- Parts of the proof of FnShadowsSaid: LFnShadows Re. -/
import Derived.Test.YthgljdbfkojpeaaGreatA4
import Derived.Test.YthgljdbfkojpeaaGreatA5
import Derived.Test.YthgljdbfkojpeaaGreatA7
import Derived.Test.YthgljdbfkojpeaaGreatA9
import Derived.Test.YthgljdbfkojpeaaGreatA10
import Derived.Test.YthgljdbfkojpeaaGreatA11
set_option linter.all false
/- The law of shadows. -/
namespace Go.Ab
open Go
set_option linter.unusedSimpArgs false
set_option linter.unusedVariables false
set_option maxRecDepth 20000

theorem esz_pref {M N : Mem} {t : Nat} (h : getEsz M t = some 1) (ht : t < M.length) (hp : Pre M N) : getEsz N t = some 1 := by
  unfold getEsz at *
  rw [hp.2 t ht]; exact h
/-- A guarded step in a region, an if, and then the rest: the rest is shown once. -/
theorem draw_cut {P : Program} {o : AOp} {w : Bool} {r : List DOp} {lg : List (Option Nat)} {b c : ACode} {fr : Fr} {v : LV} {M : Mem} {Q : AExit → Fr → Mem → Prop} (I : Fr → Mem → Prop) (h : guardO v w P o fr M (evdK P r lg (seqK P b (thenK I Q) .normal))) (hb : ∀ fr M, I fr M → EvC P c fr M Q) : guardO v w P o fr M (evdK P r lg (seqK P b (seqK P c Q) .normal)) := by
  have hm : ∀ e fr M, thenK I Q e fr M → seqK P c Q e fr M := fun e fr M hh => by
    cases e with
    | normal => exact hb _ _ hh
    | exit i => exact hh
    | ret => exact hh
  have hK : ∀ fr M, evdK P r lg (seqK P b (thenK I Q) .normal) fr M → evdK P r lg (seqK P b (seqK P c Q) .normal) fr M := fun fr M h => evd_mono (fun fr M hh => evc_mono hm hh) h
  have hA : EvOp P o fr M (evdK P r lg (seqK P b (thenK I Q) .normal)) → EvOp P o fr M (evdK P r lg (seqK P b (seqK P c Q) .normal)) := fun h => evg_mono (g := (none, o)) hK h
  revert h
  unfold guardO guardV
  split
  · intro h
    unfold condB at *
    exact ⟨fun e => hA (h.1 e), fun e => hK _ _ (h.2 e)⟩
  · exact fun h => hK _ _ h
  · exact id
def HeapG (M : Mem) (G : Hp) (b : Bool) (v : LV) (N : Mem) : Prop := ∃ u : Nat, v = .tup [.agg [.I G.x, .I G.y, .I G.z, .ref u 0 G.cs.length], .B b] ∧ Live N u (.row (triL G.cs) true 3) ∧ Pre M N
def CellsG (M : Mem) (l : List Cell) (b : Bool) (v : LV) (N : Mem) : Prop := ∃ u : Nat, v = .tup [.ref u 0 l.length, .B b] ∧ Tri N u 0 l ∧ Pre M N
def ShdG (M : Mem) (G : Shd) (o : Bool) (v : LV) (N : Mem) : Prop := ∃ a b c : Nat, v = .tup [.agg [.I G.x, .I G.y, .I G.z, .ref a 0 G.tp.length, .ref b 0 G.fr.length, .ref c 0 G.sd.length], .B o] ∧ Ints N a 0 G.tp ∧ Ints N b 0 G.fr ∧ Ints N c 0 G.sd ∧ Pre M N
theorem heapG_eq {f : FuncId} {args : List LV} {M : Mem} {r : Option Hp} {G : Hp} {b : Bool} (h : CallsR PG f args M (HeapX M r)) (h1 : r.getD Hp.none = G) (h2 : r.isSome = b) : CallsR PG f args M (HeapG M G b) := by
  subst h1 h2
  exact h
theorem shdG_eq {f : FuncId} {args : List LV} {M : Mem} {r : Option Shd} {G : Shd} {b : Bool} (h : CallsR PG f args M (ShdX M r)) (h1 : r.getD Shd.none = G) (h2 : r.isSome = b) : CallsR PG f args M (ShdG M G b) := by
  subst h1 h2
  exact h
theorem cellsG_eq {f : FuncId} {args : List LV} {M : Mem} {r : Option (List Cell)} {l : List Cell} {b : Bool} (h : CallsR PG f args M (CellsRes M r)) (h1 : r.getD [] = l) (h2 : r.isSome = b) : CallsR PG f args M (CellsG M l b) := by
  subst h1 h2
  refine h.den (e := 3) ?_
  rintro v N ⟨w, rfl, hw, _, hp⟩
  rcases hw with ⟨rfl, hc⟩ | ⟨u, ex, rfl, hu⟩
  · refine .inr ⟨.tup [.ref N.length 0 0, .B r.isSome], .inr ⟨_, _, rfl, rfl, .inl .nil, .rfl, trivial⟩, N.length, by rw [hc]; rfl, ?_, hp.trans (Pre.app _ _)⟩
    rw [hc]
    exact (Live.new (b := .row [] true 3)).has
  · rw [triL_append] at hu
    exact .inl ⟨u, rfl, hu.hasL, hp⟩
theorem grt_len2 {x y z : Int} {tp fr sd : List Int} : ((grtOf x y z tp fr sd).getD Hp.none).cs.length ≤ 64 := by
  unfold grtOf
  split
  · rename_i h
    exact (pick_ok h.1.1 _).len
  · simp [Hp.none]
/-- What all functions answer for a shadow, in one. -/
theorem shd_facts (x y z : Int) (tp fr sd : List Int) : ∃ (G : Hp) (Q S : List Cell) (C : Shd) (l : Int) (o f : Bool),
    decide (ShdOK x y z tp fr sd) = o ∧ decide (Fits x y z tp fr sd) = f ∧ (grtOf x y z tp fr sd).getD Hp.none = G ∧ (grtOf x y z tp fr sd).isSome = f ∧ (partOf x y z tp fr sd false).getD [] = Q ∧ (partOf x y z tp fr sd false).isSome = f ∧ (partOf x y z tp fr sd true).getD [] = S ∧ (partOf x y z tp fr sd true).isSome = f ∧
    (lbdOf x y z tp fr sd).getD 0 = l ∧ (lbdOf x y z tp fr sd).isSome = o ∧ (clnOf x y z tp fr sd).getD Shd.none = C ∧ (clnOf x y z tp fr sd).isSome = o ∧ G.cs.length ≤ 1000 ∧ Q.length ≤ 1000000 ∧ S.length ≤ 1000000 ∧ C.tp.length ≤ 1000 ∧ C.fr.length ≤ 1000 ∧ C.sd.length ≤ 1000 ∧
    (f = true → o = true) ∧ (o = true → ShdOK x y z tp fr sd ∧ C = ⟨x, y, z, shdOf x y z 2 (pick x y z (allowedB y z tp fr sd)), shdOf x y z 1 (pick x y z (allowedB y z tp fr sd)), shdOf x y z 0 (pick x y z (allowedB y z tp fr sd))⟩ ∧ f = decide (shdOf x y z 2 (pick x y z (allowedB y z tp fr sd)) = tp ∧ shdOf x y z 1 (pick x y z (allowedB y z tp fr sd)) = fr ∧ shdOf x y z 0 (pick x y z (allowedB y z tp fr sd)) = sd)) ∧
    (f = true → Fits x y z tp fr sd ∧ G = ⟨x, y, z, pick x y z (allowedB y z tp fr sd)⟩ ∧ Q = shdPart x y z tp fr sd false ∧ S = shdPart x y z tp fr sd true) := by
  have hfs : ∀ {α : Type} (P : Prop) [Decidable P] (a : α), (if P then some a else none : Option α).isSome = decide P := fun {α} P _ a => by by_cases h : P <;> simp [h]
  refine ⟨_, _, _, _, _, _, _, rfl, rfl, rfl, ?_, rfl, ?_, rfl, ?_, rfl, ?_, rfl, ?_, Nat.le_trans grt_len2 (by omega), partOf_len, partOf_len, ?_⟩
  · unfold grtOf; rw [hfs]
  · unfold partOf; rw [hfs]
  · unfold partOf; rw [hfs]
  · unfold lbdOf; rw [hfs]
  · unfold clnOf; rw [hfs]
  by_cases hok : ShdOK x y z tp fr sd
  · rw [show clnOf x y z tp fr sd = some ⟨x, y, z, shdOf x y z 2 (pick x y z (allowedB y z tp fr sd)), shdOf x y z 1 (pick x y z (allowedB y z tp fr sd)), shdOf x y z 0 (pick x y z (allowedB y z tp fr sd))⟩ from if_pos hok, Option.getD_some]
    have b2 := lines_le hok.1 (d := 2) (by omega)
    have b1 := lines_le hok.1 (d := 1) (by omega)
    have b0 := lines_le hok.1 (d := 0) (by omega)
    refine ⟨by simp only [shdOf_len]; omega, by simp only [shdOf_len]; omega, by simp only [shdOf_len]; omega, fun h => decide_eq_true hok, fun _ => ⟨hok, rfl, decide_eq_decide.2 ⟨fun h => h.2, fun h => ⟨hok, h⟩⟩⟩, fun h => ?_⟩
    have hF : Fits x y z tp fr sd := of_decide_eq_true h
    exact ⟨hF, by rw [show grtOf x y z tp fr sd = some ⟨x, y, z, pick x y z (allowedB y z tp fr sd)⟩ from if_pos hF]; rfl, by unfold partOf; rw [if_pos hF]; rfl, by unfold partOf; rw [if_pos hF]; rfl⟩
  · rw [show clnOf x y z tp fr sd = none from if_neg hok, Option.getD_none]
    exact ⟨by simp [Shd.none], by simp [Shd.none], by simp [Shd.none], fun h => (hok (of_decide_eq_true h : Fits x y z tp fr sd).1).elim, fun h => (hok (of_decide_eq_true h)).elim, fun h => (hok (of_decide_eq_true h : Fits x y z tp fr sd).1).elim⟩
set_option maxHeartbeats 2000000 in
theorem l_FnShadows {t : Nat} {bs : List Nat} {M : Mem} (hh : Bytes M t 0 bs ∧ getEsz M t = some 1) (hn : bs.length ≤ 9223372036854775807 ∧ ∀ b ∈ bs, b ≤ 255) :
    CallsR PG F.laws_FnShadows [.ref t 0 bs.length] M fun v _ => v = .B true := by
  obtain ⟨h, hesz⟩ := hh
  have htM := h.lt
  refine callsR_run K.laws_FnShadows rfl ?_
  simp (disch := omega) only [C.laws_FnShadows, ↓SXd, SXu, slBounds, ↓sop, ↓aop, ↓reduceIte, LV.cells, AOp.dst, LV.I, LV.B, LV.U, LV.S, LV.nil, Nat.reduceEqDiff, Nat.reduceAdd, Nat.reduceMul, Nat.reduceSub, Nat.reduceLeDiff, Nat.reduceBEq, Nat.reduceDiv, Nat.reduceMod, Int.reduceToNat, Int.reduceLT, Int.reduceLE, Int.reduceAdd, Int.reduceSub, Int.reduceMul, Int.reduceEq, Int.reduceNeg, reduceCtorEq, resV, resAll, ARes.ev, LV.flat, ite_true, ite_false, exists_eq_left', exists_eq_left, keyOf, implies_true, fillC, capOf]
  refine callK_of (k_vBig hn.1) ?_
  simp (disch := omega) only [↓SXd, SXu, slBounds, ↓sop, ↓aop, ↓reduceIte, LV.cells, AOp.dst, LV.I, LV.B, LV.U, LV.S, LV.nil, Nat.reduceEqDiff, Nat.reduceAdd, Nat.reduceMul, Nat.reduceSub, Nat.reduceLeDiff, Nat.reduceBEq, Nat.reduceDiv, Nat.reduceMod, Int.reduceToNat, Int.reduceLT, Int.reduceLE, Int.reduceAdd, Int.reduceSub, Int.reduceMul, Int.reduceEq, Int.reduceNeg, reduceCtorEq, resV, resAll, ARes.ev, LV.flat, ite_true, ite_false, exists_eq_left', exists_eq_left, keyOf, implies_true, fillC, capOf]
  by_cases hbig : (65536 : Int) < (bs.length : Nat)
  · simp (disch := omega) only [hbig, ↓SXd, SXu, slBounds, ↓sop, ↓aop, ↓reduceIte, LV.cells, AOp.dst, LV.I, LV.B, LV.U, LV.S, LV.nil, Nat.reduceEqDiff, Nat.reduceAdd, Nat.reduceMul, Nat.reduceSub, Nat.reduceLeDiff, Nat.reduceBEq, Nat.reduceDiv, Nat.reduceMod, Int.reduceToNat, Int.reduceLT, Int.reduceLE, Int.reduceAdd, Int.reduceSub, Int.reduceMul, Int.reduceEq, Int.reduceNeg, reduceCtorEq, resV, resAll, ARes.ev, LV.flat, ite_true, ite_false, exists_eq_left', exists_eq_left, keyOf, implies_true, fillC, capOf]
    rfl
  have hl : bs.length ≤ 1000000000 := by omega
  have hl6 : bs.length ≤ 1000000 := by omega
  simp (disch := omega) only [hbig, ↓SXd, SXu, slBounds, ↓sop, ↓aop, ↓reduceIte, LV.cells, AOp.dst, LV.I, LV.B, LV.U, LV.S, LV.nil, Nat.reduceEqDiff, Nat.reduceAdd, Nat.reduceMul, Nat.reduceSub, Nat.reduceLeDiff, Nat.reduceBEq, Nat.reduceDiv, Nat.reduceMod, Int.reduceToNat, Int.reduceLT, Int.reduceLE, Int.reduceAdd, Int.reduceSub, Int.reduceMul, Int.reduceEq, Int.reduceNeg, reduceCtorEq, resV, resAll, ARes.ev, LV.flat, ite_true, ite_false, exists_eq_left', exists_eq_left, keyOf, implies_true, fillC, capOf]
  refine callR_of (d_DrawFitTogether h hn.2 hl) ?_
  rintro _ N1 ⟨⟨x, y, z, tp, ft, sd, a, b, c, rfl, la, lb, lc, _, _, _, n1, n2, n3⟩, hp1⟩
  have k1 : tp.length ≤ 1000000000 := by omega
  have k2 : ft.length ≤ 1000000000 := by omega
  have k3 : sd.length ≤ 1000000000 := by omega
  obtain ⟨G, Q, S, C, l, o, f, eo, ef, eG, bG, eQ, bQ, eS, bS, el, bl, eC, bC, lG, lQ, lS, lC1, lC2, lC3, hfo, hO, hFt⟩ := shd_facts x y z tp ft sd
  have B3 : Live (N1 ++ [some (.row [.I x, .I y, .I z, .ref a 0 tp.length, .ref b 0 ft.length, .ref c 0 sd.length] true 0)]) N1.length (.row [.I x, .I y, .I z, .ref a 0 tp.length, .ref b 0 ft.length, .ref c 0 sd.length] true 0) := Live.new
  have A := la.app (L := [some (.row [.I x, .I y, .I z, .ref a 0 tp.length, .ref b 0 ft.length, .ref c 0 sd.length] true 0)])
  have B := lb.app (L := [some (.row [.I x, .I y, .I z, .ref a 0 tp.length, .ref b 0 ft.length, .ref c 0 sd.length] true 0)])
  have D := lc.app (L := [some (.row [.I x, .I y, .I z, .ref a 0 tp.length, .ref b 0 ft.length, .ref c 0 sd.length] true 0)])
  have q1 : Pre M (N1 ++ [some (.row [.I x, .I y, .I z, .ref a 0 tp.length, .ref b 0 ft.length, .ref c 0 sd.length] true 0)]) := hp1.trans (Pre.app _ _)
  simp (disch := omega) only [splice, ↓SXd, SXu, slBounds, ↓sop, ↓aop, ↓reduceIte, LV.cells, AOp.dst, LV.I, LV.B, LV.U, LV.S, LV.nil, Nat.reduceEqDiff, Nat.reduceAdd, Nat.reduceMul, Nat.reduceSub, Nat.reduceLeDiff, Nat.reduceBEq, Nat.reduceDiv, Nat.reduceMod, Int.reduceToNat, Int.reduceLT, Int.reduceLE, Int.reduceAdd, Int.reduceSub, Int.reduceMul, Int.reduceEq, Int.reduceNeg, reduceCtorEq, resV, resAll, ARes.ev, LV.flat, ite_true, ite_false, exists_eq_left', exists_eq_left, keyOf, implies_true, fillC, capOf]
  generalize N1.length = m3 at B3 ⊢
  generalize N1 ++ [some (Blk.row [.I x, .I y, .I z, .ref a 0 tp.length, .ref b 0 ft.length, .ref c 0 sd.length] true 0)] = W1 at B3 A B D q1 ⊢
  refine callR_of (g_FitTogether A.has B.has D.has k1 k2 k3) ?_
  rintro _ W2 ⟨rfl, hp2⟩
  rw [eo, ef]
  simp (disch := omega) only [(B3.pre (hp2)).cells, ↓SXd, SXu, slBounds, ↓sop, ↓aop, ↓reduceIte, LV.cells, AOp.dst, LV.I, LV.B, LV.U, LV.S, LV.nil, Nat.reduceEqDiff, Nat.reduceAdd, Nat.reduceMul, Nat.reduceSub, Nat.reduceLeDiff, Nat.reduceBEq, Nat.reduceDiv, Nat.reduceMod, Int.reduceToNat, Int.reduceLT, Int.reduceLE, Int.reduceAdd, Int.reduceSub, Int.reduceMul, Int.reduceEq, Int.reduceNeg, reduceCtorEq, resV, resAll, ARes.ev, LV.flat, ite_true, ite_false, exists_eq_left', exists_eq_left, keyOf, implies_true, fillC, capOf]
  refine callK_of (h_sFitTogether (A.pre (hp2)).has (B.pre (hp2)).has (D.pre (hp2)).has k1 k2 k3) ?_
  rw [eo, ef]
  simp (disch := omega) only [(B3.pre (hp2)).cells, ↓SXd, SXu, slBounds, ↓sop, ↓aop, ↓reduceIte, LV.cells, AOp.dst, LV.I, LV.B, LV.U, LV.S, LV.nil, Nat.reduceEqDiff, Nat.reduceAdd, Nat.reduceMul, Nat.reduceSub, Nat.reduceLeDiff, Nat.reduceBEq, Nat.reduceDiv, Nat.reduceMod, Int.reduceToNat, Int.reduceLT, Int.reduceLE, Int.reduceAdd, Int.reduceSub, Int.reduceMul, Int.reduceEq, Int.reduceNeg, reduceCtorEq, resV, resAll, ARes.ev, LV.flat, ite_true, ite_false, exists_eq_left', exists_eq_left, keyOf, implies_true, fillC, capOf]
  refine callR_of (heapG_eq (g_Greatest (A.pre (hp2)).has (B.pre (hp2)).has (D.pre (hp2)).has k1 k2 k3) eG bG) ?_
  rintro _ N3 ⟨v8, rfl, hv8, hp3⟩
  have B8 : Live (N3 ++ [some (.row [.I G.x, .I G.y, .I G.z, .ref v8 0 G.cs.length] true 0)]) N3.length (.row [.I G.x, .I G.y, .I G.z, .ref v8 0 G.cs.length] true 0) := Live.new
  have U8 := hv8.app (L := [some (.row [.I G.x, .I G.y, .I G.z, .ref v8 0 G.cs.length] true 0)])
  have q3 : Pre W2 (N3 ++ [some (.row [.I G.x, .I G.y, .I G.z, .ref v8 0 G.cs.length] true 0)]) := hp3.trans (Pre.app _ _)
  have eB3 := B3.pre ((hp2).trans q3)
  simp (disch := omega) only [splice, eB3.cells, ↓SXd, SXu, slBounds, ↓sop, ↓aop, ↓reduceIte, LV.cells, AOp.dst, LV.I, LV.B, LV.U, LV.S, LV.nil, Nat.reduceEqDiff, Nat.reduceAdd, Nat.reduceMul, Nat.reduceSub, Nat.reduceLeDiff, Nat.reduceBEq, Nat.reduceDiv, Nat.reduceMod, Int.reduceToNat, Int.reduceLT, Int.reduceLE, Int.reduceAdd, Int.reduceSub, Int.reduceMul, Int.reduceEq, Int.reduceNeg, reduceCtorEq, resV, resAll, ARes.ev, LV.flat, ite_true, ite_false, exists_eq_left', exists_eq_left, keyOf, implies_true, fillC, capOf]
  generalize N3.length = m8 at B8 ⊢
  generalize N3 ++ [some (Blk.row [.I G.x, .I G.y, .I G.z, .ref v8 0 G.cs.length] true 0)] = W3 at B8 U8 q3 eB3 ⊢
  refine callR_of (heapG_eq (h_sGreatest (A.pre (hp2.trans (q3))).has (B.pre (hp2.trans (q3))).has (D.pre (hp2.trans (q3))).has k1 k2 k3) eG bG) ?_
  rintro _ N4 ⟨v10, rfl, hv10, hp4⟩
  have B10 : Live (N4 ++ [some (.row [.I G.x, .I G.y, .I G.z, .ref v10 0 G.cs.length] true 0)]) N4.length (.row [.I G.x, .I G.y, .I G.z, .ref v10 0 G.cs.length] true 0) := Live.new
  have U10 := hv10.app (L := [some (.row [.I G.x, .I G.y, .I G.z, .ref v10 0 G.cs.length] true 0)])
  have q4 : Pre W3 (N4 ++ [some (.row [.I G.x, .I G.y, .I G.z, .ref v10 0 G.cs.length] true 0)]) := hp4.trans (Pre.app _ _)
  have eB3 := B3.pre ((hp2.trans (q3)).trans q4)
  simp (disch := omega) only [splice, eB3.cells, ↓SXd, SXu, slBounds, ↓sop, ↓aop, ↓reduceIte, LV.cells, AOp.dst, LV.I, LV.B, LV.U, LV.S, LV.nil, Nat.reduceEqDiff, Nat.reduceAdd, Nat.reduceMul, Nat.reduceSub, Nat.reduceLeDiff, Nat.reduceBEq, Nat.reduceDiv, Nat.reduceMod, Int.reduceToNat, Int.reduceLT, Int.reduceLE, Int.reduceAdd, Int.reduceSub, Int.reduceMul, Int.reduceEq, Int.reduceNeg, reduceCtorEq, resV, resAll, ARes.ev, LV.flat, ite_true, ite_false, exists_eq_left', exists_eq_left, keyOf, implies_true, fillC, capOf]
  generalize N4.length = m10 at B10 ⊢
  generalize N4 ++ [some (Blk.row [.I G.x, .I G.y, .I G.z, .ref v10 0 G.cs.length] true 0)] = W4 at B10 U10 q4 eB3 ⊢
  refine callR_of (cellsG_eq (g_MustCells (A.pre (hp2.trans (q3.trans (q4)))).has (B.pre (hp2.trans (q3.trans (q4)))).has (D.pre (hp2.trans (q3.trans (q4)))).has k1 k2 k3) eQ bQ) ?_
  rintro _ W5 ⟨vQ1, rfl, LQ1, hp5⟩
  simp (disch := omega) only [(B3.pre (hp2.trans (q3.trans (q4.trans (hp5))))).cells, ↓SXd, SXu, slBounds, ↓sop, ↓aop, ↓reduceIte, LV.cells, AOp.dst, LV.I, LV.B, LV.U, LV.S, LV.nil, Nat.reduceEqDiff, Nat.reduceAdd, Nat.reduceMul, Nat.reduceSub, Nat.reduceLeDiff, Nat.reduceBEq, Nat.reduceDiv, Nat.reduceMod, Int.reduceToNat, Int.reduceLT, Int.reduceLE, Int.reduceAdd, Int.reduceSub, Int.reduceMul, Int.reduceEq, Int.reduceNeg, reduceCtorEq, resV, resAll, ARes.ev, LV.flat, ite_true, ite_false, exists_eq_left', exists_eq_left, keyOf, implies_true, fillC, capOf]
  refine callR_of (cellsG_eq (h_sMustCells (A.pre (hp2.trans (q3.trans (q4.trans (hp5))))).has (B.pre (hp2.trans (q3.trans (q4.trans (hp5))))).has (D.pre (hp2.trans (q3.trans (q4.trans (hp5))))).has k1 k2 k3) eQ bQ) ?_
  rintro _ W6 ⟨vQ2, rfl, LQ2, hp6⟩
  simp (disch := omega) only [(B3.pre (hp2.trans (q3.trans (q4.trans (hp5.trans (hp6)))))).cells, ↓SXd, SXu, slBounds, ↓sop, ↓aop, ↓reduceIte, LV.cells, AOp.dst, LV.I, LV.B, LV.U, LV.S, LV.nil, Nat.reduceEqDiff, Nat.reduceAdd, Nat.reduceMul, Nat.reduceSub, Nat.reduceLeDiff, Nat.reduceBEq, Nat.reduceDiv, Nat.reduceMod, Int.reduceToNat, Int.reduceLT, Int.reduceLE, Int.reduceAdd, Int.reduceSub, Int.reduceMul, Int.reduceEq, Int.reduceNeg, reduceCtorEq, resV, resAll, ARes.ev, LV.flat, ite_true, ite_false, exists_eq_left', exists_eq_left, keyOf, implies_true, fillC, capOf]
  refine callR_of (cellsG_eq (g_SpareCells (A.pre (hp2.trans (q3.trans (q4.trans (hp5.trans (hp6)))))).has (B.pre (hp2.trans (q3.trans (q4.trans (hp5.trans (hp6)))))).has (D.pre (hp2.trans (q3.trans (q4.trans (hp5.trans (hp6)))))).has k1 k2 k3) eS bS) ?_
  rintro _ W7 ⟨vS1, rfl, LS1, hp7⟩
  simp (disch := omega) only [(B3.pre (hp2.trans (q3.trans (q4.trans (hp5.trans (hp6.trans (hp7))))))).cells, ↓SXd, SXu, slBounds, ↓sop, ↓aop, ↓reduceIte, LV.cells, AOp.dst, LV.I, LV.B, LV.U, LV.S, LV.nil, Nat.reduceEqDiff, Nat.reduceAdd, Nat.reduceMul, Nat.reduceSub, Nat.reduceLeDiff, Nat.reduceBEq, Nat.reduceDiv, Nat.reduceMod, Int.reduceToNat, Int.reduceLT, Int.reduceLE, Int.reduceAdd, Int.reduceSub, Int.reduceMul, Int.reduceEq, Int.reduceNeg, reduceCtorEq, resV, resAll, ARes.ev, LV.flat, ite_true, ite_false, exists_eq_left', exists_eq_left, keyOf, implies_true, fillC, capOf]
  refine callR_of (cellsG_eq (h_sSpareCells (A.pre (hp2.trans (q3.trans (q4.trans (hp5.trans (hp6.trans (hp7))))))).has (B.pre (hp2.trans (q3.trans (q4.trans (hp5.trans (hp6.trans (hp7))))))).has (D.pre (hp2.trans (q3.trans (q4.trans (hp5.trans (hp6.trans (hp7))))))).has k1 k2 k3) eS bS) ?_
  rintro _ W8 ⟨vS2, rfl, LS2, hp8⟩
  simp (disch := omega) only [(B3.pre (hp2.trans (q3.trans (q4.trans (hp5.trans (hp6.trans (hp7.trans (hp8)))))))).cells, ↓SXd, SXu, slBounds, ↓sop, ↓aop, ↓reduceIte, LV.cells, AOp.dst, LV.I, LV.B, LV.U, LV.S, LV.nil, Nat.reduceEqDiff, Nat.reduceAdd, Nat.reduceMul, Nat.reduceSub, Nat.reduceLeDiff, Nat.reduceBEq, Nat.reduceDiv, Nat.reduceMod, Int.reduceToNat, Int.reduceLT, Int.reduceLE, Int.reduceAdd, Int.reduceSub, Int.reduceMul, Int.reduceEq, Int.reduceNeg, reduceCtorEq, resV, resAll, ARes.ev, LV.flat, ite_true, ite_false, exists_eq_left', exists_eq_left, keyOf, implies_true, fillC, capOf]
  refine callK_of (g_LineBound (A.pre (hp2.trans (q3.trans (q4.trans (hp5.trans (hp6.trans (hp7.trans (hp8)))))))).has (B.pre (hp2.trans (q3.trans (q4.trans (hp5.trans (hp6.trans (hp7.trans (hp8)))))))).has (D.pre (hp2.trans (q3.trans (q4.trans (hp5.trans (hp6.trans (hp7.trans (hp8)))))))).has k1 k2 k3) ?_
  rw [el, bl]
  simp (disch := omega) only [(B3.pre (hp2.trans (q3.trans (q4.trans (hp5.trans (hp6.trans (hp7.trans (hp8)))))))).cells, ↓SXd, SXu, slBounds, ↓sop, ↓aop, ↓reduceIte, LV.cells, AOp.dst, LV.I, LV.B, LV.U, LV.S, LV.nil, Nat.reduceEqDiff, Nat.reduceAdd, Nat.reduceMul, Nat.reduceSub, Nat.reduceLeDiff, Nat.reduceBEq, Nat.reduceDiv, Nat.reduceMod, Int.reduceToNat, Int.reduceLT, Int.reduceLE, Int.reduceAdd, Int.reduceSub, Int.reduceMul, Int.reduceEq, Int.reduceNeg, reduceCtorEq, resV, resAll, ARes.ev, LV.flat, ite_true, ite_false, exists_eq_left', exists_eq_left, keyOf, implies_true, fillC, capOf]
  refine callK_of (h_sLineBound (A.pre (hp2.trans (q3.trans (q4.trans (hp5.trans (hp6.trans (hp7.trans (hp8)))))))).has (B.pre (hp2.trans (q3.trans (q4.trans (hp5.trans (hp6.trans (hp7.trans (hp8)))))))).has (D.pre (hp2.trans (q3.trans (q4.trans (hp5.trans (hp6.trans (hp7.trans (hp8)))))))).has k1 k2 k3) ?_
  rw [el, bl]
  simp (disch := omega) only [(B3.pre (hp2.trans (q3.trans (q4.trans (hp5.trans (hp6.trans (hp7.trans (hp8)))))))).cells, ↓SXd, SXu, slBounds, ↓sop, ↓aop, ↓reduceIte, LV.cells, AOp.dst, LV.I, LV.B, LV.U, LV.S, LV.nil, Nat.reduceEqDiff, Nat.reduceAdd, Nat.reduceMul, Nat.reduceSub, Nat.reduceLeDiff, Nat.reduceBEq, Nat.reduceDiv, Nat.reduceMod, Int.reduceToNat, Int.reduceLT, Int.reduceLE, Int.reduceAdd, Int.reduceSub, Int.reduceMul, Int.reduceEq, Int.reduceNeg, reduceCtorEq, resV, resAll, ARes.ev, LV.flat, ite_true, ite_false, exists_eq_left', exists_eq_left, keyOf, implies_true, fillC, capOf]
  refine callR_of (shdG_eq (g_CleanShadow (A.pre (hp2.trans (q3.trans (q4.trans (hp5.trans (hp6.trans (hp7.trans (hp8)))))))).has (B.pre (hp2.trans (q3.trans (q4.trans (hp5.trans (hp6.trans (hp7.trans (hp8)))))))).has (D.pre (hp2.trans (q3.trans (q4.trans (hp5.trans (hp6.trans (hp7.trans (hp8)))))))).has k1 k2 k3) eC bC) ?_
  rintro _ N9 ⟨w24a, w24b, w24c, rfl, i24a, i24b, i24c, hp9⟩
  have B24 : Live (N9 ++ [some (.row [.I C.x, .I C.y, .I C.z, .ref w24a 0 C.tp.length, .ref w24b 0 C.fr.length, .ref w24c 0 C.sd.length] true 0)]) N9.length (.row [.I C.x, .I C.y, .I C.z, .ref w24a 0 C.tp.length, .ref w24b 0 C.fr.length, .ref w24c 0 C.sd.length] true 0) := Live.new
  have I24a := i24a.app (L := [some (.row [.I C.x, .I C.y, .I C.z, .ref w24a 0 C.tp.length, .ref w24b 0 C.fr.length, .ref w24c 0 C.sd.length] true 0)])
  have I24b := i24b.app (L := [some (.row [.I C.x, .I C.y, .I C.z, .ref w24a 0 C.tp.length, .ref w24b 0 C.fr.length, .ref w24c 0 C.sd.length] true 0)])
  have I24c := i24c.app (L := [some (.row [.I C.x, .I C.y, .I C.z, .ref w24a 0 C.tp.length, .ref w24b 0 C.fr.length, .ref w24c 0 C.sd.length] true 0)])
  have q9 : Pre W8 (N9 ++ [some (.row [.I C.x, .I C.y, .I C.z, .ref w24a 0 C.tp.length, .ref w24b 0 C.fr.length, .ref w24c 0 C.sd.length] true 0)]) := hp9.trans (Pre.app _ _)
  have eB3 := B3.pre ((hp2.trans (q3.trans (q4.trans (hp5.trans (hp6.trans (hp7.trans (hp8))))))).trans q9)
  simp (disch := omega) only [splice, eB3.cells, ↓SXd, SXu, slBounds, ↓sop, ↓aop, ↓reduceIte, LV.cells, AOp.dst, LV.I, LV.B, LV.U, LV.S, LV.nil, Nat.reduceEqDiff, Nat.reduceAdd, Nat.reduceMul, Nat.reduceSub, Nat.reduceLeDiff, Nat.reduceBEq, Nat.reduceDiv, Nat.reduceMod, Int.reduceToNat, Int.reduceLT, Int.reduceLE, Int.reduceAdd, Int.reduceSub, Int.reduceMul, Int.reduceEq, Int.reduceNeg, reduceCtorEq, resV, resAll, ARes.ev, LV.flat, ite_true, ite_false, exists_eq_left', exists_eq_left, keyOf, implies_true, fillC, capOf]
  generalize N9.length = m24 at B24 ⊢
  generalize N9 ++ [some (Blk.row [.I C.x, .I C.y, .I C.z, .ref w24a 0 C.tp.length, .ref w24b 0 C.fr.length, .ref w24c 0 C.sd.length] true 0)] = W9 at B24 I24a I24b I24c q9 eB3 ⊢
  refine callR_of (shdG_eq (h_sCleanShadow (A.pre (hp2.trans (q3.trans (q4.trans (hp5.trans (hp6.trans (hp7.trans (hp8.trans (q9))))))))).has (B.pre (hp2.trans (q3.trans (q4.trans (hp5.trans (hp6.trans (hp7.trans (hp8.trans (q9))))))))).has (D.pre (hp2.trans (q3.trans (q4.trans (hp5.trans (hp6.trans (hp7.trans (hp8.trans (q9))))))))).has k1 k2 k3) eC bC) ?_
  rintro _ N10 ⟨w26a, w26b, w26c, rfl, i26a, i26b, i26c, hp10⟩
  have B26 : Live (N10 ++ [some (.row [.I C.x, .I C.y, .I C.z, .ref w26a 0 C.tp.length, .ref w26b 0 C.fr.length, .ref w26c 0 C.sd.length] true 0)]) N10.length (.row [.I C.x, .I C.y, .I C.z, .ref w26a 0 C.tp.length, .ref w26b 0 C.fr.length, .ref w26c 0 C.sd.length] true 0) := Live.new
  have I26a := i26a.app (L := [some (.row [.I C.x, .I C.y, .I C.z, .ref w26a 0 C.tp.length, .ref w26b 0 C.fr.length, .ref w26c 0 C.sd.length] true 0)])
  have I26b := i26b.app (L := [some (.row [.I C.x, .I C.y, .I C.z, .ref w26a 0 C.tp.length, .ref w26b 0 C.fr.length, .ref w26c 0 C.sd.length] true 0)])
  have I26c := i26c.app (L := [some (.row [.I C.x, .I C.y, .I C.z, .ref w26a 0 C.tp.length, .ref w26b 0 C.fr.length, .ref w26c 0 C.sd.length] true 0)])
  have q10 : Pre W9 (N10 ++ [some (.row [.I C.x, .I C.y, .I C.z, .ref w26a 0 C.tp.length, .ref w26b 0 C.fr.length, .ref w26c 0 C.sd.length] true 0)]) := hp10.trans (Pre.app _ _)
  have eB3 := B3.pre ((hp2.trans (q3.trans (q4.trans (hp5.trans (hp6.trans (hp7.trans (hp8.trans (q9)))))))).trans q10)
  simp (disch := omega) only [splice, eB3.cells, ↓SXd, SXu, slBounds, ↓sop, ↓aop, ↓reduceIte, LV.cells, AOp.dst, LV.I, LV.B, LV.U, LV.S, LV.nil, Nat.reduceEqDiff, Nat.reduceAdd, Nat.reduceMul, Nat.reduceSub, Nat.reduceLeDiff, Nat.reduceBEq, Nat.reduceDiv, Nat.reduceMod, Int.reduceToNat, Int.reduceLT, Int.reduceLE, Int.reduceAdd, Int.reduceSub, Int.reduceMul, Int.reduceEq, Int.reduceNeg, reduceCtorEq, resV, resAll, ARes.ev, LV.flat, ite_true, ite_false, exists_eq_left', exists_eq_left, keyOf, implies_true, fillC, capOf]
  generalize N10.length = m26 at B26 ⊢
  generalize N10 ++ [some (Blk.row [.I C.x, .I C.y, .I C.z, .ref w26a 0 C.tp.length, .ref w26b 0 C.fr.length, .ref w26c 0 C.sd.length] true 0)] = W10 at B26 I26a I26b I26c q10 eB3 ⊢
  refine callR_of (k_vCut (n := 1) (h.pre (q1.trans (hp2.trans (q3.trans (q4.trans (hp5.trans (hp6.trans (hp7.trans (hp8.trans (q9.trans (q10))))))))))) (esz_pref hesz htM (q1.trans (hp2.trans (q3.trans (q4.trans (hp5.trans (hp6.trans (hp7.trans (hp8.trans (q9.trans (q10))))))))))) hn.2 hl6 (by omega)) ?_
  rintro _ W11 ⟨uc, ec, rfl, hec, hec255, hecl, hp11⟩
  simp (disch := omega) only [↓SXd, SXu, slBounds, ↓sop, ↓aop, ↓reduceIte, LV.cells, AOp.dst, LV.I, LV.B, LV.U, LV.S, LV.nil, Nat.reduceEqDiff, Nat.reduceAdd, Nat.reduceMul, Nat.reduceSub, Nat.reduceLeDiff, Nat.reduceBEq, Nat.reduceDiv, Nat.reduceMod, Int.reduceToNat, Int.reduceLT, Int.reduceLE, Int.reduceAdd, Int.reduceSub, Int.reduceMul, Int.reduceEq, Int.reduceNeg, reduceCtorEq, resV, resAll, ARes.ev, LV.flat, ite_true, ite_false, exists_eq_left', exists_eq_left, keyOf, implies_true, fillC, capOf]
  refine callR_of (d_DrawIsShadowOf hec hec255 (by omega)) ?_
  rintro _ N12 ⟨⟨_, _, rfl, ⟨x2, y2, z2, tp2, fr2, sd2, a2, b2, c2, rfl, la2, lb2, lc2, _, _, _, n4, n5, n6⟩, x3, y3, z3, cs, u, rfl, hu, hcl⟩, hp12⟩
  have k4 : tp2.length ≤ 1000000000 := by omega
  have k5 : fr2.length ≤ 1000000000 := by omega
  have k6 : sd2.length ≤ 1000000000 := by omega
  have hcn : cs.length ≤ 1000000000 := by omega
  have B28 : Live (N12 ++ [some (.row [.I x2, .I y2, .I z2, .ref a2 0 tp2.length, .ref b2 0 fr2.length, .ref c2 0 sd2.length] true 0), some (.row [.I x3, .I y3, .I z3, .ref u 0 cs.length] true 0)]) N12.length (.row [.I x2, .I y2, .I z2, .ref a2 0 tp2.length, .ref b2 0 fr2.length, .ref c2 0 sd2.length] true 0) := Live.new
  have B29 : Live (N12 ++ [some (.row [.I x2, .I y2, .I z2, .ref a2 0 tp2.length, .ref b2 0 fr2.length, .ref c2 0 sd2.length] true 0), some (.row [.I x3, .I y3, .I z3, .ref u 0 cs.length] true 0)]) (N12.length + 1) (.row [.I x3, .I y3, .I z3, .ref u 0 cs.length] true 0) := Live.newj (j := 1) rfl
  have A2 := la2.app (L := [some (.row [.I x2, .I y2, .I z2, .ref a2 0 tp2.length, .ref b2 0 fr2.length, .ref c2 0 sd2.length] true 0), some (.row [.I x3, .I y3, .I z3, .ref u 0 cs.length] true 0)])
  have B2 := lb2.app (L := [some (.row [.I x2, .I y2, .I z2, .ref a2 0 tp2.length, .ref b2 0 fr2.length, .ref c2 0 sd2.length] true 0), some (.row [.I x3, .I y3, .I z3, .ref u 0 cs.length] true 0)])
  have D2 := lc2.app (L := [some (.row [.I x2, .I y2, .I z2, .ref a2 0 tp2.length, .ref b2 0 fr2.length, .ref c2 0 sd2.length] true 0), some (.row [.I x3, .I y3, .I z3, .ref u 0 cs.length] true 0)])
  have T := hu.app (L := [some (.row [.I x2, .I y2, .I z2, .ref a2 0 tp2.length, .ref b2 0 fr2.length, .ref c2 0 sd2.length] true 0), some (.row [.I x3, .I y3, .I z3, .ref u 0 cs.length] true 0)])
  have q12 : Pre W11 (N12 ++ [some (.row [.I x2, .I y2, .I z2, .ref a2 0 tp2.length, .ref b2 0 fr2.length, .ref c2 0 sd2.length] true 0), some (.row [.I x3, .I y3, .I z3, .ref u 0 cs.length] true 0)]) := hp12.trans (Pre.app _ _)
  simp (disch := omega) only [splice, B28.cells, B29.cells, ↓SXd, SXu, slBounds, ↓sop, ↓aop, ↓reduceIte, LV.cells, AOp.dst, LV.I, LV.B, LV.U, LV.S, LV.nil, Nat.reduceEqDiff, Nat.reduceAdd, Nat.reduceMul, Nat.reduceSub, Nat.reduceLeDiff, Nat.reduceBEq, Nat.reduceDiv, Nat.reduceMod, Int.reduceToNat, Int.reduceLT, Int.reduceLE, Int.reduceAdd, Int.reduceSub, Int.reduceMul, Int.reduceEq, Int.reduceNeg, reduceCtorEq, resV, resAll, ARes.ev, LV.flat, ite_true, ite_false, exists_eq_left', exists_eq_left, keyOf, implies_true, fillC, capOf]
  generalize N12.length + 1 = m29 at B29 ⊢
  generalize N12.length = m28 at B28 ⊢
  generalize N12 ++ [some (Blk.row [.I x2, .I y2, .I z2, .ref a2 0 tp2.length, .ref b2 0 fr2.length, .ref c2 0 sd2.length] true 0), some (Blk.row [.I x3, .I y3, .I z3, .ref u 0 cs.length] true 0)] = W12 at B28 B29 A2 B2 D2 T q12 ⊢
  obtain ⟨i, j, hij⟩ : ∃ i j : Bool, isShdOf x2 y2 z2 tp2 fr2 sd2 x3 y3 z3 cs = .tup [.B i, .B j] ∧ (i = true → Fits x2 y2 z2 tp2 fr2 sd2 ∧ HeapOK x2 y2 z2 cs ∧ (x2 = x3 ∧ y2 = y3 ∧ z2 = z3) ∧ HasShd x2 y2 z2 tp2 fr2 sd2 cs) := ⟨_, _, rfl, fun hi => by
    obtain ⟨⟨h1, h2⟩, ⟨rfl, rfl, rfl⟩, h4⟩ := of_decide_eq_true hi
    exact ⟨has_fits h1 h4 fun c hc => h2.mem hc, h2, ⟨rfl, rfl, rfl⟩, h4⟩⟩
  obtain ⟨hij, hI⟩ := hij
  refine callR_of (g_sIsShadowOf A2.has B2.has D2.has k4 k5 k6 T.has hcn) ?_
  rintro _ W13 ⟨rfl, hp13⟩
  rw [hij]
  simp (disch := omega) only [(B28.pre (hp13)).cells, (B29.pre (hp13)).cells, ↓SXd, SXu, slBounds, ↓sop, ↓aop, ↓reduceIte, LV.cells, AOp.dst, LV.I, LV.B, LV.U, LV.S, LV.nil, Nat.reduceEqDiff, Nat.reduceAdd, Nat.reduceMul, Nat.reduceSub, Nat.reduceLeDiff, Nat.reduceBEq, Nat.reduceDiv, Nat.reduceMod, Int.reduceToNat, Int.reduceLT, Int.reduceLE, Int.reduceAdd, Int.reduceSub, Int.reduceMul, Int.reduceEq, Int.reduceNeg, reduceCtorEq, resV, resAll, ARes.ev, LV.flat, ite_true, ite_false, exists_eq_left', exists_eq_left, keyOf, implies_true, fillC, capOf]
  refine callK_of (h_sIsShadowOf (A2.pre (hp13)).has (B2.pre (hp13)).has (D2.pre (hp13)).has k4 k5 k6 (T.pre (hp13)).has hcn) ?_
  rw [hij]
  simp (disch := omega) only [beq_self_eq_true, Bool.not_true, (B8.pre (q4.trans (hp5.trans (hp6.trans (hp7.trans (hp8.trans (q9.trans (q10.trans (hp11.trans (q12.trans (hp13))))))))))).cells, (B10.pre (hp5.trans (hp6.trans (hp7.trans (hp8.trans (q9.trans (q10.trans (hp11.trans (q12.trans (hp13)))))))))).cells, ↓SXd, SXu, slBounds, ↓sop, ↓aop, ↓reduceIte, LV.cells, AOp.dst, LV.I, LV.B, LV.U, LV.S, LV.nil, Nat.reduceEqDiff, Nat.reduceAdd, Nat.reduceMul, Nat.reduceSub, Nat.reduceLeDiff, Nat.reduceBEq, Nat.reduceDiv, Nat.reduceMod, Int.reduceToNat, Int.reduceLT, Int.reduceLE, Int.reduceAdd, Int.reduceSub, Int.reduceMul, Int.reduceEq, Int.reduceNeg, reduceCtorEq, resV, resAll, ARes.ev, LV.flat, ite_true, ite_false, exists_eq_left', exists_eq_left, keyOf, implies_true, fillC, capOf]
  have rh := k_vHeap (g := G) (h := G) (CellsV.of (U8.pre (q4.trans (hp5.trans (hp6.trans (hp7.trans (hp8.trans (q9.trans (q10.trans (hp11.trans (q12.trans (hp13))))))))))).has) (CellsV.of (U10.pre (hp5.trans (hp6.trans (hp7.trans (hp8.trans (q9.trans (q10.trans (hp11.trans (q12.trans (hp13)))))))))).has) (by omega) (by omega)
  rw [decide_eq_true (⟨rfl, rfl⟩ : G.dims = G.dims ∧ G.cs = G.cs)] at rh
  refine callK_of rh ?_
  simp (disch := omega) only [beq_self_eq_true, Bool.not_true, ↓SXd, SXu, slBounds, ↓sop, ↓aop, ↓reduceIte, LV.cells, AOp.dst, LV.I, LV.B, LV.U, LV.S, LV.nil, Nat.reduceEqDiff, Nat.reduceAdd, Nat.reduceMul, Nat.reduceSub, Nat.reduceLeDiff, Nat.reduceBEq, Nat.reduceDiv, Nat.reduceMod, Int.reduceToNat, Int.reduceLT, Int.reduceLE, Int.reduceAdd, Int.reduceSub, Int.reduceMul, Int.reduceEq, Int.reduceNeg, reduceCtorEq, resV, resAll, ARes.ev, LV.flat, ite_true, ite_false, exists_eq_left', exists_eq_left, keyOf, implies_true, fillC, capOf]
  have rc := k_vCells (l := Q) (l' := Q) (CellsV.of (LQ1.pre (hp6.trans (hp7.trans (hp8.trans (q9.trans (q10.trans (hp11.trans (q12.trans (hp13)))))))))) (CellsV.of (LQ2.pre (hp7.trans (hp8.trans (q9.trans (q10.trans (hp11.trans (q12.trans (hp13))))))))) (by omega) (by omega)
  rw [decide_eq_true rfl] at rc
  refine callK_of rc ?_
  simp (disch := omega) only [beq_self_eq_true, Bool.not_true, ↓SXd, SXu, slBounds, ↓sop, ↓aop, ↓reduceIte, LV.cells, AOp.dst, LV.I, LV.B, LV.U, LV.S, LV.nil, Nat.reduceEqDiff, Nat.reduceAdd, Nat.reduceMul, Nat.reduceSub, Nat.reduceLeDiff, Nat.reduceBEq, Nat.reduceDiv, Nat.reduceMod, Int.reduceToNat, Int.reduceLT, Int.reduceLE, Int.reduceAdd, Int.reduceSub, Int.reduceMul, Int.reduceEq, Int.reduceNeg, reduceCtorEq, resV, resAll, ARes.ev, LV.flat, ite_true, ite_false, exists_eq_left', exists_eq_left, keyOf, implies_true, fillC, capOf]
  have rc := k_vCells (l := S) (l' := S) (CellsV.of (LS1.pre (hp8.trans (q9.trans (q10.trans (hp11.trans (q12.trans (hp13)))))))) (CellsV.of (LS2.pre (q9.trans (q10.trans (hp11.trans (q12.trans (hp13))))))) (by omega) (by omega)
  rw [decide_eq_true rfl] at rc
  refine callK_of rc ?_
  simp (disch := omega) only [beq_self_eq_true, Bool.not_true, (B24.pre (q10.trans (hp11.trans (q12.trans (hp13))))).cells, (B26.pre (hp11.trans (q12.trans (hp13)))).cells, ↓SXd, SXu, slBounds, ↓sop, ↓aop, ↓reduceIte, LV.cells, AOp.dst, LV.I, LV.B, LV.U, LV.S, LV.nil, Nat.reduceEqDiff, Nat.reduceAdd, Nat.reduceMul, Nat.reduceSub, Nat.reduceLeDiff, Nat.reduceBEq, Nat.reduceDiv, Nat.reduceMod, Int.reduceToNat, Int.reduceLT, Int.reduceLE, Int.reduceAdd, Int.reduceSub, Int.reduceMul, Int.reduceEq, Int.reduceNeg, reduceCtorEq, resV, resAll, ARes.ev, LV.flat, ite_true, ite_false, exists_eq_left', exists_eq_left, keyOf, implies_true, fillC, capOf]
  have rs := k_vShadow (x := C.x) (y := C.y) (z := C.z) (.inr ⟨_, _, rfl, (I24a.pre (q10.trans (hp11.trans (q12.trans (hp13)))))⟩) (.inr ⟨_, _, rfl, (I24b.pre (q10.trans (hp11.trans (q12.trans (hp13)))))⟩) (.inr ⟨_, _, rfl, (I24c.pre (q10.trans (hp11.trans (q12.trans (hp13)))))⟩) (.inr ⟨_, _, rfl, (I26a.pre (hp11.trans (q12.trans (hp13))))⟩) (.inr ⟨_, _, rfl, (I26b.pre (hp11.trans (q12.trans (hp13))))⟩) (.inr ⟨_, _, rfl, (I26c.pre (hp11.trans (q12.trans (hp13))))⟩) (by omega) (by omega) (by omega) (by omega) (by omega) (by omega)
  rw [decide_eq_true (⟨rfl, rfl, rfl⟩ : C.tp = C.tp ∧ C.fr = C.fr ∧ C.sd = C.sd)] at rs
  refine callK_of rs ?_
  simp (disch := omega) only [beq_self_eq_true, Bool.not_true, (B3.pre (hp2.trans (q3.trans (q4.trans (hp5.trans (hp6.trans (hp7.trans (hp8.trans (q9.trans (q10.trans (hp11.trans (q12.trans (hp13))))))))))))).cells, ↓SXd, SXu, slBounds, ↓sop, ↓aop, ↓reduceIte, LV.cells, AOp.dst, LV.I, LV.B, LV.U, LV.S, LV.nil, Nat.reduceEqDiff, Nat.reduceAdd, Nat.reduceMul, Nat.reduceSub, Nat.reduceLeDiff, Nat.reduceBEq, Nat.reduceDiv, Nat.reduceMod, Int.reduceToNat, Int.reduceLT, Int.reduceLE, Int.reduceAdd, Int.reduceSub, Int.reduceMul, Int.reduceEq, Int.reduceNeg, reduceCtorEq, resV, resAll, ARes.ev, LV.flat, ite_true, ite_false, exists_eq_left', exists_eq_left, keyOf, implies_true, fillC, capOf]
  refine callK_of (g_IsShadow (A.pre (hp2.trans (q3.trans (q4.trans (hp5.trans (hp6.trans (hp7.trans (hp8.trans (q9.trans (q10.trans (hp11.trans (q12.trans (hp13))))))))))))).has (B.pre (hp2.trans (q3.trans (q4.trans (hp5.trans (hp6.trans (hp7.trans (hp8.trans (q9.trans (q10.trans (hp11.trans (q12.trans (hp13))))))))))))).has (D.pre (hp2.trans (q3.trans (q4.trans (hp5.trans (hp6.trans (hp7.trans (hp8.trans (q9.trans (q10.trans (hp11.trans (q12.trans (hp13))))))))))))).has k1 k2 k3) ?_
  rw [eo]
  simp (disch := omega) only [(B3.pre (hp2.trans (q3.trans (q4.trans (hp5.trans (hp6.trans (hp7.trans (hp8.trans (q9.trans (q10.trans (hp11.trans (q12.trans (hp13))))))))))))).cells, ↓SXd, SXu, slBounds, ↓sop, ↓aop, ↓reduceIte, LV.cells, AOp.dst, LV.I, LV.B, LV.U, LV.S, LV.nil, Nat.reduceEqDiff, Nat.reduceAdd, Nat.reduceMul, Nat.reduceSub, Nat.reduceLeDiff, Nat.reduceBEq, Nat.reduceDiv, Nat.reduceMod, Int.reduceToNat, Int.reduceLT, Int.reduceLE, Int.reduceAdd, Int.reduceSub, Int.reduceMul, Int.reduceEq, Int.reduceNeg, reduceCtorEq, resV, resAll, ARes.ev, LV.flat, ite_true, ite_false, exists_eq_left', exists_eq_left, keyOf, implies_true, fillC, capOf]
  refine callK_of (h_sIsShadow (A.pre (hp2.trans (q3.trans (q4.trans (hp5.trans (hp6.trans (hp7.trans (hp8.trans (q9.trans (q10.trans (hp11.trans (q12.trans (hp13))))))))))))).has (B.pre (hp2.trans (q3.trans (q4.trans (hp5.trans (hp6.trans (hp7.trans (hp8.trans (q9.trans (q10.trans (hp11.trans (q12.trans (hp13))))))))))))).has (D.pre (hp2.trans (q3.trans (q4.trans (hp5.trans (hp6.trans (hp7.trans (hp8.trans (q9.trans (q10.trans (hp11.trans (q12.trans (hp13))))))))))))).has k1 k2 k3) ?_
  rw [eo]
  simp (disch := omega) only [beq_self_eq_true, Bool.not_true, (B3.pre (hp2.trans (q3.trans (q4.trans (hp5.trans (hp6.trans (hp7.trans (hp8.trans (q9.trans (q10.trans (hp11.trans (q12.trans (hp13))))))))))))).cells, ↓SXd, SXu, slBounds, ↓sop, ↓aop, ↓reduceIte, LV.cells, AOp.dst, LV.I, LV.B, LV.U, LV.S, LV.nil, Nat.reduceEqDiff, Nat.reduceAdd, Nat.reduceMul, Nat.reduceSub, Nat.reduceLeDiff, Nat.reduceBEq, Nat.reduceDiv, Nat.reduceMod, Int.reduceToNat, Int.reduceLT, Int.reduceLE, Int.reduceAdd, Int.reduceSub, Int.reduceMul, Int.reduceEq, Int.reduceNeg, reduceCtorEq, resV, resAll, ARes.ev, LV.flat, ite_true, ite_false, exists_eq_left', exists_eq_left, keyOf, implies_true, fillC, capOf]
  refine callK_of (g_IsShadow (A.pre (hp2.trans (q3.trans (q4.trans (hp5.trans (hp6.trans (hp7.trans (hp8.trans (q9.trans (q10.trans (hp11.trans (q12.trans (hp13))))))))))))).has (B.pre (hp2.trans (q3.trans (q4.trans (hp5.trans (hp6.trans (hp7.trans (hp8.trans (q9.trans (q10.trans (hp11.trans (q12.trans (hp13))))))))))))).has (D.pre (hp2.trans (q3.trans (q4.trans (hp5.trans (hp6.trans (hp7.trans (hp8.trans (q9.trans (q10.trans (hp11.trans (q12.trans (hp13))))))))))))).has k1 k2 k3) ?_
  rw [eo]
  simp (disch := omega) only [beq_self_eq_true, Bool.not_true, (B3.pre (hp2.trans (q3.trans (q4.trans (hp5.trans (hp6.trans (hp7.trans (hp8.trans (q9.trans (q10.trans (hp11.trans (q12.trans (hp13))))))))))))).cells, ↓SXd, SXu, slBounds, ↓sop, ↓aop, ↓reduceIte, LV.cells, AOp.dst, LV.I, LV.B, LV.U, LV.S, LV.nil, Nat.reduceEqDiff, Nat.reduceAdd, Nat.reduceMul, Nat.reduceSub, Nat.reduceLeDiff, Nat.reduceBEq, Nat.reduceDiv, Nat.reduceMod, Int.reduceToNat, Int.reduceLT, Int.reduceLE, Int.reduceAdd, Int.reduceSub, Int.reduceMul, Int.reduceEq, Int.reduceNeg, reduceCtorEq, resV, resAll, ARes.ev, LV.flat, ite_true, ite_false, exists_eq_left', exists_eq_left, keyOf, implies_true, fillC, capOf]
  refine draw_cut (fun fr' M' => M' = W13 ∧ fr' 3 = .ptr m3 0 ∧ fr' 4 = .B f ∧ fr' 5 = .B o ∧ fr' 8 = .ptr m8 0 ∧ fr' 9 = .B f ∧ fr' 12 = .ref vQ1 0 Q.length ∧ fr' 16 = .ref vS1 0 S.length ∧ fr' 24 = .ptr m24 0 ∧ fr' 28 = .ptr m28 0 ∧ fr' 29 = .ptr m29 0 ∧ fr' 30 = .B i ∧ fr' 31 = .B j) ?_ ?_
  · clear hO hFt
    cases f
    · cases o
      · simp (disch := omega) only [beq_self_eq_true, Bool.not_true, ↓SXd, SXu, slBounds, ↓sop, ↓aop, ↓reduceIte, LV.cells, AOp.dst, LV.I, LV.B, LV.U, LV.S, LV.nil, Nat.reduceEqDiff, Nat.reduceAdd, Nat.reduceMul, Nat.reduceSub, Nat.reduceLeDiff, Nat.reduceBEq, Nat.reduceDiv, Nat.reduceMod, Int.reduceToNat, Int.reduceLT, Int.reduceLE, Int.reduceAdd, Int.reduceSub, Int.reduceMul, Int.reduceEq, Int.reduceNeg, reduceCtorEq, resV, resAll, ARes.ev, LV.flat, ite_true, ite_false, exists_eq_left', exists_eq_left, keyOf, implies_true, fillC, capOf]
        all_goals exact ⟨rfl, rfl, rfl, rfl, rfl, rfl, rfl, rfl, rfl, rfl, rfl, rfl, rfl⟩
      · simp (disch := omega) only [beq_self_eq_true, Bool.not_true, ↓SXd, SXu, slBounds, ↓sop, ↓aop, ↓reduceIte, LV.cells, AOp.dst, LV.I, LV.B, LV.U, LV.S, LV.nil, Nat.reduceEqDiff, Nat.reduceAdd, Nat.reduceMul, Nat.reduceSub, Nat.reduceLeDiff, Nat.reduceBEq, Nat.reduceDiv, Nat.reduceMod, Int.reduceToNat, Int.reduceLT, Int.reduceLE, Int.reduceAdd, Int.reduceSub, Int.reduceMul, Int.reduceEq, Int.reduceNeg, reduceCtorEq, resV, resAll, ARes.ev, LV.flat, ite_true, ite_false, exists_eq_left', exists_eq_left, keyOf, implies_true, fillC, capOf]
        all_goals exact ⟨rfl, rfl, rfl, rfl, rfl, rfl, rfl, rfl, rfl, rfl, rfl, rfl, rfl⟩
    · have := hfo rfl
      subst this
      simp (disch := omega) only [beq_self_eq_true, Bool.not_true, ↓SXd, SXu, slBounds, ↓sop, ↓aop, ↓reduceIte, LV.cells, AOp.dst, LV.I, LV.B, LV.U, LV.S, LV.nil, Nat.reduceEqDiff, Nat.reduceAdd, Nat.reduceMul, Nat.reduceSub, Nat.reduceLeDiff, Nat.reduceBEq, Nat.reduceDiv, Nat.reduceMod, Int.reduceToNat, Int.reduceLT, Int.reduceLE, Int.reduceAdd, Int.reduceSub, Int.reduceMul, Int.reduceEq, Int.reduceNeg, reduceCtorEq, resV, resAll, ARes.ev, LV.flat, ite_true, ite_false, exists_eq_left', exists_eq_left, keyOf, implies_true, fillC, capOf]
      all_goals exact ⟨rfl, rfl, rfl, rfl, rfl, rfl, rfl, rfl, rfl, rfl, rfl, rfl, rfl⟩
  rintro fr W13 ⟨rfl, f3, f4, f5, f8, f9, f12, f16, f24, f28, f29, f30, f31⟩
  have B3f := (B3.pre (hp2.trans (q3.trans (q4.trans (hp5.trans (hp6.trans (hp7.trans (hp8.trans (q9.trans (q10.trans (hp11.trans (q12.trans (hp13)))))))))))))
  have Af := (A.pre (hp2.trans (q3.trans (q4.trans (hp5.trans (hp6.trans (hp7.trans (hp8.trans (q9.trans (q10.trans (hp11.trans (q12.trans (hp13)))))))))))))
  have Bf := (B.pre (hp2.trans (q3.trans (q4.trans (hp5.trans (hp6.trans (hp7.trans (hp8.trans (q9.trans (q10.trans (hp11.trans (q12.trans (hp13)))))))))))))
  have Df := (D.pre (hp2.trans (q3.trans (q4.trans (hp5.trans (hp6.trans (hp7.trans (hp8.trans (q9.trans (q10.trans (hp11.trans (q12.trans (hp13)))))))))))))
  have B8f := (B8.pre (q4.trans (hp5.trans (hp6.trans (hp7.trans (hp8.trans (q9.trans (q10.trans (hp11.trans (q12.trans (hp13)))))))))))
  have U8f := (U8.pre (q4.trans (hp5.trans (hp6.trans (hp7.trans (hp8.trans (q9.trans (q10.trans (hp11.trans (q12.trans (hp13)))))))))))
  have LQ1f := (LQ1.pre (hp6.trans (hp7.trans (hp8.trans (q9.trans (q10.trans (hp11.trans (q12.trans (hp13)))))))))
  have LS1f := (LS1.pre (hp8.trans (q9.trans (q10.trans (hp11.trans (q12.trans (hp13)))))))
  have B24f := (B24.pre (q10.trans (hp11.trans (q12.trans (hp13)))))
  have I24af := (I24a.pre (q10.trans (hp11.trans (q12.trans (hp13)))))
  have I24bf := (I24b.pre (q10.trans (hp11.trans (q12.trans (hp13)))))
  have I24cf := (I24c.pre (q10.trans (hp11.trans (q12.trans (hp13)))))
  have B28f := (B28.pre (hp13))
  have B29f := (B29.pre (hp13))
  have A2f := (A2.pre (hp13))
  have B2f := (B2.pre (hp13))
  have D2f := (D2.pre (hp13))
  have Tf := (T.pre (hp13))
  clear rh rc rs hij
  simp (disch := omega) only [f3, f4, f5, f8, f9, f12, f16, f24, f28, f29, f30, f31, ↓SXd, SXu, slBounds, ↓sop, ↓aop, ↓reduceIte, LV.cells, AOp.dst, LV.I, LV.B, LV.U, LV.S, LV.nil, Nat.reduceEqDiff, Nat.reduceAdd, Nat.reduceMul, Nat.reduceSub, Nat.reduceLeDiff, Nat.reduceBEq, Nat.reduceDiv, Nat.reduceMod, Int.reduceToNat, Int.reduceLT, Int.reduceLE, Int.reduceAdd, Int.reduceSub, Int.reduceMul, Int.reduceEq, Int.reduceNeg, reduceCtorEq, resV, resAll, ARes.ev, LV.flat, ite_true, ite_false, exists_eq_left', exists_eq_left, keyOf, implies_true, fillC, capOf]
  refine guard_cut (fun fr' M' => Pre W13 M' ∧ fr' 3 = .ptr m3 0 ∧ fr' 4 = .B f ∧ fr' 5 = .B o ∧ fr' 8 = .ptr m8 0 ∧ fr' 9 = .B f ∧ fr' 12 = .ref vQ1 0 Q.length ∧ fr' 16 = .ref vS1 0 S.length ∧ fr' 24 = .ptr m24 0) ?_ ?_
  · clear hO hFt
    cases j
    · simp (disch := omega) only [f3, f4, f5, f8, f9, f12, f16, f24, f28, f29, f30, f31, ↓SXd, SXu, slBounds, ↓sop, ↓aop, ↓reduceIte, LV.cells, AOp.dst, LV.I, LV.B, LV.U, LV.S, LV.nil, Nat.reduceEqDiff, Nat.reduceAdd, Nat.reduceMul, Nat.reduceSub, Nat.reduceLeDiff, Nat.reduceBEq, Nat.reduceDiv, Nat.reduceMod, Int.reduceToNat, Int.reduceLT, Int.reduceLE, Int.reduceAdd, Int.reduceSub, Int.reduceMul, Int.reduceEq, Int.reduceNeg, reduceCtorEq, resV, resAll, ARes.ev, LV.flat, ite_true, ite_false, exists_eq_left', exists_eq_left, keyOf, implies_true, fillC, capOf]
      all_goals exact Pre.refl _
    cases i
    · simp (disch := omega) only [f3, f4, f5, f8, f9, f12, f16, f24, f28, f29, f30, f31, ↓SXd, SXu, slBounds, ↓sop, ↓aop, ↓reduceIte, LV.cells, AOp.dst, LV.I, LV.B, LV.U, LV.S, LV.nil, Nat.reduceEqDiff, Nat.reduceAdd, Nat.reduceMul, Nat.reduceSub, Nat.reduceLeDiff, Nat.reduceBEq, Nat.reduceDiv, Nat.reduceMod, Int.reduceToNat, Int.reduceLT, Int.reduceLE, Int.reduceAdd, Int.reduceSub, Int.reduceMul, Int.reduceEq, Int.reduceNeg, reduceCtorEq, resV, resAll, ARes.ev, LV.flat, ite_true, ite_false, exists_eq_left', exists_eq_left, keyOf, implies_true, fillC, capOf]
      all_goals exact Pre.refl _
    obtain ⟨hF2, hH2, ⟨e1, e2, e3⟩, hS2⟩ := hI rfl
    subst e1 e2 e3
    have g1 : grtOf x2 y2 z2 tp2 fr2 sd2 = some ⟨x2, y2, z2, pick x2 y2 z2 (allowedB y2 z2 tp2 fr2 sd2)⟩ := if_pos hF2
    have g2 : partOf x2 y2 z2 tp2 fr2 sd2 false = some (shdPart x2 y2 z2 tp2 fr2 sd2 false) := if_pos hF2
    have g3 : lbdOf x2 y2 z2 tp2 fr2 sd2 = some (max (litSum tp2) (max (litSum fr2) (litSum sd2))) := if_pos hF2.1
    have hin2 : ∀ c ∈ cs, c.inBox x2 y2 z2 := fun c hc => hH2.mem hc
    have hlow : ¬ ((cs.length : Nat) : Int) < max (litSum tp2) (max (litSum fr2) (litSum sd2)) := by have := bound_le hF2.1 hH2 hS2; omega
    have w1 : ∀ c ∈ cs, c ∈ pick x2 y2 z2 (allowedB y2 z2 tp2 fr2 sd2) := fun c hc => (mem_allowed hF2.1).2 ⟨hin2 c hc, has_allowed hF2.1 hS2 hin2 hc⟩
    have w2 : ∀ c ∈ shdPart x2 y2 z2 tp2 fr2 sd2 false, c ∈ cs := fun c hc => must_in hF2.1 hS2 hin2 hc
    have n7 : (pick x2 y2 z2 (allowedB y2 z2 tp2 fr2 sd2)).length ≤ 64 := pick_len hH2.1 _
    have n8 : (shdPart x2 y2 z2 tp2 fr2 sd2 false).length ≤ 1000000 := by
      have := partOf_len (x := x2) (y := y2) (z := z2) (tp := tp2) (fr := fr2) (sd := sd2) (sp := false)
      rw [g2] at this; exact this
    simp (disch := omega) only [f3, f4, f5, f8, f9, f12, f16, f24, f28, f29, f30, f31, B28f.cells, ↓SXd, SXu, slBounds, ↓sop, ↓aop, ↓reduceIte, LV.cells, AOp.dst, LV.I, LV.B, LV.U, LV.S, LV.nil, Nat.reduceEqDiff, Nat.reduceAdd, Nat.reduceMul, Nat.reduceSub, Nat.reduceLeDiff, Nat.reduceBEq, Nat.reduceDiv, Nat.reduceMod, Int.reduceToNat, Int.reduceLT, Int.reduceLE, Int.reduceAdd, Int.reduceSub, Int.reduceMul, Int.reduceEq, Int.reduceNeg, reduceCtorEq, resV, resAll, ARes.ev, LV.flat, ite_true, ite_false, exists_eq_left', exists_eq_left, keyOf, implies_true, fillC, capOf]
    refine callR_of (heapG_eq (G := ⟨x2, y2, z2, pick x2 y2 z2 (allowedB y2 z2 tp2 fr2 sd2)⟩) (b := true) (g_Greatest A2f.has B2f.has D2f.has k4 k5 k6) (by rw [g1]; rfl) (by rw [g1]; rfl)) ?_
    generalize pick x2 y2 z2 (allowedB y2 z2 tp2 fr2 sd2) = al at w1 n7 ⊢
    generalize shdPart x2 y2 z2 tp2 fr2 sd2 false = nd at w2 g2 n8 ⊢
    rintro _ N14 ⟨v34, rfl, hv34, hp14⟩
    have B34 : Live (N14 ++ [some (.row [.I x2, .I y2, .I z2, .ref v34 0 al.length] true 0)]) N14.length (.row [.I x2, .I y2, .I z2, .ref v34 0 al.length] true 0) := Live.new
    have U34 := hv34.app (L := [some (.row [.I x2, .I y2, .I z2, .ref v34 0 al.length] true 0)])
    have q14 : Pre W13 (N14 ++ [some (.row [.I x2, .I y2, .I z2, .ref v34 0 al.length] true 0)]) := hp14.trans (Pre.app _ _)
    simp (disch := omega) only [f3, f4, f5, f8, f9, f12, f16, f24, f28, f29, f30, f31, splice, (B28f.pre q14).cells, ↓SXd, SXu, slBounds, ↓sop, ↓aop, ↓reduceIte, LV.cells, AOp.dst, LV.I, LV.B, LV.U, LV.S, LV.nil, Nat.reduceEqDiff, Nat.reduceAdd, Nat.reduceMul, Nat.reduceSub, Nat.reduceLeDiff, Nat.reduceBEq, Nat.reduceDiv, Nat.reduceMod, Int.reduceToNat, Int.reduceLT, Int.reduceLE, Int.reduceAdd, Int.reduceSub, Int.reduceMul, Int.reduceEq, Int.reduceNeg, reduceCtorEq, resV, resAll, ARes.ev, LV.flat, ite_true, ite_false, exists_eq_left', exists_eq_left, keyOf, implies_true, fillC, capOf]
    generalize N14.length = m34 at B34 ⊢
    generalize N14 ++ [some (Blk.row [.I x2, .I y2, .I z2, .ref v34 0 al.length] true 0)] = W14 at B34 U34 q14 ⊢
    refine callR_of (cellsG_eq (l := nd) (b := true) (g_MustCells (A2f.pre q14).has (B2f.pre q14).has (D2f.pre q14).has k4 k5 k6) (by rw [g2]; rfl) (by rw [g2]; rfl)) ?_
    rintro _ W15 ⟨v36, rfl, L36, hp15⟩
    simp (disch := omega) only [f3, f4, f5, f8, f9, f12, f16, f24, f28, f29, f30, f31, (B28f.pre (q14.trans hp15)).cells, ↓SXd, SXu, slBounds, ↓sop, ↓aop, ↓reduceIte, LV.cells, AOp.dst, LV.I, LV.B, LV.U, LV.S, LV.nil, Nat.reduceEqDiff, Nat.reduceAdd, Nat.reduceMul, Nat.reduceSub, Nat.reduceLeDiff, Nat.reduceBEq, Nat.reduceDiv, Nat.reduceMod, Int.reduceToNat, Int.reduceLT, Int.reduceLE, Int.reduceAdd, Int.reduceSub, Int.reduceMul, Int.reduceEq, Int.reduceNeg, reduceCtorEq, resV, resAll, ARes.ev, LV.flat, ite_true, ite_false, exists_eq_left', exists_eq_left, keyOf, implies_true, fillC, capOf]
    refine callK_of (g_LineBound (A2f.pre (q14.trans hp15)).has (B2f.pre (q14.trans hp15)).has (D2f.pre (q14.trans hp15)).has k4 k5 k6) ?_
    rw [g3]
    simp (disch := omega) only [f3, f4, f5, f8, f9, f12, f16, f24, f28, f29, f30, f31, Option.getD_some, Option.isSome_some, Bool.not_true, (B29f.pre (q14.trans hp15)).cell, (B34.pre hp15).cell, ↓SXd, SXu, slBounds, ↓sop, ↓aop, ↓reduceIte, LV.cells, AOp.dst, LV.I, LV.B, LV.U, LV.S, LV.nil, Nat.reduceEqDiff, Nat.reduceAdd, Nat.reduceMul, Nat.reduceSub, Nat.reduceLeDiff, Nat.reduceBEq, Nat.reduceDiv, Nat.reduceMod, Int.reduceToNat, Int.reduceLT, Int.reduceLE, Int.reduceAdd, Int.reduceSub, Int.reduceMul, Int.reduceEq, Int.reduceNeg, reduceCtorEq, resV, resAll, ARes.ev, LV.flat, ite_true, ite_false, exists_eq_left', exists_eq_left, keyOf, implies_true, fillC, capOf]
    refine callK_of (k_vWithin (l := cs) (l' := al) (CellsV.of (Tf.pre (q14.trans hp15)).has) (CellsV.of (U34.pre hp15).has) (by omega) (by omega) w1) ?_
    simp (disch := omega) only [f3, f4, f5, f8, f9, f12, f16, f24, f28, f29, f30, f31, Bool.not_true, (B29f.pre (q14.trans hp15)).cell, ↓SXd, SXu, slBounds, ↓sop, ↓aop, ↓reduceIte, LV.cells, AOp.dst, LV.I, LV.B, LV.U, LV.S, LV.nil, Nat.reduceEqDiff, Nat.reduceAdd, Nat.reduceMul, Nat.reduceSub, Nat.reduceLeDiff, Nat.reduceBEq, Nat.reduceDiv, Nat.reduceMod, Int.reduceToNat, Int.reduceLT, Int.reduceLE, Int.reduceAdd, Int.reduceSub, Int.reduceMul, Int.reduceEq, Int.reduceNeg, reduceCtorEq, resV, resAll, ARes.ev, LV.flat, ite_true, ite_false, exists_eq_left', exists_eq_left, keyOf, implies_true, fillC, capOf]
    refine callK_of (k_vWithin (l := nd) (l' := cs) (CellsV.of L36) (CellsV.of (Tf.pre (q14.trans hp15)).has) (by omega) (by omega) w2) ?_
    simp (disch := omega) only [f3, f4, f5, f8, f9, f12, f16, f24, f28, f29, f30, f31, Bool.not_true, (B29f.pre (q14.trans hp15)).cell, hlow, ↓SXd, SXu, slBounds, ↓sop, ↓aop, ↓reduceIte, LV.cells, AOp.dst, LV.I, LV.B, LV.U, LV.S, LV.nil, Nat.reduceEqDiff, Nat.reduceAdd, Nat.reduceMul, Nat.reduceSub, Nat.reduceLeDiff, Nat.reduceBEq, Nat.reduceDiv, Nat.reduceMod, Int.reduceToNat, Int.reduceLT, Int.reduceLE, Int.reduceAdd, Int.reduceSub, Int.reduceMul, Int.reduceEq, Int.reduceNeg, reduceCtorEq, resV, resAll, ARes.ev, LV.flat, ite_true, ite_false, exists_eq_left', exists_eq_left, keyOf, implies_true, fillC, capOf]
    all_goals exact q14.trans hp15
  clear f3 f4 f5 f8 f9 f12 f16 f24 f28 f29 f30 f31
  rintro fr X ⟨hX, f3, f4, f5, f8, f9, f12, f16, f24⟩
  replace B3f := B3f.pre hX
  replace Af := Af.pre hX
  replace Bf := Bf.pre hX
  replace Df := Df.pre hX
  replace B8f := B8f.pre hX
  replace U8f := U8f.pre hX
  replace LQ1f := LQ1f.pre hX
  replace LS1f := LS1f.pre hX
  replace B24f := B24f.pre hX
  replace I24af := I24af.pre hX
  replace I24bf := I24bf.pre hX
  replace I24cf := I24cf.pre hX
  cases o
  · simp (disch := omega) only [f3, f4, f5, f8, f9, f12, f16, f24, ↓SXd, SXu, slBounds, ↓sop, ↓aop, ↓reduceIte, LV.cells, AOp.dst, LV.I, LV.B, LV.U, LV.S, LV.nil, Nat.reduceEqDiff, Nat.reduceAdd, Nat.reduceMul, Nat.reduceSub, Nat.reduceLeDiff, Nat.reduceBEq, Nat.reduceDiv, Nat.reduceMod, Int.reduceToNat, Int.reduceLT, Int.reduceLE, Int.reduceAdd, Int.reduceSub, Int.reduceMul, Int.reduceEq, Int.reduceNeg, reduceCtorEq, resV, resAll, ARes.ev, LV.flat, ite_true, ite_false, exists_eq_left', exists_eq_left, keyOf, implies_true, fillC, capOf]
    rfl
  obtain ⟨hok, hC, hfd⟩ := hO rfl
  subst hC
  simp only at B24f I24af I24bf I24cf lC1 lC2 lC3
  have cf := clean_fits hok
  have co := clean_ok hok
  have cb2 := clean_below hok (d := 2) (by omega)
  have cb1 := clean_below hok (d := 1) (by omega)
  have cb0 := clean_below hok (d := 0) (by omega)
  have hEok : HeapOK x y z (pick x y z (allowedB y z tp ft sd)) := pick_ok hok.1 _
  generalize hE : pick x y z (allowedB y z tp ft sd) = E at B24f I24af I24bf I24cf lC1 lC2 lC3 cf co cb2 cb1 cb0 hfd hFt hEok
  clear hO
  simp (disch := omega) only [f3, f4, f5, f8, f9, f12, f16, f24, B24f.cells, ↓SXd, SXu, slBounds, ↓sop, ↓aop, ↓reduceIte, LV.cells, AOp.dst, LV.I, LV.B, LV.U, LV.S, LV.nil, Nat.reduceEqDiff, Nat.reduceAdd, Nat.reduceMul, Nat.reduceSub, Nat.reduceLeDiff, Nat.reduceBEq, Nat.reduceDiv, Nat.reduceMod, Int.reduceToNat, Int.reduceLT, Int.reduceLE, Int.reduceAdd, Int.reduceSub, Int.reduceMul, Int.reduceEq, Int.reduceNeg, reduceCtorEq, resV, resAll, ARes.ev, LV.flat, ite_true, ite_false, exists_eq_left', exists_eq_left, keyOf, implies_true, fillC, capOf]
  refine callR_of (g_FitTogether I24af I24bf I24cf (by omega) (by omega) (by omega)) ?_
  rintro _ X1 ⟨rfl, hx1⟩
  rw [decide_eq_true cf, decide_eq_true co]
  replace B3f := B3f.pre hx1
  replace Af := Af.pre hx1
  replace Bf := Bf.pre hx1
  replace Df := Df.pre hx1
  replace B8f := B8f.pre hx1
  replace U8f := U8f.pre hx1
  replace LQ1f := LQ1f.pre hx1
  replace LS1f := LS1f.pre hx1
  replace B24f := B24f.pre hx1
  replace I24af := I24af.pre hx1
  replace I24bf := I24bf.pre hx1
  replace I24cf := I24cf.pre hx1
  simp (disch := omega) only [f3, f4, f5, f8, f9, f12, f16, f24, Bool.not_true, B24f.cell, B3f.cell, ↓SXd, SXu, slBounds, ↓sop, ↓aop, ↓reduceIte, LV.cells, AOp.dst, LV.I, LV.B, LV.U, LV.S, LV.nil, Nat.reduceEqDiff, Nat.reduceAdd, Nat.reduceMul, Nat.reduceSub, Nat.reduceLeDiff, Nat.reduceBEq, Nat.reduceDiv, Nat.reduceMod, Int.reduceToNat, Int.reduceLT, Int.reduceLE, Int.reduceAdd, Int.reduceSub, Int.reduceMul, Int.reduceEq, Int.reduceNeg, reduceCtorEq, resV, resAll, ARes.ev, LV.flat, ite_true, ite_false, exists_eq_left', exists_eq_left, keyOf, implies_true, fillC, capOf]
  refine callK_of (k_vBelow (l := shdOf x y z 2 E) (l' := tp) (.inr ⟨_, _, rfl, I24af⟩) (.inr ⟨_, _, rfl, Af.has⟩) (by omega) cb2.1 cb2.2) ?_
  simp (disch := omega) only [f3, f4, f5, f8, f9, f12, f16, f24, Bool.not_true, B24f.cell, B3f.cell, ↓SXd, SXu, slBounds, ↓sop, ↓aop, ↓reduceIte, LV.cells, AOp.dst, LV.I, LV.B, LV.U, LV.S, LV.nil, Nat.reduceEqDiff, Nat.reduceAdd, Nat.reduceMul, Nat.reduceSub, Nat.reduceLeDiff, Nat.reduceBEq, Nat.reduceDiv, Nat.reduceMod, Int.reduceToNat, Int.reduceLT, Int.reduceLE, Int.reduceAdd, Int.reduceSub, Int.reduceMul, Int.reduceEq, Int.reduceNeg, reduceCtorEq, resV, resAll, ARes.ev, LV.flat, ite_true, ite_false, exists_eq_left', exists_eq_left, keyOf, implies_true, fillC, capOf]
  refine callK_of (k_vBelow (l := shdOf x y z 1 E) (l' := ft) (.inr ⟨_, _, rfl, I24bf⟩) (.inr ⟨_, _, rfl, Bf.has⟩) (by omega) cb1.1 cb1.2) ?_
  simp (disch := omega) only [f3, f4, f5, f8, f9, f12, f16, f24, Bool.not_true, B24f.cell, B3f.cell, ↓SXd, SXu, slBounds, ↓sop, ↓aop, ↓reduceIte, LV.cells, AOp.dst, LV.I, LV.B, LV.U, LV.S, LV.nil, Nat.reduceEqDiff, Nat.reduceAdd, Nat.reduceMul, Nat.reduceSub, Nat.reduceLeDiff, Nat.reduceBEq, Nat.reduceDiv, Nat.reduceMod, Int.reduceToNat, Int.reduceLT, Int.reduceLE, Int.reduceAdd, Int.reduceSub, Int.reduceMul, Int.reduceEq, Int.reduceNeg, reduceCtorEq, resV, resAll, ARes.ev, LV.flat, ite_true, ite_false, exists_eq_left', exists_eq_left, keyOf, implies_true, fillC, capOf]
  refine callK_of (k_vBelow (l := shdOf x y z 0 E) (l' := sd) (.inr ⟨_, _, rfl, I24cf⟩) (.inr ⟨_, _, rfl, Df.has⟩) (by omega) cb0.1 cb0.2) ?_
  simp (disch := omega) only [f3, f4, f5, f8, f9, f12, f16, f24, Bool.not_true, B24f.cell, B3f.cell, B24f.cells, B3f.cells, ↓SXd, SXu, slBounds, ↓sop, ↓aop, ↓reduceIte, LV.cells, AOp.dst, LV.I, LV.B, LV.U, LV.S, LV.nil, Nat.reduceEqDiff, Nat.reduceAdd, Nat.reduceMul, Nat.reduceSub, Nat.reduceLeDiff, Nat.reduceBEq, Nat.reduceDiv, Nat.reduceMod, Int.reduceToNat, Int.reduceLT, Int.reduceLE, Int.reduceAdd, Int.reduceSub, Int.reduceMul, Int.reduceEq, Int.reduceNeg, reduceCtorEq, resV, resAll, ARes.ev, LV.flat, ite_true, ite_false, exists_eq_left', exists_eq_left, keyOf, implies_true, fillC, capOf]
  refine callK_of (k_vShadow (tp := shdOf x y z 2 E) (fr := shdOf x y z 1 E) (sd := shdOf x y z 0 E) (.inr ⟨_, _, rfl, I24af⟩) (.inr ⟨_, _, rfl, I24bf⟩) (.inr ⟨_, _, rfl, I24cf⟩) (.inr ⟨_, _, rfl, Af.has⟩) (.inr ⟨_, _, rfl, Bf.has⟩) (.inr ⟨_, _, rfl, Df.has⟩) (by omega) (by omega) (by omega) (by omega) (by omega) (by omega)) ?_
  rw [← hfd]
  simp (disch := omega) only [f3, f4, f5, f8, f9, f12, f16, f24, beq_self_eq_true, Bool.not_true, ↓SXd, SXu, slBounds, ↓sop, ↓aop, ↓reduceIte, LV.cells, AOp.dst, LV.I, LV.B, LV.U, LV.S, LV.nil, Nat.reduceEqDiff, Nat.reduceAdd, Nat.reduceMul, Nat.reduceSub, Nat.reduceLeDiff, Nat.reduceBEq, Nat.reduceDiv, Nat.reduceMod, Int.reduceToNat, Int.reduceLT, Int.reduceLE, Int.reduceAdd, Int.reduceSub, Int.reduceMul, Int.reduceEq, Int.reduceNeg, reduceCtorEq, resV, resAll, ARes.ev, LV.flat, ite_true, ite_false, exists_eq_left', exists_eq_left, keyOf, implies_true, fillC, capOf]
  cases f
  · simp (disch := omega) only [f3, f4, f5, f8, f9, f12, f16, f24, ↓SXd, SXu, slBounds, ↓sop, ↓aop, ↓reduceIte, LV.cells, AOp.dst, LV.I, LV.B, LV.U, LV.S, LV.nil, Nat.reduceEqDiff, Nat.reduceAdd, Nat.reduceMul, Nat.reduceSub, Nat.reduceLeDiff, Nat.reduceBEq, Nat.reduceDiv, Nat.reduceMod, Int.reduceToNat, Int.reduceLT, Int.reduceLE, Int.reduceAdd, Int.reduceSub, Int.reduceMul, Int.reduceEq, Int.reduceNeg, reduceCtorEq, resV, resAll, ARes.ev, LV.flat, ite_true, ite_false, exists_eq_left', exists_eq_left, keyOf, implies_true, fillC, capOf]
    rfl
  obtain ⟨hF, hG, hQ, hSp⟩ := hFt rfl

  subst hG
  have hF2 := hF.2
  rw [hE] at hF2
  have hp1' := shdPart_len hok
  rw [hE, ← hQ, ← hSp] at hp1'
  have w1 : ∀ c ∈ Q, c ∈ E := fun c hc => by rw [hQ] at hc; have := shdPart_sub hok hc; rw [hE] at this; exact this
  have w2 : ∀ c ∈ S, c ∈ E := fun c hc => by rw [hSp] at hc; have := shdPart_sub hok hc; rw [hE] at this; exact this
  have y1 : ∀ c ∈ Q, ¬ HasShd x y z tp ft sd (E.filter fun e => !decide (e = c)) := fun c hc hh => by
    rw [hQ] at hc
    rw [← hE] at hh
    exact Bool.noConfusion ((less_law hok hF.2 hc).1 hh)
  have y2 : ∀ c ∈ S, HasShd x y z tp ft sd (E.filter fun e => !decide (e = c)) := fun c hc => by
    rw [hSp] at hc
    have := (less_law hok hF.2 hc).2 rfl
    rw [hE] at this; exact this
  have hlen : ((E.length : Nat) : Int) = (Q.length : Nat) + (S.length : Nat) := by omega
  have hEl := hEok.len
  have hfo2 : ∀ c : Cell, HeapOK x y z (E.filter fun e => !decide (e = c)) := fun c => HeapOK.of hok.1 (hEok.sorted.filter _) fun d hd => hEok.mem (List.mem_filter.1 hd).1
  clear hFt hfo hQ hSp cf co cb2 cb1 cb0 hI
  simp only at B8f U8f
  simp (disch := omega) only [f3, f4, f5, f8, f9, f12, f16, f24, B8f.cells, ↓SXd, SXu, slBounds, ↓sop, ↓aop, ↓reduceIte, LV.cells, AOp.dst, LV.I, LV.B, LV.U, LV.S, LV.nil, Nat.reduceEqDiff, Nat.reduceAdd, Nat.reduceMul, Nat.reduceSub, Nat.reduceLeDiff, Nat.reduceBEq, Nat.reduceDiv, Nat.reduceMod, Int.reduceToNat, Int.reduceLT, Int.reduceLE, Int.reduceAdd, Int.reduceSub, Int.reduceMul, Int.reduceEq, Int.reduceNeg, reduceCtorEq, resV, resAll, ARes.ev, LV.flat, ite_true, ite_false, exists_eq_left', exists_eq_left, keyOf, implies_true, fillC, capOf]
  refine callR_of (g_ShadowsOf U8f.has hEok) ?_
  rintro _ N2 ⟨a42, b42, c42, rfl, i42a, i42b, i42c, hx2⟩
  rw [hF2.1] at i42a ⊢
  rw [hF2.2.1] at i42b ⊢
  rw [hF2.2.2] at i42c ⊢
  have B42 : Live (N2 ++ [some (.row [.I x, .I y, .I z, .ref a42 0 tp.length, .ref b42 0 ft.length, .ref c42 0 sd.length] true 0)]) N2.length (.row [.I x, .I y, .I z, .ref a42 0 tp.length, .ref b42 0 ft.length, .ref c42 0 sd.length] true 0) := Live.new
  have I42a := i42a.app (L := [some (.row [.I x, .I y, .I z, .ref a42 0 tp.length, .ref b42 0 ft.length, .ref c42 0 sd.length] true 0)])
  have I42b := i42b.app (L := [some (.row [.I x, .I y, .I z, .ref a42 0 tp.length, .ref b42 0 ft.length, .ref c42 0 sd.length] true 0)])
  have I42c := i42c.app (L := [some (.row [.I x, .I y, .I z, .ref a42 0 tp.length, .ref b42 0 ft.length, .ref c42 0 sd.length] true 0)])
  have q2 : Pre X1 (N2 ++ [some (.row [.I x, .I y, .I z, .ref a42 0 tp.length, .ref b42 0 ft.length, .ref c42 0 sd.length] true 0)]) := hx2.trans (Pre.app _ _)
  simp (disch := omega) only [f3, f4, f5, f8, f9, f12, f16, f24, splice, B42.cells, (B3f.pre q2).cells, Bool.not_true, ↓SXd, SXu, slBounds, ↓sop, ↓aop, ↓reduceIte, LV.cells, AOp.dst, LV.I, LV.B, LV.U, LV.S, LV.nil, Nat.reduceEqDiff, Nat.reduceAdd, Nat.reduceMul, Nat.reduceSub, Nat.reduceLeDiff, Nat.reduceBEq, Nat.reduceDiv, Nat.reduceMod, Int.reduceToNat, Int.reduceLT, Int.reduceLE, Int.reduceAdd, Int.reduceSub, Int.reduceMul, Int.reduceEq, Int.reduceNeg, reduceCtorEq, resV, resAll, ARes.ev, LV.flat, ite_true, ite_false, exists_eq_left', exists_eq_left, keyOf, implies_true, fillC, capOf]
  generalize N2.length = m42 at B42 ⊢
  generalize N2 ++ [some (Blk.row [.I x, .I y, .I z, .ref a42 0 tp.length, .ref b42 0 ft.length, .ref c42 0 sd.length] true 0)] = X2 at B42 I42a I42b I42c q2 ⊢
  replace B3f := B3f.pre q2
  replace Af := Af.pre q2
  replace Bf := Bf.pre q2
  replace Df := Df.pre q2
  replace B8f := B8f.pre q2
  replace U8f := U8f.pre q2
  replace LQ1f := LQ1f.pre q2
  replace LS1f := LS1f.pre q2
  refine callK_of (k_vShadow (tp := tp) (fr := ft) (sd := sd) (.inr ⟨_, _, rfl, I42a⟩) (.inr ⟨_, _, rfl, I42b⟩) (.inr ⟨_, _, rfl, I42c⟩) (.inr ⟨_, _, rfl, Af.has⟩) (.inr ⟨_, _, rfl, Bf.has⟩) (.inr ⟨_, _, rfl, Df.has⟩) (by omega) (by omega) (by omega) (by omega) (by omega) (by omega)) ?_
  rw [decide_eq_true (⟨rfl, rfl, rfl⟩ : tp = tp ∧ ft = ft ∧ sd = sd)]
  simp (disch := omega) only [f3, f4, f5, f8, f9, f12, f16, f24, Bool.not_true, B8f.cell, hlen, ↓SXd, SXu, slBounds, ↓sop, ↓aop, ↓reduceIte, LV.cells, AOp.dst, LV.I, LV.B, LV.U, LV.S, LV.nil, Nat.reduceEqDiff, Nat.reduceAdd, Nat.reduceMul, Nat.reduceSub, Nat.reduceLeDiff, Nat.reduceBEq, Nat.reduceDiv, Nat.reduceMod, Int.reduceToNat, Int.reduceLT, Int.reduceLE, Int.reduceAdd, Int.reduceSub, Int.reduceMul, Int.reduceEq, Int.reduceNeg, reduceCtorEq, resV, resAll, ARes.ev, LV.flat, ite_true, ite_false, exists_eq_left', exists_eq_left, keyOf, implies_true, fillC, capOf]
  refine callK_of (k_vWithin (l := Q) (l' := E) (CellsV.of LQ1f) (CellsV.of U8f.has) (by omega) (by omega) w1) ?_
  simp (disch := omega) only [f3, f4, f5, f8, f9, f12, f16, f24, Bool.not_true, B8f.cell, ↓SXd, SXu, slBounds, ↓sop, ↓aop, ↓reduceIte, LV.cells, AOp.dst, LV.I, LV.B, LV.U, LV.S, LV.nil, Nat.reduceEqDiff, Nat.reduceAdd, Nat.reduceMul, Nat.reduceSub, Nat.reduceLeDiff, Nat.reduceBEq, Nat.reduceDiv, Nat.reduceMod, Int.reduceToNat, Int.reduceLT, Int.reduceLE, Int.reduceAdd, Int.reduceSub, Int.reduceMul, Int.reduceEq, Int.reduceNeg, reduceCtorEq, resV, resAll, ARes.ev, LV.flat, ite_true, ite_false, exists_eq_left', exists_eq_left, keyOf, implies_true, fillC, capOf]
  refine callK_of (k_vWithin (l := S) (l' := E) (CellsV.of LS1f) (CellsV.of U8f.has) (by omega) (by omega) w2) ?_
  simp (disch := omega) only [f3, f4, f5, f8, f9, f12, f16, f24, Bool.not_true, ↓SXd, SXu, slBounds, ↓sop, ↓aop, ↓reduceIte, LV.cells, AOp.dst, LV.I, LV.B, LV.U, LV.S, LV.nil, Nat.reduceEqDiff, Nat.reduceAdd, Nat.reduceMul, Nat.reduceSub, Nat.reduceLeDiff, Nat.reduceBEq, Nat.reduceDiv, Nat.reduceMod, Int.reduceToNat, Int.reduceLT, Int.reduceLE, Int.reduceAdd, Int.reduceSub, Int.reduceMul, Int.reduceEq, Int.reduceNeg, reduceCtorEq, resV, resAll, ARes.ev, LV.flat, ite_true, ite_false, exists_eq_left', exists_eq_left, keyOf, implies_true, fillC, capOf]
  clear B24f I24af I24bf I24cf B42 I42a I42b I42c
  clear f4 f5 f9 f24
  refine ev_loop (fun m fr M' => ∃ k : Nat, k + m = S.length ∧ Pre X2 M' ∧ fr 3 = .ptr m3 0 ∧ fr 8 = .ptr m8 0 ∧ fr 12 = .ref vQ1 0 Q.length ∧ fr 16 = .ref vS1 0 S.length ∧ fr 44 = .I k) S.length
    ⟨0, by omega, Pre.refl _, f3, f8, f12, f16, rfl⟩ ?_
  clear f3 f8 f12 f16
  rintro m fr X3 ⟨k, hk, hX3, f3, f8, f12, f16, fi⟩
  simp (disch := omega) only [f3, f8, f12, f16, fi, ↓SXd, SXu, slBounds, ↓sop, ↓aop, ↓reduceIte, LV.cells, AOp.dst, LV.I, LV.B, LV.U, LV.S, LV.nil, Nat.reduceEqDiff, Nat.reduceAdd, Nat.reduceMul, Nat.reduceSub, Nat.reduceLeDiff, Nat.reduceBEq, Nat.reduceDiv, Nat.reduceMod, Int.reduceToNat, Int.reduceLT, Int.reduceLE, Int.reduceAdd, Int.reduceSub, Int.reduceMul, Int.reduceEq, Int.reduceNeg, reduceCtorEq, resV, resAll, ARes.ev, LV.flat, ite_true, ite_false, exists_eq_left', exists_eq_left, keyOf, implies_true, fillC, capOf]
  refine condC_dec (fun hlt => ?_) (fun hlt => ?_)
  · have hkl : k < S.length := by omega
    have B8g := B8f.pre hX3
    have B3g := B3f.pre hX3
    have U8g := U8f.pre hX3
    have Ag := Af.pre hX3
    have Bg := Bf.pre hX3
    have Dg := Df.pre hX3
    have hg := Tri.get (LS1f.pre hX3) hkl
    rw [Nat.zero_add] at hg
    have hmem : S.getD k default ∈ S := getD_mem' (d := default) hkl
    have hcE := w2 _ hmem
    have hlaw := y2 _ hmem
    generalize S.getD k default = c at hg hmem hcE hlaw
    simp (disch := omega) only [f3, f8, f12, f16, fi, B8g.cells, hg, Cell.row, Nat.mul_one, Nat.zero_add, ↓SXd, SXu, slBounds, ↓sop, ↓aop, ↓reduceIte, LV.cells, AOp.dst, LV.I, LV.B, LV.U, LV.S, LV.nil, Nat.reduceEqDiff, Nat.reduceAdd, Nat.reduceMul, Nat.reduceSub, Nat.reduceLeDiff, Nat.reduceBEq, Nat.reduceDiv, Nat.reduceMod, Int.reduceToNat, Int.reduceLT, Int.reduceLE, Int.reduceAdd, Int.reduceSub, Int.reduceMul, Int.reduceEq, Int.reduceNeg, reduceCtorEq, resV, resAll, ARes.ev, LV.flat, ite_true, ite_false, exists_eq_left', exists_eq_left, keyOf, implies_true, fillC, capOf]
    refine callR_of (g_TakeCube (U8g.app (L := [none])).has hEok hcE) ?_
    rintro _ N4 ⟨⟨u4, rfl, hu4, hul4⟩, hp4⟩
    simp only at hu4
    have hok4 := hfo2 c
    have hcl4 := hok4.len
    rw [List.length_append, List.length_singleton] at hul4
    have hN4l : X3.length < N4.length := by have := hp4.1; rw [List.length_append, List.length_singleton] at this; omega
    have hb : ∀ {t : Nat} {b : Blk}, Live X3 t b → Live (N4.set X3.length (some (.row [.I 0, .I 0, .I 0, .val (.slice none 0 0)] true 0))) t b := fun {t b} h => ((h.app (L := [none])).pre hp4).setN (by have := h.lt; omega)
    have hu5 := hu4.setN (k := X3.length) (v := some (.row [.I 0, .I 0, .I 0, .val (.slice none 0 0)] true 0)) (by omega)
    have k5 : Live (N4.set X3.length (some (.row [.I 0, .I 0, .I 0, .val (.slice none 0 0)] true 0))) X3.length (.row [.I 0, .I 0, .I 0, .val (.slice none 0 0)] true 0) := Live.set_at hN4l
    have hP5 : Pre X3 (N4.set X3.length (some (.row [.I 0, .I 0, .I 0, .val (.slice none 0 0)] true 0))) := ⟨by rw [List.length_set]; omega, fun u hu => by rw [List.getElem?_set_ne (by omega)]; exact ((Pre.app X3 [none]).trans hp4).2 u hu⟩
    simp (disch := omega) only [f3, f8, f12, f16, fi, ↓SXd, SXu, slBounds, ↓sop, ↓aop, ↓reduceIte, LV.cells, AOp.dst, LV.I, LV.B, LV.U, LV.S, LV.nil, Nat.reduceEqDiff, Nat.reduceAdd, Nat.reduceMul, Nat.reduceSub, Nat.reduceLeDiff, Nat.reduceBEq, Nat.reduceDiv, Nat.reduceMod, Int.reduceToNat, Int.reduceLT, Int.reduceLE, Int.reduceAdd, Int.reduceSub, Int.reduceMul, Int.reduceEq, Int.reduceNeg, reduceCtorEq, resV, resAll, ARes.ev, LV.flat, ite_true, ite_false, exists_eq_left', exists_eq_left, keyOf, implies_true, fillC, capOf]
    generalize N4.set X3.length (some (Blk.row [.I 0, .I 0, .I 0, .val (.slice none 0 0)] true 0)) = N5 at hb hu5 k5 hP5 ⊢
    refine memK_box k5 (by simp) fun N6 i1 i2 i3 => ?_
    have hP6 : Pre X3 N6 := pre_step hP5 (Nat.le_refl _) (j := 0) i1 i3
    have hu6 := live_step hu5 (by omega) i3
    simp (disch := omega) only [f3, f8, f12, f16, fi, i2.cells, (B3g.pre hP6).cells, ↓SXd, SXu, slBounds, ↓sop, ↓aop, ↓reduceIte, LV.cells, AOp.dst, LV.I, LV.B, LV.U, LV.S, LV.nil, Nat.reduceEqDiff, Nat.reduceAdd, Nat.reduceMul, Nat.reduceSub, Nat.reduceLeDiff, Nat.reduceBEq, Nat.reduceDiv, Nat.reduceMod, Int.reduceToNat, Int.reduceLT, Int.reduceLE, Int.reduceAdd, Int.reduceSub, Int.reduceMul, Int.reduceEq, Int.reduceNeg, reduceCtorEq, resV, resAll, ARes.ev, LV.flat, ite_true, ite_false, exists_eq_left', exists_eq_left, keyOf, implies_true, fillC, capOf]
    refine callR_of (g_sIsShadowOf (Ag.pre hP6).has (Bg.pre hP6).has (Dg.pre hP6).has k1 k2 k3 hu6.has (by omega)) ?_
    rintro _ X7 ⟨rfl, hp7⟩
    rw [show isShdOf x y z tp ft sd x y z (E.filter fun e => !decide (e = c)) = .tup [.B true, .B true] from by
      unfold isShdOf
      rw [decide_eq_true (⟨hok, hok4⟩ : ShdOK x y z tp ft sd ∧ HeapOK x y z (E.filter fun e => !decide (e = c))), decide_eq_true (⟨⟨hok, hok4⟩, ⟨rfl, rfl, rfl⟩, hlaw⟩ : (ShdOK x y z tp ft sd ∧ HeapOK x y z (E.filter fun e => !decide (e = c))) ∧ (x = x ∧ y = y ∧ z = z) ∧ HasShd x y z tp ft sd (E.filter fun e => !decide (e = c)))]]
    simp (disch := omega) only [f3, f8, f12, f16, fi, Bool.not_true, ↓SXd, SXu, slBounds, ↓sop, ↓aop, ↓reduceIte, LV.cells, AOp.dst, LV.I, LV.B, LV.U, LV.S, LV.nil, Nat.reduceEqDiff, Nat.reduceAdd, Nat.reduceMul, Nat.reduceSub, Nat.reduceLeDiff, Nat.reduceBEq, Nat.reduceDiv, Nat.reduceMod, Int.reduceToNat, Int.reduceLT, Int.reduceLE, Int.reduceAdd, Int.reduceSub, Int.reduceMul, Int.reduceEq, Int.reduceNeg, reduceCtorEq, resV, resAll, ARes.ev, LV.flat, ite_true, ite_false, exists_eq_left', exists_eq_left, keyOf, implies_true, fillC, capOf]
    exact ⟨m - 1, by omega, k + 1, by omega, hX3.trans (hP6.trans hp7), f3, f8, f12, f16, eqI (natI _)⟩
  · simp (disch := omega) only [f3, f8, f12, f16, fi, ↓SXd, SXu, slBounds, ↓sop, ↓aop, ↓reduceIte, LV.cells, AOp.dst, LV.I, LV.B, LV.U, LV.S, LV.nil, Nat.reduceEqDiff, Nat.reduceAdd, Nat.reduceMul, Nat.reduceSub, Nat.reduceLeDiff, Nat.reduceBEq, Nat.reduceDiv, Nat.reduceMod, Int.reduceToNat, Int.reduceLT, Int.reduceLE, Int.reduceAdd, Int.reduceSub, Int.reduceMul, Int.reduceEq, Int.reduceNeg, reduceCtorEq, resV, resAll, ARes.ev, LV.flat, ite_true, ite_false, exists_eq_left', exists_eq_left, keyOf, implies_true, fillC, capOf]
    refine ev_loop (fun m fr M' => ∃ k : Nat, k + m = Q.length ∧ Pre X2 M' ∧ fr 3 = .ptr m3 0 ∧ fr 8 = .ptr m8 0 ∧ fr 12 = .ref vQ1 0 Q.length ∧ fr 16 = .ref vS1 0 S.length ∧ fr 49 = .I k) Q.length
      ⟨0, by omega, hX3, f3, f8, f12, f16, rfl⟩ ?_
    clear f3 f8 f12 f16
    rintro m fr X4 ⟨k, hk, hX4, f3, f8, f12, f16, fi⟩
    simp (disch := omega) only [f3, f8, f12, f16, fi, ↓SXd, SXu, slBounds, ↓sop, ↓aop, ↓reduceIte, LV.cells, AOp.dst, LV.I, LV.B, LV.U, LV.S, LV.nil, Nat.reduceEqDiff, Nat.reduceAdd, Nat.reduceMul, Nat.reduceSub, Nat.reduceLeDiff, Nat.reduceBEq, Nat.reduceDiv, Nat.reduceMod, Int.reduceToNat, Int.reduceLT, Int.reduceLE, Int.reduceAdd, Int.reduceSub, Int.reduceMul, Int.reduceEq, Int.reduceNeg, reduceCtorEq, resV, resAll, ARes.ev, LV.flat, ite_true, ite_false, exists_eq_left', exists_eq_left, keyOf, implies_true, fillC, capOf]
    refine condC_dec (fun hlt => ?_) (fun hlt => ?_)
    · have hkl : k < Q.length := by omega
      have B8g := B8f.pre hX4
      have B3g := B3f.pre hX4
      have U8g := U8f.pre hX4
      have Ag := Af.pre hX4
      have Bg := Bf.pre hX4
      have Dg := Df.pre hX4
      have hg := Tri.get (LQ1f.pre hX4) hkl
      rw [Nat.zero_add] at hg
      have hmem : Q.getD k default ∈ Q := getD_mem' (d := default) hkl
      have hcE := w1 _ hmem
      have hlaw := y1 _ hmem
      generalize Q.getD k default = c at hg hmem hcE hlaw
      simp (disch := omega) only [f3, f8, f12, f16, fi, B8g.cells, hg, Cell.row, Nat.mul_one, Nat.zero_add, ↓SXd, SXu, slBounds, ↓sop, ↓aop, ↓reduceIte, LV.cells, AOp.dst, LV.I, LV.B, LV.U, LV.S, LV.nil, Nat.reduceEqDiff, Nat.reduceAdd, Nat.reduceMul, Nat.reduceSub, Nat.reduceLeDiff, Nat.reduceBEq, Nat.reduceDiv, Nat.reduceMod, Int.reduceToNat, Int.reduceLT, Int.reduceLE, Int.reduceAdd, Int.reduceSub, Int.reduceMul, Int.reduceEq, Int.reduceNeg, reduceCtorEq, resV, resAll, ARes.ev, LV.flat, ite_true, ite_false, exists_eq_left', exists_eq_left, keyOf, implies_true, fillC, capOf]
      refine callR_of (g_TakeCube (U8g.app (L := [none])).has hEok hcE) ?_
      rintro _ N4 ⟨⟨u4, rfl, hu4, hul4⟩, hp4⟩
      simp only at hu4
      have hok4 := hfo2 c
      have hcl4 := hok4.len
      rw [List.length_append, List.length_singleton] at hul4
      have hN4l : X4.length < N4.length := by have := hp4.1; rw [List.length_append, List.length_singleton] at this; omega
      have hb : ∀ {t : Nat} {b : Blk}, Live X4 t b → Live (N4.set X4.length (some (.row [.I 0, .I 0, .I 0, .val (.slice none 0 0)] true 0))) t b := fun {t b} h => ((h.app (L := [none])).pre hp4).setN (by have := h.lt; omega)
      have hu5 := hu4.setN (k := X4.length) (v := some (.row [.I 0, .I 0, .I 0, .val (.slice none 0 0)] true 0)) (by omega)
      have k5 : Live (N4.set X4.length (some (.row [.I 0, .I 0, .I 0, .val (.slice none 0 0)] true 0))) X4.length (.row [.I 0, .I 0, .I 0, .val (.slice none 0 0)] true 0) := Live.set_at hN4l
      have hP5 : Pre X4 (N4.set X4.length (some (.row [.I 0, .I 0, .I 0, .val (.slice none 0 0)] true 0))) := ⟨by rw [List.length_set]; omega, fun u hu => by rw [List.getElem?_set_ne (by omega)]; exact ((Pre.app X4 [none]).trans hp4).2 u hu⟩
      simp (disch := omega) only [f3, f8, f12, f16, fi, ↓SXd, SXu, slBounds, ↓sop, ↓aop, ↓reduceIte, LV.cells, AOp.dst, LV.I, LV.B, LV.U, LV.S, LV.nil, Nat.reduceEqDiff, Nat.reduceAdd, Nat.reduceMul, Nat.reduceSub, Nat.reduceLeDiff, Nat.reduceBEq, Nat.reduceDiv, Nat.reduceMod, Int.reduceToNat, Int.reduceLT, Int.reduceLE, Int.reduceAdd, Int.reduceSub, Int.reduceMul, Int.reduceEq, Int.reduceNeg, reduceCtorEq, resV, resAll, ARes.ev, LV.flat, ite_true, ite_false, exists_eq_left', exists_eq_left, keyOf, implies_true, fillC, capOf]
      generalize N4.set X4.length (some (Blk.row [.I 0, .I 0, .I 0, .val (.slice none 0 0)] true 0)) = N5 at hb hu5 k5 hP5 ⊢
      refine memK_box k5 (by simp) fun N6 i1 i2 i3 => ?_
      have hP6 : Pre X4 N6 := pre_step hP5 (Nat.le_refl _) (j := 0) i1 i3
      have hu6 := live_step hu5 (by omega) i3
      simp (disch := omega) only [f3, f8, f12, f16, fi, i2.cells, (B3g.pre hP6).cells, ↓SXd, SXu, slBounds, ↓sop, ↓aop, ↓reduceIte, LV.cells, AOp.dst, LV.I, LV.B, LV.U, LV.S, LV.nil, Nat.reduceEqDiff, Nat.reduceAdd, Nat.reduceMul, Nat.reduceSub, Nat.reduceLeDiff, Nat.reduceBEq, Nat.reduceDiv, Nat.reduceMod, Int.reduceToNat, Int.reduceLT, Int.reduceLE, Int.reduceAdd, Int.reduceSub, Int.reduceMul, Int.reduceEq, Int.reduceNeg, reduceCtorEq, resV, resAll, ARes.ev, LV.flat, ite_true, ite_false, exists_eq_left', exists_eq_left, keyOf, implies_true, fillC, capOf]
      refine callR_of (g_sIsShadowOf (Ag.pre hP6).has (Bg.pre hP6).has (Dg.pre hP6).has k1 k2 k3 hu6.has (by omega)) ?_
      rintro _ X7 ⟨rfl, hp7⟩
      rw [show isShdOf x y z tp ft sd x y z (E.filter fun e => !decide (e = c)) = .tup [.B false, .B true] from by
        unfold isShdOf
        rw [decide_eq_true (⟨hok, hok4⟩ : ShdOK x y z tp ft sd ∧ HeapOK x y z (E.filter fun e => !decide (e = c))), decide_eq_false (fun hh => hlaw hh.2.2 : ¬ ((ShdOK x y z tp ft sd ∧ HeapOK x y z (E.filter fun e => !decide (e = c))) ∧ (x = x ∧ y = y ∧ z = z) ∧ HasShd x y z tp ft sd (E.filter fun e => !decide (e = c))))]]
      simp (disch := omega) only [f3, f8, f12, f16, fi, Bool.not_true, ↓SXd, SXu, slBounds, ↓sop, ↓aop, ↓reduceIte, LV.cells, AOp.dst, LV.I, LV.B, LV.U, LV.S, LV.nil, Nat.reduceEqDiff, Nat.reduceAdd, Nat.reduceMul, Nat.reduceSub, Nat.reduceLeDiff, Nat.reduceBEq, Nat.reduceDiv, Nat.reduceMod, Int.reduceToNat, Int.reduceLT, Int.reduceLE, Int.reduceAdd, Int.reduceSub, Int.reduceMul, Int.reduceEq, Int.reduceNeg, reduceCtorEq, resV, resAll, ARes.ev, LV.flat, ite_true, ite_false, exists_eq_left', exists_eq_left, keyOf, implies_true, fillC, capOf]
      exact ⟨m - 1, by omega, k + 1, by omega, hX4.trans (hP6.trans hp7), f3, f8, f12, f16, eqI (natI _)⟩
    · simp (disch := omega) only [f3, f8, f12, f16, fi, ↓SXd, SXu, slBounds, ↓sop, ↓aop, ↓reduceIte, LV.cells, AOp.dst, LV.I, LV.B, LV.U, LV.S, LV.nil, Nat.reduceEqDiff, Nat.reduceAdd, Nat.reduceMul, Nat.reduceSub, Nat.reduceLeDiff, Nat.reduceBEq, Nat.reduceDiv, Nat.reduceMod, Int.reduceToNat, Int.reduceLT, Int.reduceLE, Int.reduceAdd, Int.reduceSub, Int.reduceMul, Int.reduceEq, Int.reduceNeg, reduceCtorEq, resV, resAll, ARes.ev, LV.flat, ite_true, ite_false, exists_eq_left', exists_eq_left, keyOf, implies_true, fillC, capOf]
      rfl
end Go.Ab

/- Bytes that came in, opened. -/
namespace Go.Ab
open Go Go.RowKit Go.Joins Go.ChangeShapes Go.WideShapes Go.Deep Go.WideElems Go.Maps

/-- What the abstract machine is told of a slice of bytes that came in. -/
def RowOfB (w : World) (a : Option Addr) (len cap : Nat) (xs : List Nat) : Prop :=
  xs.length = len ∧ len ≤ cap ∧ cap ≤ maxLen ∧ (∀ b ∈ xs, b ≤ 255) ∧ (cap = 0 ∨ ∃ b o c e fz, a = some ⟨b, o, none⟩ ∧ w.heap[b]? = some (.cells c e fz) ∧ ∀ i, i < len → c[o + i]? = some (.int .u8 ((xs.getD i 0 : Nat) : Int)))

section
variable {H : Type} {enc : TypeId × Value → H} {P : Program} {w : World} {held : Bool}
theorem open_bytesB {ts ti : TypeId} {fuel : Nat} {cs : List Value} {x : DataW H × List MemPlace} (hts : P.underlying ts = some (.slice ti)) (hti : P.underlying ti = some (.int .u8)) (hci : P.cellsOf ti = 1)
    (h : DataW.trod enc P w 0 (fun _ => true) held fuel ts cs = some x) : ∃ a len cap xs, cs = [.slice a len cap] ∧ RowOfB w a len cap xs := by
  rcases Go.ChangeShapes.open_ints hts hti hci h with ⟨rfl, _⟩ | ⟨a, len, cap, zs, rfl, _, hl, hm, hz, _, hel, hwf⟩
  · exact ⟨none, 0, 0, [], rfl, rfl, Nat.le_refl _, Nat.zero_le _, by simp, .inl rfl⟩
  · have hzl : zs.length = cap := by simpa using hz
    have hby : ∀ n ∈ zs, 0 ≤ n ∧ n ≤ 255 := fun n hn => by
      have h1 := hwf n hn
      unfold Lit.wf at h1
      rw [Bool.and_eq_true, decide_eq_true_iff, decide_eq_true_iff] at h1
      exact h1
    refine ⟨some a, len, cap, (zs.take len).map Int.toNat, rfl, by simp; omega, hl, hm, fun b hb => ?_, ?_⟩
    · obtain ⟨n, hn, rfl⟩ := List.mem_map.1 hb
      have := hby n (List.mem_of_mem_take hn)
      omega
    rcases Nat.eq_zero_or_pos cap with h0 | h0
    · exact .inl h0
    · refine .inr ?_
      have hc0 := hel 0 (by omega)
      obtain ⟨b, o, c, e, fz, ha, hh, _⟩ := cell_heap hc0
      have ha' : a = ⟨b, o, none⟩ := by simpa [Addr.add] using ha
      subst ha'
      refine ⟨b, o, c, e, fz, rfl, hh, fun i hi => ?_⟩
      have hcell := hel i (by omega)
      have hadd : (⟨b, o, none⟩ : Addr).add i = ⟨b, o + i, none⟩ := addr_add _ _ _
      rw [hadd] at hcell
      unfold World.cell? at hcell
      simp only [hh] at hcell
      have hil : i < zs.length := by omega
      have hbi := hby _ (getD_mem' (d := 0) hil)
      have hg : ((((zs.take len).map Int.toNat).getD i 0 : Nat) : Int) = zs.getD i 0 := by
        have e1 : ((zs.take len).map Int.toNat).getD i 0 = (zs.getD i 0).toNat := by simp [hi, hil]
        rw [e1]; omega
      rw [hg]
      simpa using hcell
end
theorem byL_get {bs : List Nat} {i : Nat} (h : i < bs.length) : (byL bs)[i]? = some (.val (.int .u8 ((bs.getD i 0 : Nat) : Int))) := by simp [byL, h]
/-- Bytes whose block has elements of one cell. -/
def BytesZ (M : Mem) (t o : Nat) (bs : List Nat) : Prop := Bytes M t o bs ∧ getEsz M t = some 1
theorem Inv.addBytesZ {G : Gh} {M : Mem} {w : World} (hi : Inv G M w) (hno : NoOwn M) {a : Option Addr} {len cap : Nat} {xs : List Nat} (h : RowOfB w a len cap xs) :
    ∃ (G' : Gh) (N : Mem) (t : Nat), Ext G G' ∧ Inv G' N w ∧ NoOwn N ∧ Pre M N ∧ VR1 G' (.ref t 0 len) (.slice a len cap) ∧ BytesZ N t 0 xs := by
  obtain ⟨h1, h2, h3, _, h4⟩ := h
  have key : ∃ G', Ext G G' ∧ Inv G' (M ++ [some (.row (byL xs) false 1)]) w ∧ NoOwn (M ++ [some (.row (byL xs) false 1)]) ∧ VR1 G' (.ref M.length 0 len) (.slice a len cap) := by
    refine hi.addRow hno h2 (by rw [byL_len]; omega) ?_
    rcases h4 with h0 | ⟨b, o, c, e, fz, ha, hh, hc⟩
    · refine .inl ⟨h0, ?_⟩
      have : xs = [] := List.eq_nil_of_length_eq_zero (by omega)
      rw [this]; rfl
    · refine .inr ⟨b, o, c, e, fz, ha, hh, fun j l hj => ?_⟩
      have hjl : j < xs.length := by
        rw [← byL_len]
        rcases Nat.lt_or_ge j (byL xs).length with h | h
        · exact h
        · rw [List.getElem?_eq_none h] at hj; cases hj
      rw [byL_get hjl] at hj
      cases hj
      exact ⟨_, hc j (by omega), rfl, rfl⟩
  obtain ⟨G', k1, k2, k3, k4⟩ := key
  exact ⟨G', _, _, k1, k2, k3, Pre.app _ _, k4, Has.new, by simp [getEsz]⟩
theorem RowOfB.le {w : World} {a : Option Addr} {len cap : Nat} {xs : List Nat} (h : RowOfB w a len cap xs) : xs.length ≤ 9223372036854775807 ∧ ∀ b ∈ xs, b ≤ 255 := by
  obtain ⟨h0, h1, h2, h3, _⟩ := h
  have := max63
  exact ⟨by omega, h3⟩
end Go.Ab
