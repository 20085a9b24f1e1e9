/- Parts of the proof of FnTurnsSaid: Dd2 De2 He Hl C_Hk K_Hk C_Hg K_Hg Hg C_Hi K_Hi C_Hh K_Hh C_Th K_Th C_Tg K_Tg C_Tf K_Tf C_Te K_Te Te Tf Tg Th C_Pe K_Pe C_Pc K_Pc C_Pb K_Pb Pa C_Nc K_Nc Nc Pb Oe Pc Pd Pe C_Wb K_Wb Va Wa C_Uk K_Uk C_Uj K_Uj C_Ui K_Ui Ui Uj Uk Wb Hh C_Tl K_Tl C_Tk K_Tk C_Tj K_Tj Tj Tk Tl Tt Hi C_Tr K_Tr C_Tp K_Tp C_Tn K_Tn C_Tm K_Tm Tm Tn Tp Tr C_Tq K_Tq Tq C_Tz K_Tz Tz. -/
import Derived.Test.YthgljdbfkojpeaaA7
import Derived.Test.YthgljdbfkojpeaaA4
import Derived.Test.YthgljdbfkojpeaaA5
import Derived.Test.YthgljdbfkojpeaaA3
import Derived.Test.YthgljdbfkojpeaaProg
import Derived.KernelRfl
import Derived.Test.YthgljdbfkojpeaaA6
set_option linter.all false
/- Contracts: h_l10Up. -/
namespace Go.Ab
open Go
set_option linter.unusedSimpArgs false
set_option linter.unusedVariables false
set_option maxRecDepth 20000

theorem h_l10Up {a b : Int} {M : Mem} (h1 : -1000 ≤ a ∧ a ≤ 1000) (h2 : -1000 ≤ b ∧ b ≤ 1000) : CallsTo PG F.spec_l10Up [.I a, .I b] M (.I (gap a b)) M := by
  refine calls_run K.spec_l10Up rfl ?_
  simp (disch := omega) only [C.spec_l10Up, ↓SXd, SXu, slBounds, ↓sop, ↓aop, ↓reduceIte, LV.cells, AOp.dst, LV.I, LV.B, LV.U, LV.S, LV.nil, Nat.reduceEqDiff, Nat.reduceAdd, Nat.reduceMul, Nat.reduceSub, Nat.reduceLeDiff, Nat.reduceBEq, Nat.reduceDiv, Nat.reduceMod, Int.reduceToNat, Int.reduceLT, Int.reduceLE, Int.reduceAdd, Int.reduceSub, Int.reduceMul, Int.reduceEq, Int.reduceNeg, reduceCtorEq, resV, resAll, ARes.ev, LV.flat, ite_true, ite_false, exists_eq_left', exists_eq_left, keyOf, implies_true, fillC, capOf]
  refine callK_of h_l1Most ?_
  simp (disch := omega) only [↓SXd, SXu, slBounds, ↓sop, ↓aop, ↓reduceIte, LV.cells, AOp.dst, LV.I, LV.B, LV.U, LV.S, LV.nil, Nat.reduceEqDiff, Nat.reduceAdd, Nat.reduceMul, Nat.reduceSub, Nat.reduceLeDiff, Nat.reduceBEq, Nat.reduceDiv, Nat.reduceMod, Int.reduceToNat, Int.reduceLT, Int.reduceLE, Int.reduceAdd, Int.reduceSub, Int.reduceMul, Int.reduceEq, Int.reduceNeg, reduceCtorEq, resV, resAll, ARes.ev, LV.flat, ite_true, ite_false, exists_eq_left', exists_eq_left, keyOf, implies_true, fillC, capOf]
  exact cmp_drop0 rfl
end Go.Ab

/- Contracts: h_l10Next. -/
namespace Go.Ab
open Go
set_option linter.unusedSimpArgs false
set_option linter.unusedVariables false
set_option maxRecDepth 20000

theorem h_l10Next {x y z p : Int} {v : LV} {M : Mem} (hS : Sides x y z) (hp : 0 ≤ p ∧ p ≤ x * y - 1) :
    CallsTo PG F.spec_l10Next [.agg [.I x, .I y, .I z, v], .I p] M (.ref M.length 0 (nexts x y p).length) (M ++ [some (.row (intL (nexts x y p)) true 1)]) := by
  have hb := mul_bound hS.1 hS.2.1
  obtain ⟨hx, hy, hz⟩ := hS
  have hdp := div_bound hy (p := p) (by omega)
  refine calls_run K.spec_l10Next rfl ?_
  simp (disch := omega) only [C.spec_l10Next, fillC, ↓SXd, SXu, slBounds, ↓sop, ↓aop, ↓reduceIte, LV.cells, AOp.dst, LV.I, LV.B, LV.U, LV.S, LV.nil, Nat.reduceEqDiff, Nat.reduceAdd, Nat.reduceMul, Nat.reduceSub, Nat.reduceLeDiff, Nat.reduceBEq, Nat.reduceDiv, Nat.reduceMod, Int.reduceToNat, Int.reduceLT, Int.reduceLE, Int.reduceAdd, Int.reduceSub, Int.reduceMul, Int.reduceEq, Int.reduceNeg, reduceCtorEq, resV, resAll, ARes.ev, LV.flat, ite_true, ite_false, exists_eq_left', exists_eq_left, keyOf, implies_true, fillC, capOf]

  refine ev_loop (fun m fr M' => ∃ (k t : Nat) (acc : List Int), k + m = (x * y).toNat ∧ Pre M M' ∧ Live M' M.length (.row [.I x, .I y, .I z, v] true 0) ∧ M.length < t ∧ Live M' t (.row (intL acc) true 1) ∧
    fr 1 = .I p ∧ fr 2 = .ptr M.length 0 ∧ fr 5 = .ref t 0 acc.length ∧ fr 6 = .I k ∧ acc = (nums k).filter (fun q => decide (apart (colOf y p) (colOf y q) = 1))) (x * y).toNat
    ⟨0, M.length + 1, [], by omega, Pre.app _ _, Live.new, by omega, Live.newj rfl, rfl, rfl, rfl, rfl, rfl⟩ ?_
  rintro m fr M' ⟨k, t, acc, hk, hpre, hbox, ht, hout, h1, h2, h5, h6, hacc⟩
  simp (disch := omega) only [h1, h2, h5, h6, hbox.cell, ↓SXd, SXu, slBounds, ↓sop, ↓aop, ↓reduceIte, LV.cells, AOp.dst, LV.I, LV.B, LV.U, LV.S, LV.nil, Nat.reduceEqDiff, Nat.reduceAdd, Nat.reduceMul, Nat.reduceSub, Nat.reduceLeDiff, Nat.reduceBEq, Nat.reduceDiv, Nat.reduceMod, Int.reduceToNat, Int.reduceLT, Int.reduceLE, Int.reduceAdd, Int.reduceSub, Int.reduceMul, Int.reduceEq, Int.reduceNeg, reduceCtorEq, resV, resAll, ARes.ev, LV.flat, ite_true, ite_false, exists_eq_left', exists_eq_left, keyOf, implies_true, fillC, capOf]
  refine condC_dec (fun hlt => ?_) (fun hlt => ?_)
  · have hdk := div_bound hy (p := (k : Int)) (by omega)
    have hal : acc.length ≤ 1000 := by
      rw [hacc]
      have := List.length_filter_le (fun q => decide (apart (colOf y p) (colOf y q) = 1)) (nums k)
      rw [nums_len] at this
      omega
    have hy0 : y ≠ 0 := by omega
    simp (disch := omega) only [h1, h2, h5, h6, hbox.cell, fillC, splice, hy0, not_false_eq_true, ne_eq, ↓SXd, SXu, slBounds, ↓sop, ↓aop, ↓reduceIte, LV.cells, AOp.dst, LV.I, LV.B, LV.U, LV.S, LV.nil, Nat.reduceEqDiff, Nat.reduceAdd, Nat.reduceMul, Nat.reduceSub, Nat.reduceLeDiff, Nat.reduceBEq, Nat.reduceDiv, Nat.reduceMod, Int.reduceToNat, Int.reduceLT, Int.reduceLE, Int.reduceAdd, Int.reduceSub, Int.reduceMul, Int.reduceEq, Int.reduceNeg, reduceCtorEq, resV, resAll, ARes.ev, LV.flat, ite_true, ite_false, exists_eq_left', exists_eq_left, keyOf, implies_true, fillC, capOf]
    refine callK_of (h_l2Apart (by omega) (by omega) (by omega) (by omega) (by omega) (by omega)) ?_
    simp (disch := omega) only [h1, h2, h5, h6, ↓SXd, SXu, slBounds, ↓sop, ↓aop, ↓reduceIte, LV.cells, AOp.dst, LV.I, LV.B, LV.U, LV.S, LV.nil, Nat.reduceEqDiff, Nat.reduceAdd, Nat.reduceMul, Nat.reduceSub, Nat.reduceLeDiff, Nat.reduceBEq, Nat.reduceDiv, Nat.reduceMod, Int.reduceToNat, Int.reduceLT, Int.reduceLE, Int.reduceAdd, Int.reduceSub, Int.reduceMul, Int.reduceEq, Int.reduceNeg, reduceCtorEq, resV, resAll, ARes.ev, LV.flat, ite_true, ite_false, exists_eq_left', exists_eq_left, keyOf, implies_true, fillC, capOf]
    refine condC_dec (fun he => ?_) (fun he => ?_)
    · simp (disch := omega) only [h1, h2, h5, h6, fillC, splice, ↓SXd, SXu, slBounds, ↓sop, ↓aop, ↓reduceIte, LV.cells, AOp.dst, LV.I, LV.B, LV.U, LV.S, LV.nil, Nat.reduceEqDiff, Nat.reduceAdd, Nat.reduceMul, Nat.reduceSub, Nat.reduceLeDiff, Nat.reduceBEq, Nat.reduceDiv, Nat.reduceMod, Int.reduceToNat, Int.reduceLT, Int.reduceLE, Int.reduceAdd, Int.reduceSub, Int.reduceMul, Int.reduceEq, Int.reduceNeg, reduceCtorEq, resV, resAll, ARes.ev, LV.flat, ite_true, ite_false, exists_eq_left', exists_eq_left, keyOf, implies_true, fillC, capOf]
      refine appendK_int hout (by omega) fun M'' l1 l2 l3 => ?_
      simp (disch := omega) only [h1, h2, h5, h6, ↓SXd, SXu, slBounds, ↓sop, ↓aop, ↓reduceIte, LV.cells, AOp.dst, LV.I, LV.B, LV.U, LV.S, LV.nil, Nat.reduceEqDiff, Nat.reduceAdd, Nat.reduceMul, Nat.reduceSub, Nat.reduceLeDiff, Nat.reduceBEq, Nat.reduceDiv, Nat.reduceMod, Int.reduceToNat, Int.reduceLT, Int.reduceLE, Int.reduceAdd, Int.reduceSub, Int.reduceMul, Int.reduceEq, Int.reduceNeg, reduceCtorEq, resV, resAll, ARes.ev, LV.flat, ite_true, ite_false, exists_eq_left', exists_eq_left, keyOf, implies_true, fillC, capOf]
      refine ⟨m - 1, by omega, k + 1, _, _, by omega, pre_step hpre (by omega) l1 l3, live_step hbox (by omega) l3, ?_, l2, h1, h2, rfl, eqI (natI _), ?_⟩
      · have := hpre.1; omega
      · rw [nums_succ, List.filter_append, ← hacc]
        congr 1
        rw [List.filter_cons_of_pos (by simpa [colOf] using he)]; rfl
    · simp (disch := omega) only [h1, h2, h5, h6, ↓SXd, SXu, slBounds, ↓sop, ↓aop, ↓reduceIte, LV.cells, AOp.dst, LV.I, LV.B, LV.U, LV.S, LV.nil, Nat.reduceEqDiff, Nat.reduceAdd, Nat.reduceMul, Nat.reduceSub, Nat.reduceLeDiff, Nat.reduceBEq, Nat.reduceDiv, Nat.reduceMod, Int.reduceToNat, Int.reduceLT, Int.reduceLE, Int.reduceAdd, Int.reduceSub, Int.reduceMul, Int.reduceEq, Int.reduceNeg, reduceCtorEq, resV, resAll, ARes.ev, LV.flat, ite_true, ite_false, exists_eq_left', exists_eq_left, keyOf, implies_true, fillC, capOf]
      refine ⟨m - 1, by omega, k + 1, t, acc, by omega, hpre, hbox, ht, hout, h1, h2, h5, eqI (natI _), ?_⟩
      rw [nums_succ, List.filter_append, ← hacc, List.filter_cons_of_neg (by simpa [colOf] using he)]; simp
  · simp (disch := omega) only [h1, h2, h5, h6, ↓SXd, SXu, slBounds, ↓sop, ↓aop, ↓reduceIte, LV.cells, AOp.dst, LV.I, LV.B, LV.U, LV.S, LV.nil, Nat.reduceEqDiff, Nat.reduceAdd, Nat.reduceMul, Nat.reduceSub, Nat.reduceLeDiff, Nat.reduceBEq, Nat.reduceDiv, Nat.reduceMod, Int.reduceToNat, Int.reduceLT, Int.reduceLE, Int.reduceAdd, Int.reduceSub, Int.reduceMul, Int.reduceEq, Int.reduceNeg, reduceCtorEq, resV, resAll, ARes.ev, LV.flat, ite_true, ite_false, exists_eq_left', exists_eq_left, keyOf, implies_true, fillC, capOf]
    have : k = (x * y).toNat := by omega
    subst this
    rw [show nexts x y p = acc from hacc.symm]
    exact cmp_keepL hpre (by omega) hout (intL_lo acc) (by simp [rn, rn0, rn1])
end Go.Ab

/- Contracts: what the laws of the walks draw. -/
namespace Go.Ab
open Go
set_option linter.unusedSimpArgs false
set_option linter.unusedVariables false
set_option maxRecDepth 20000

/-- A heap, valid or not, all of whose cells are new. -/
def HeapR (M : Mem) (v : LV) (N : Mem) : Prop := ∃ (x y z : Int) (cs : List Cell) (u : Nat) (ex : List Cell), v = .agg [.I x, .I y, .I z, .ref u 0 cs.length] ∧ Live N u (.row (triL (cs ++ ex)) true 3) ∧ M.length ≤ u ∧ cs.length ≤ 65
/-- The same, with nothing behind its cells. -/
def HeapE (M : Mem) (v : LV) (N : Mem) : Prop := ∃ (x y z : Int) (cs : List Cell) (u : Nat), v = .agg [.I x, .I y, .I z, .ref u 0 cs.length] ∧ Live N u (.row (triL cs) true 3) ∧ M.length ≤ u ∧ cs.length ≤ 65
theorem d_heapE {p t o a : Nat} {bs : List Nat} {M : Mem} (h : CurAt M p t o bs a) (ha : a ≤ 990000) : CallsR PG F.spec_l1Cur_heap [.ptr p 0] M fun v N => HeapE M v N ∧ DrawN M p t o bs (a + 160) N := by
  obtain ⟨⟨_, _, _, hpl'⟩, hB, _⟩ := id h
  have hpl := hpl'.lt
  have htM := hB.lt
  refine (d_heap h ha).den (e := 3) ?_
  rintro v N ⟨⟨x, y, z, w, cs, rfl, hs, hnw, hl⟩, hd⟩
  rcases hs with ⟨rfl, rfl⟩ | ⟨u, rfl, hu⟩
  · exact .inr ⟨.agg [.I x, .I y, .I z, .ref N.length 0 0], .inl (.inr ⟨_, _, rfl, rfl, .rfl, .rfl, .rfl, .nil, trivial⟩), ⟨x, y, z, [], N.length, rfl, Live.new, hd.2.1, by simp⟩, hd.keep hpl htM (Nat.le_refl _) (by simp) fun q q1 => List.getElem?_append_left (by have := hd.2.1; omega)⟩
  · refine .inl ⟨⟨x, y, z, cs, u, rfl, hu, ?_, hl⟩, hd⟩
    rcases Nat.lt_or_ge u M.length with h1 | h1
    · exact absurd rfl (hnw u h1)
    · exact h1
theorem DrawN.live {M N : Mem} {p t o a u : Nat} {bs : List Nat} {b : Blk} (hd : DrawN M p t o bs a N) (h : Live M u b) (hne : u ≠ p) : Live N u b := Live.at h (hd.2.2 u h.lt hne)
theorem DrawN.stay {M N : Mem} {p t o a q : Nat} {bs : List Nat} (hd : DrawN M p t o bs a N) (h : q < M.length) (hne : q ≠ p) : ∀ b : Blk, M[q]? = some (some b) → N[q]? = some (some b) := fun b hb => by rw [hd.2.2 q h hne]; exact hb
/-- Behind a draw of a reader that is new. -/
theorem DrawN.pre {M M0 N : Mem} {p t o a : Nat} {bs : List Nat} (hd : DrawN M p t o bs a N) (h : Pre M0 M) (hp : M0.length ≤ p) : Pre M0 N :=
  ⟨Nat.le_trans h.1 hd.2.1, fun q hq => by rw [hd.2.2 q (Nat.lt_of_lt_of_le hq h.1) (by omega)]; exact h.2 q hq⟩
theorem CurAt.new2 {t o : Nat} {bs : List Nat} {M : Mem} {b : Option Blk} (hB : Bytes M t o bs) (h255 : ∀ b ∈ bs, b ≤ 255) (hl : bs.length ≤ 1000000000) : CurAt (M ++ [b, some (.row [.ref t o bs.length, .I 0, .val (.int .u64 0)] true 0)]) (M.length + 1) t o bs 0 := by
  have := CurAt.new (M := M ++ [b]) (t := t) (o := o) (bs := bs) (Has.app hB) h255 hl
  rw [List.append_assoc, List.length_append] at this
  exact this
section
variable {p t o a : Nat} {bs : List Nat} {M : Mem}
end
section
variable {t o : Nat} {bs : List Nat} {M : Mem} (hB : Bytes M t o bs) (h255 : ∀ b ∈ bs, b ≤ 255) (hl : bs.length ≤ 1000000000)
include hB h255 hl
end
end Go.Ab

/- Contracts: what the law of turns draws. -/
namespace Go.Ab
open Go
set_option linter.unusedSimpArgs false
set_option linter.unusedVariables false
set_option maxRecDepth 20000

theorem d_turn {p t o a : Nat} {bs : List Nat} {M : Mem} (h : CurAt M p t o bs a) (ha : a ≤ 999900) : CallsR PG F.spec_l1Cur_turn [.ptr p 0] M fun v N => (∃ b : Int, v = .I b) ∧ DrawN M p t o bs (a + 4) N := by
  refine callsR_run K.spec_l1Cur_turn rfl ?_
  simp (disch := omega) only [C.spec_l1Cur_turn, ↓SXd, SXu, slBounds, ↓sop, ↓aop, ↓reduceIte, LV.cells, AOp.dst, LV.I, LV.B, LV.U, LV.S, LV.nil, Nat.reduceEqDiff, Nat.reduceAdd, Nat.reduceMul, Nat.reduceSub, Nat.reduceLeDiff, Nat.reduceBEq, Nat.reduceDiv, Nat.reduceMod, Int.reduceToNat, Int.reduceLT, Int.reduceLE, Int.reduceAdd, Int.reduceSub, Int.reduceMul, Int.reduceEq, Int.reduceNeg, reduceCtorEq, resV, resAll, ARes.ev, LV.flat, ite_true, ite_false, exists_eq_left', exists_eq_left, keyOf, implies_true, fillC, capOf]
  refine callR_of (d_one h (by omega)) ?_
  rintro _ N1 ⟨⟨b, rfl⟩, hd1⟩
  cases b
  · simp (disch := omega) only [↓SXd, SXu, slBounds, ↓sop, ↓aop, ↓reduceIte, LV.cells, AOp.dst, LV.I, LV.B, LV.U, LV.S, LV.nil, Nat.reduceEqDiff, Nat.reduceAdd, Nat.reduceMul, Nat.reduceSub, Nat.reduceLeDiff, Nat.reduceBEq, Nat.reduceDiv, Nat.reduceMod, Int.reduceToNat, Int.reduceLT, Int.reduceLE, Int.reduceAdd, Int.reduceSub, Int.reduceMul, Int.reduceEq, Int.reduceNeg, reduceCtorEq, resV, resAll, ARes.ev, LV.flat, ite_true, ite_false, exists_eq_left', exists_eq_left, keyOf, implies_true, fillC, capOf]
    refine callR_of (d_pick hd1.1 (by omega)) ?_
    rintro _ N2 ⟨⟨b, rfl, _⟩, hd2⟩
    simp (disch := omega) only [↓SXd, SXu, slBounds, ↓sop, ↓aop, ↓reduceIte, LV.cells, AOp.dst, LV.I, LV.B, LV.U, LV.S, LV.nil, Nat.reduceEqDiff, Nat.reduceAdd, Nat.reduceMul, Nat.reduceSub, Nat.reduceLeDiff, Nat.reduceBEq, Nat.reduceDiv, Nat.reduceMod, Int.reduceToNat, Int.reduceLT, Int.reduceLE, Int.reduceAdd, Int.reduceSub, Int.reduceMul, Int.reduceEq, Int.reduceNeg, reduceCtorEq, resV, resAll, ARes.ev, LV.flat, ite_true, ite_false, exists_eq_left', exists_eq_left, keyOf, implies_true, fillC, capOf]
    exact ⟨⟨_, rfl⟩, hd1.trans hd2⟩
  · simp (disch := omega) only [splice, ↓SXd, SXu, slBounds, ↓sop, ↓aop, ↓reduceIte, LV.cells, AOp.dst, LV.I, LV.B, LV.U, LV.S, LV.nil, Nat.reduceEqDiff, Nat.reduceAdd, Nat.reduceMul, Nat.reduceSub, Nat.reduceLeDiff, Nat.reduceBEq, Nat.reduceDiv, Nat.reduceMod, Int.reduceToNat, Int.reduceLT, Int.reduceLE, Int.reduceAdd, Int.reduceSub, Int.reduceMul, Int.reduceEq, Int.reduceNeg, reduceCtorEq, resV, resAll, ARes.ev, LV.flat, ite_true, ite_false, exists_eq_left', exists_eq_left, keyOf, implies_true, fillC, capOf]
    refine callR_of (d_amongNew (xs := [-1, 24, 4611686018427387904]) hd1.1 (by omega) (by simp) (by simp)) ?_
    rintro _ N2 ⟨⟨b, rfl, _⟩, hd2⟩
    simp (disch := omega) only [↓SXd, SXu, slBounds, ↓sop, ↓aop, ↓reduceIte, LV.cells, AOp.dst, LV.I, LV.B, LV.U, LV.S, LV.nil, Nat.reduceEqDiff, Nat.reduceAdd, Nat.reduceMul, Nat.reduceSub, Nat.reduceLeDiff, Nat.reduceBEq, Nat.reduceDiv, Nat.reduceMod, Int.reduceToNat, Int.reduceLT, Int.reduceLE, Int.reduceAdd, Int.reduceSub, Int.reduceMul, Int.reduceEq, Int.reduceNeg, reduceCtorEq, resV, resAll, ARes.ev, LV.flat, ite_true, ite_false, exists_eq_left', exists_eq_left, keyOf, implies_true, fillC, capOf]
    exact ⟨⟨_, rfl⟩, hd1.trans hd2⟩
section
variable {t o : Nat} {bs : List Nat} {M : Mem} (hB : Bytes M t o bs) (h255 : ∀ b ∈ bs, b ≤ 255) (hl : bs.length ≤ 1000000000)
include hB h255 hl
theorem d_DrawTurnHeap : CallsR PG F.spec_DrawTurnHeap [.ref t o bs.length] M fun v N => (∃ (hv : LV) (k : Int), v = .tup [hv, .I k] ∧ HeapE M hv N) ∧ Pre M N := by
  have htM := hB.lt
  refine callsR_run K.spec_DrawTurnHeap rfl ?_
  simp (disch := omega) only [C.spec_DrawTurnHeap, splice, ↓SXd, SXu, slBounds, ↓sop, ↓aop, ↓reduceIte, LV.cells, AOp.dst, LV.I, LV.B, LV.U, LV.S, LV.nil, Nat.reduceEqDiff, Nat.reduceAdd, Nat.reduceMul, Nat.reduceSub, Nat.reduceLeDiff, Nat.reduceBEq, Nat.reduceDiv, Nat.reduceMod, Int.reduceToNat, Int.reduceLT, Int.reduceLE, Int.reduceAdd, Int.reduceSub, Int.reduceMul, Int.reduceEq, Int.reduceNeg, reduceCtorEq, resV, resAll, ARes.ev, LV.flat, ite_true, ite_false, exists_eq_left', exists_eq_left, keyOf, implies_true, fillC, capOf]
  have hc := CurAt.new2 (b := some (.row [.I 0, .I 0, .I 0, .nil] true 0)) hB h255 hl
  refine callR_of (d_heapE hc (by omega)) ?_
  rintro _ N1 ⟨⟨x, y, z, cs, u, rfl, hu, hul, hcl⟩, hd1⟩
  rw [List.length_append] at hul
  simp only [List.length_cons, List.length_nil] at hul
  have b2 : Live N1 M.length (.row [.I 0, .I 0, .I 0, .nil] true 0) := hd1.live Live.new (by omega)
  have hP1 : Pre M N1 := hd1.pre (Pre.app _ _) (by omega)
  simp (disch := omega) only [splice, ↓SXd, SXu, slBounds, ↓sop, ↓aop, ↓reduceIte, LV.cells, AOp.dst, LV.I, LV.B, LV.U, LV.S, LV.nil, Nat.reduceEqDiff, Nat.reduceAdd, Nat.reduceMul, Nat.reduceSub, Nat.reduceLeDiff, Nat.reduceBEq, Nat.reduceDiv, Nat.reduceMod, Int.reduceToNat, Int.reduceLT, Int.reduceLE, Int.reduceAdd, Int.reduceSub, Int.reduceMul, Int.reduceEq, Int.reduceNeg, reduceCtorEq, resV, resAll, ARes.ev, LV.flat, ite_true, ite_false, exists_eq_left', exists_eq_left, keyOf, implies_true, fillC, capOf]
  refine callR_of (d_turn hd1.1 (by omega)) ?_
  rintro _ N4 ⟨⟨k, rfl⟩, hD⟩
  have e2 : Live N4 M.length (.row [.I 0, .I 0, .I 0, .nil] true 0) := hD.live b2 (by omega)
  have eu : Live N4 u (.row (triL cs) true 3) := hD.live hu (by omega)
  have hP4 : Pre M N4 := hD.pre hP1 (by omega)
  have e2l := e2.lt
  simp (disch := omega) only [↓SXd, SXu, slBounds, ↓sop, ↓aop, ↓reduceIte, LV.cells, AOp.dst, LV.I, LV.B, LV.U, LV.S, LV.nil, Nat.reduceEqDiff, Nat.reduceAdd, Nat.reduceMul, Nat.reduceSub, Nat.reduceLeDiff, Nat.reduceBEq, Nat.reduceDiv, Nat.reduceMod, Int.reduceToNat, Int.reduceLT, Int.reduceLE, Int.reduceAdd, Int.reduceSub, Int.reduceMul, Int.reduceEq, Int.reduceNeg, reduceCtorEq, resV, resAll, ARes.ev, LV.flat, ite_true, ite_false, exists_eq_left', exists_eq_left, keyOf, implies_true, fillC, capOf]
  refine memK_box e2 (by simp) fun N5 i1 i2 i3 => ?_
  simp (disch := omega) only [i2.cells, ↓SXd, SXu, slBounds, ↓sop, ↓aop, ↓reduceIte, LV.cells, AOp.dst, LV.I, LV.B, LV.U, LV.S, LV.nil, Nat.reduceEqDiff, Nat.reduceAdd, Nat.reduceMul, Nat.reduceSub, Nat.reduceLeDiff, Nat.reduceBEq, Nat.reduceDiv, Nat.reduceMod, Int.reduceToNat, Int.reduceLT, Int.reduceLE, Int.reduceAdd, Int.reduceSub, Int.reduceMul, Int.reduceEq, Int.reduceNeg, reduceCtorEq, resV, resAll, ARes.ev, LV.flat, ite_true, ite_false, exists_eq_left', exists_eq_left, keyOf, implies_true, fillC, capOf]
  exact ⟨⟨_, k, rfl, x, y, z, cs, u, rfl, live_step eu (by omega) i3, by omega, hcl⟩, pre_step hP4 (by omega) (j := 0) i1 i3⟩
theorem d_DrawTurnBehind : CallsR PG F.spec_DrawTurnBehind [.ref t o bs.length] M fun v N => (∃ p q : Int, v = .tup [.I p, .I q]) ∧ Pre M N := by
  have htM := hB.lt
  refine callsR_run K.spec_DrawTurnBehind rfl ?_
  simp (disch := omega) only [C.spec_DrawTurnBehind, splice, ↓SXd, SXu, slBounds, ↓sop, ↓aop, ↓reduceIte, LV.cells, AOp.dst, LV.I, LV.B, LV.U, LV.S, LV.nil, Nat.reduceEqDiff, Nat.reduceAdd, Nat.reduceMul, Nat.reduceSub, Nat.reduceLeDiff, Nat.reduceBEq, Nat.reduceDiv, Nat.reduceMod, Int.reduceToNat, Int.reduceLT, Int.reduceLE, Int.reduceAdd, Int.reduceSub, Int.reduceMul, Int.reduceEq, Int.reduceNeg, reduceCtorEq, resV, resAll, ARes.ev, LV.flat, ite_true, ite_false, exists_eq_left', exists_eq_left, keyOf, implies_true, fillC, capOf]
  refine callR_of (d_turn (CurAt.new hB h255 hl) (by omega)) ?_
  rintro _ N1 ⟨⟨p, rfl⟩, hd1⟩
  simp (disch := omega) only [↓SXd, SXu, slBounds, ↓sop, ↓aop, ↓reduceIte, LV.cells, AOp.dst, LV.I, LV.B, LV.U, LV.S, LV.nil, Nat.reduceEqDiff, Nat.reduceAdd, Nat.reduceMul, Nat.reduceSub, Nat.reduceLeDiff, Nat.reduceBEq, Nat.reduceDiv, Nat.reduceMod, Int.reduceToNat, Int.reduceLT, Int.reduceLE, Int.reduceAdd, Int.reduceSub, Int.reduceMul, Int.reduceEq, Int.reduceNeg, reduceCtorEq, resV, resAll, ARes.ev, LV.flat, ite_true, ite_false, exists_eq_left', exists_eq_left, keyOf, implies_true, fillC, capOf]
  refine callR_of (d_turn hd1.1 (by omega)) ?_
  rintro _ N2 ⟨⟨q, rfl⟩, hd2⟩
  simp (disch := omega) only [↓SXd, SXu, slBounds, ↓sop, ↓aop, ↓reduceIte, LV.cells, AOp.dst, LV.I, LV.B, LV.U, LV.S, LV.nil, Nat.reduceEqDiff, Nat.reduceAdd, Nat.reduceMul, Nat.reduceSub, Nat.reduceLeDiff, Nat.reduceBEq, Nat.reduceDiv, Nat.reduceMod, Int.reduceToNat, Int.reduceLT, Int.reduceLE, Int.reduceAdd, Int.reduceSub, Int.reduceMul, Int.reduceEq, Int.reduceNeg, reduceCtorEq, resV, resAll, ARes.ev, LV.flat, ite_true, ite_false, exists_eq_left', exists_eq_left, keyOf, implies_true, fillC, capOf]
  exact ⟨⟨p, q, rfl⟩, (hd1.trans hd2).pre (Pre.app _ _) (Nat.le_refl _)⟩
theorem d_DrawTurnBack : CallsR PG F.spec_DrawTurnBack [.ref t o bs.length] M fun v N => (∃ p : Int, v = .I p) ∧ Pre M N := by
  have htM := hB.lt
  refine callsR_run K.spec_DrawTurnBack rfl ?_
  simp (disch := omega) only [C.spec_DrawTurnBack, splice, ↓SXd, SXu, slBounds, ↓sop, ↓aop, ↓reduceIte, LV.cells, AOp.dst, LV.I, LV.B, LV.U, LV.S, LV.nil, Nat.reduceEqDiff, Nat.reduceAdd, Nat.reduceMul, Nat.reduceSub, Nat.reduceLeDiff, Nat.reduceBEq, Nat.reduceDiv, Nat.reduceMod, Int.reduceToNat, Int.reduceLT, Int.reduceLE, Int.reduceAdd, Int.reduceSub, Int.reduceMul, Int.reduceEq, Int.reduceNeg, reduceCtorEq, resV, resAll, ARes.ev, LV.flat, ite_true, ite_false, exists_eq_left', exists_eq_left, keyOf, implies_true, fillC, capOf]
  refine callR_of (d_turn (CurAt.new hB h255 hl) (by omega)) ?_
  rintro _ N1 ⟨⟨p, rfl⟩, hd1⟩
  simp (disch := omega) only [↓SXd, SXu, slBounds, ↓sop, ↓aop, ↓reduceIte, LV.cells, AOp.dst, LV.I, LV.B, LV.U, LV.S, LV.nil, Nat.reduceEqDiff, Nat.reduceAdd, Nat.reduceMul, Nat.reduceSub, Nat.reduceLeDiff, Nat.reduceBEq, Nat.reduceDiv, Nat.reduceMod, Int.reduceToNat, Int.reduceLT, Int.reduceLE, Int.reduceAdd, Int.reduceSub, Int.reduceMul, Int.reduceEq, Int.reduceNeg, reduceCtorEq, resV, resAll, ARes.ev, LV.flat, ite_true, ite_false, exists_eq_left', exists_eq_left, keyOf, implies_true, fillC, capOf]
  exact ⟨⟨p, rfl⟩, hd1.pre (Pre.app _ _) (Nat.le_refl _)⟩
end
end Go.Ab

/- The abstract code of some functions (written by a program of mine from the translation, by way of prepF). -/
namespace Go.Ab.C
open Go.Ab
def laws_rCells : AFn :=
  ⟨2, 26, [.tmp 4],
    .seq (.ops [(none, .mv 4 (.c (.B false)))])
    (.seq (.seq (.ops [(none, .mv 6 (.t 0)),
         (none, .len 7 (.t 6)),
         (none, .mv 8 (.t 1)),
         (none, .len 9 (.t 8)),
         (none, .bin 10 .neq (.t 7) (.t 9))])
      (.cond (.t 10) (.seq (.ops [(none, .mv 4 (.c (.B false)))])
        (.ret))
       (.skip)))
     (.seq (.seq (.ops [(none, .mv 5 (.c (.I 0)))])
       (.block 0 (.loop (.seq (.seq (.ops [(none, .mv 11 (.t 5)),
              (none, .mv 12 (.t 0)),
              (none, .len 13 (.t 12)),
              (none, .bin 14 .lss (.t 11) (.t 13))])
           (.cond (.t 14) (.skip)
            (.exit 0)))
          (.seq (.block 1 (.seq (.draw [⟨(none, .mv 17 (.t 0)), [], []⟩,
                ⟨(none, .mv 18 (.t 5)), [], []⟩,
                ⟨(none, .idxS 19 3 (.t 17) (.t 18)), [], []⟩,
                ⟨(none, .loadN 20 3 (.t 19)), [], []⟩,
                ⟨(none, .mv 21 (.t 1)), [], []⟩,
                ⟨(none, .mv 22 (.t 5)), [], []⟩,
                ⟨(none, .idxS 23 3 (.t 21) (.t 22)), [], []⟩,
                ⟨(none, .loadN 24 3 (.t 23)), [], []⟩,
                ⟨(none, .eqs 25 true 3 (.t 20) (.t 24)), [], []⟩])
             (.cond (.t 25) (.seq (.ops [(none, .mv 4 (.c (.B false)))])
               (.ret))
              (.skip))))
           (.ops [(none, .mv 15 (.t 5)),
              (none, .bin 16 .add (.t 15) (.c (.I 1))),
              (none, .mv 5 (.t 16))]))))))
      (.seq (.ops [(none, .mv 4 (.c (.B true)))])
       (.ret))))⟩
def laws_rHeap : AFn :=
  ⟨2, 31, [.tmp 4],
    .seq (.ops [(none, .box 2 (.t 0)),
       (none, .box 3 (.t 1)),
       (none, .mv 4 (.c (.B false)))])
    (.seq (.ops [(none, .fieldAddr 5 (.t 2) 0),
        (none, .load1 6 (.t 5)),
        (none, .fieldAddr 7 (.t 3) 0),
        (none, .load1 8 (.t 7)),
        (none, .bin 9 .eql (.t 6) (.t 8)),
        (none, .mv 10 (.t 9)),
        (some (10, true), .fieldAddr 11 (.t 2) 1),
        (some (10, true), .load1 12 (.t 11)),
        (some (10, true), .fieldAddr 13 (.t 3) 1),
        (some (10, true), .load1 14 (.t 13)),
        (some (10, true), .bin 15 .eql (.t 12) (.t 14)),
        (none, .pick 16 (.t 10) (.t 15) (.c (.B false))),
        (none, .mv 17 (.t 16)),
        (some (17, true), .fieldAddr 18 (.t 2) 2),
        (some (17, true), .load1 19 (.t 18)),
        (some (17, true), .fieldAddr 20 (.t 3) 2),
        (some (17, true), .load1 21 (.t 20)),
        (some (17, true), .bin 22 .eql (.t 19) (.t 21)),
        (none, .pick 23 (.t 17) (.t 22) (.c (.B false))),
        (none, .mv 24 (.t 23)),
        (some (24, true), .fieldAddr 25 (.t 2) 3),
        (some (24, true), .load1 26 (.t 25)),
        (some (24, true), .fieldAddr 27 (.t 3) 3),
        (some (24, true), .load1 28 (.t 27)),
        (some (24, true), .call (some 29) F.laws_rCells [(.t 26), (.t 28)]),
        (none, .pick 30 (.t 24) (.t 29) (.c (.B false))),
        (none, .mv 4 (.t 30))])
     (.ret))⟩
def impl_TurnHeap : AFn :=
  ⟨2, 21, [.cellN 4 4, .tmp 5],
    .seq (.ops [(none, .box 2 (.t 0)),
       (none, .alloc 4 [(.I 0), (.I 0), (.I 0), .nil]),
       (none, .mv 5 (.c (.B false)))])
    (.seq (.seq (.ops [(none, .loadN 6 4 (.t 2)),
         (none, .call (some 7) F.impl_IsHeap [(.t 6)]),
         (none, .un 8 .not (.t 7)),
         (none, .mv 9 (.t 8)),
         (some (9, false), .mv 10 (.t 1)),
         (some (9, false), .call (some 11) F.impl_isTurn [(.t 10)]),
         (some (9, false), .un 12 .not (.t 11)),
         (none, .pick 13 (.t 9) (.c (.B true)) (.t 12))])
      (.cond (.t 13) (.seq (.ops [(none, .build 14 [(.I 0), (.I 0), (.I 0), .nil] []),
           (none, .store 4 (.t 4) (.t 14)),
           (none, .mv 5 (.c (.B false)))])
        (.ret))
       (.skip)))
     (.seq (.draw [⟨(none, .mv 16 (.t 1)), [], []⟩,
         ⟨(none, .loadN 19 4 (.t 2)), [], []⟩,
         ⟨(none, .call (some 15) F.impl_turnings []), [], [0, 1]⟩,
         ⟨(none, .idxS 17 6 (.t 15) (.t 16)), [], []⟩,
         ⟨(none, .loadN 18 6 (.t 17)), [], []⟩,
         ⟨(none, .call (some 20) F.impl_turning_of [(.t 18), (.t 19)]), [], []⟩,
         ⟨(none, .store 4 (.t 4) (.t 20)), [], []⟩,
         ⟨(none, .mv 5 (.c (.B true))), [], []⟩])
      (.ret)))⟩
end Go.Ab.C

/- That the program has this code. -/
namespace Go.Ab.K
open Go Go.Ab
theorem laws_rCells : prepF Go.Proofs.Try.prog F.laws_rCells = some C.laws_rCells := by kernel_rfl
theorem laws_rHeap : prepF Go.Proofs.Try.prog F.laws_rHeap = some C.laws_rHeap := by kernel_rfl
theorem impl_TurnHeap : prepF Go.Proofs.Try.prog F.impl_TurnHeap = some C.impl_TurnHeap := by kernel_rfl
end Go.Ab.K

/- The abstract code of some functions (written by a program of mine from the translation, by way of prepF). -/
namespace Go.Ab.C
open Go.Ab
def laws_rBig : AFn :=
  ⟨1, 6, [.tmp 2],
    .seq (.ops [(none, .mv 2 (.c (.B false)))])
    (.seq (.ops [(none, .mv 3 (.t 0)),
        (none, .len 4 (.t 3)),
        (none, .bin 5 .gtr (.t 4) (.c (.I 65536))),
        (none, .mv 2 (.t 5))])
     (.ret))⟩
end Go.Ab.C

/- That the program has this code. -/
namespace Go.Ab.K
open Go Go.Ab
theorem laws_rBig : prepF Go.Proofs.Try.prog F.laws_rBig = some C.laws_rBig := by kernel_rfl
end Go.Ab.K

/- Contracts: the laws' helpers on lists of numbers; cuts at an if. -/
namespace Go.Ab
open Go
set_option linter.unusedSimpArgs false
set_option linter.unusedVariables false
set_option maxRecDepth 20000

/-- An if, and then the rest: the rest is shown once. -/
theorem cond_cut {P : Program} {v : LV} {a b c : ACode} {fr : Fr} {M : Mem} {Q : AExit → Fr → Mem → Prop} (I : Fr → Mem → Prop) (h : condC v P a b fr M (thenK I Q)) (hb : ∀ fr M, I fr M → EvC P c fr M Q) : condC v P a b fr M (seqK P c Q) := by
  have hm : ∀ e fr M, thenK I Q e fr M → seqK P c Q e fr M := fun e fr M hh => by
    cases e with
    | normal => exact hb _ _ hh
    | exit i => exact hh
    | ret => exact hh
  have key : ∀ {A A' B B' : Prop}, (A → A') → (B → B') → condV v A B → condV v A' B' := fun {A A' B B'} h1 h2 h => by
    unfold condV at *
    split
    · exact ⟨fun e => h1 (h.1 e), fun e => h2 (h.2 e)⟩
    · rename_i hne
      split at h
      · exact (hne _ rfl).elim
      · exact h
  exact key (evc_mono hm) (evc_mono hm) h
theorem k_rBig {t o : Nat} {n : Nat} {M : Mem} (hn : n ≤ 9223372036854775807) : CallsTo PG F.laws_rBig [.ref t o n] M (.B (decide ((65536 : Int) < n))) M := by
  refine calls_run K.laws_rBig rfl ?_
  simp (disch := omega) only [C.laws_rBig, ↓SXd, SXu, slBounds, ↓sop, ↓aop, ↓reduceIte, LV.cells, AOp.dst, LV.I, LV.B, LV.U, LV.S, LV.nil, Nat.reduceEqDiff, Nat.reduceAdd, Nat.reduceMul, Nat.reduceSub, Nat.reduceLeDiff, Nat.reduceBEq, Nat.reduceDiv, Nat.reduceMod, Int.reduceToNat, Int.reduceLT, Int.reduceLE, Int.reduceAdd, Int.reduceSub, Int.reduceMul, Int.reduceEq, Int.reduceNeg, reduceCtorEq, resV, resAll, ARes.ev, LV.flat, ite_true, ite_false, exists_eq_left', exists_eq_left, keyOf, implies_true, fillC, capOf]
  exact cmp_drop0 rfl
theorem IntsV.lenV {N : Mem} {v : LV} {l : List Int} (h : IntsV N v l) : lenV v = some (l.length : Int) := by
  rcases h with ⟨rfl, rfl⟩ | ⟨t, o, rfl, _⟩ <;> rfl
theorem IntsV.at {N : Mem} {v : LV} {l : List Int} {k : Nat} (h : IntsV N v l) (hk : k < l.length) : ∃ t o, v = .ref t o l.length ∧ getCell N t (o + k) = some (.I (l.getD k 0)) := by
  rcases h with ⟨rfl, rfl⟩ | ⟨t, o, rfl, h⟩
  · simp at hk
  · exact ⟨t, o, rfl, Ints.get h hk⟩
end Go.Ab

/- The abstract code of some functions (written by a program of mine from the translation, by way of prepF). -/
namespace Go.Ab.C
open Go.Ab
def spec_l8Number : AFn :=
  ⟨1, 5, [.tmp 2],
    .seq (.ops [(none, .mv 2 (.c (.B false)))])
    (.seq (.ops [(none, .mv 3 (.t 0)),
        (none, .call (some 4) F.spec_l1In [(.t 3), (.c (.I 0)), (.c (.I 23))]),
        (none, .mv 2 (.t 4))])
     (.ret))⟩
def spec_TurnHeap : AFn :=
  ⟨2, 21, [.cellN 4 4, .tmp 5],
    .seq (.ops [(none, .box 2 (.t 0)),
       (none, .alloc 4 [(.I 0), (.I 0), (.I 0), .nil]),
       (none, .mv 5 (.c (.B false)))])
    (.seq (.seq (.ops [(none, .loadN 6 4 (.t 2)),
         (none, .call (some 7) F.spec_l2Heap [(.t 6)]),
         (none, .un 8 .not (.t 7)),
         (none, .mv 9 (.t 8)),
         (some (9, false), .mv 10 (.t 1)),
         (some (9, false), .call (some 11) F.spec_l8Number [(.t 10)]),
         (some (9, false), .un 12 .not (.t 11)),
         (none, .pick 13 (.t 9) (.c (.B true)) (.t 12))])
      (.cond (.t 13) (.seq (.ops [(none, .build 14 [(.I 0), (.I 0), (.I 0), .nil] []),
           (none, .store 4 (.t 4) (.t 14)),
           (none, .mv 5 (.c (.B false)))])
        (.ret))
       (.skip)))
     (.seq (.draw [⟨(none, .loadN 15 4 (.t 2)), [], []⟩,
         ⟨(none, .mv 17 (.t 1)), [], []⟩,
         ⟨(none, .call (some 16) F.spec_l8Turns []), [], [0, 1]⟩,
         ⟨(none, .idxS 18 6 (.t 16) (.t 17)), [], []⟩,
         ⟨(none, .loadN 19 6 (.t 18)), [], []⟩,
         ⟨(none, .call (some 20) F.spec_l8Made [(.t 15), (.t 19)]), [], []⟩,
         ⟨(none, .store 4 (.t 4) (.t 20)), [], []⟩,
         ⟨(none, .mv 5 (.c (.B true))), [], []⟩])
      (.ret)))⟩
end Go.Ab.C

/- That the program has this code. -/
namespace Go.Ab.K
open Go Go.Ab
theorem spec_l8Number : prepF Go.Proofs.Try.prog F.spec_l8Number = some C.spec_l8Number := by kernel_rfl
theorem spec_TurnHeap : prepF Go.Proofs.Try.prog F.spec_TurnHeap = some C.spec_TurnHeap := by kernel_rfl
end Go.Ab.K

/- The abstract code of some functions (written by a program of mine from the translation, by way of prepF). -/
namespace Go.Ab.C
open Go.Ab
end Go.Ab.C

/- That the program has this code. -/
namespace Go.Ab.K
open Go Go.Ab
end Go.Ab.K

/- The abstract code of some functions (written by a program of mine from the translation, by way of prepF). -/
namespace Go.Ab.C
open Go.Ab
end Go.Ab.C

/- That the program has this code. -/
namespace Go.Ab.K
open Go Go.Ab
end Go.Ab.K

/- The abstract code of some functions (written by a program of mine from the translation, by way of prepF). -/
namespace Go.Ab.C
open Go.Ab
end Go.Ab.C

/- That the program has this code. -/
namespace Go.Ab.K
open Go Go.Ab
end Go.Ab.K

/- The abstract code of some functions (written by a program of mine from the translation, by way of prepF). -/
namespace Go.Ab.C
open Go.Ab
end Go.Ab.C

/- That the program has this code. -/
namespace Go.Ab.K
open Go Go.Ab
end Go.Ab.K

/- The abstract code of some functions (written by a program of mine from the translation, by way of prepF). -/
namespace Go.Ab.C
open Go.Ab
end Go.Ab.C

/- That the program has this code. -/
namespace Go.Ab.K
open Go Go.Ab
end Go.Ab.K

/- Contracts: the reference's order of heaps, and first forms. -/
namespace Go.Ab
open Go
set_option linter.unusedSimpArgs false
set_option linter.unusedVariables false

def lexC : List Cell → List Cell → Bool
  | _, [] => false
  | [], _ :: _ => true
  | a :: l, b :: m => if a = b then lexC l m else decide (a.lt b)
def Hp.dims (h : Hp) : Cell := ⟨h.x, h.y, h.z⟩
def lessHp (g h : Hp) : Bool := if g.dims = h.dims then lexC g.cs h.cs else decide (g.dims.lt h.dims)
theorem beq3 {a b : Cell} : (a.a == b.a && (a.b == b.b && a.c == b.c)) = decide (a = b) := by
  rw [Bool.eq_iff_iff, decide_eq_true_iff, cell_eq]
  simp only [Bool.and_eq_true, beq_iff_eq]
end Go.Ab

/- Contracts: the reference's first forms. -/
namespace Go.Ab
open Go
set_option linter.unusedSimpArgs false
set_option linter.unusedVariables false

def bestH (b : Hp) (l : List Hp) : Hp := l.foldl (fun b n => if lessHp n b then n else b) b
/-- The positions of a heap: it is turned, and put into the least box. -/
def posHp (x y z : Int) (cs : List Cell) (T : Turn) : Hp := cropHp (turnHp x y z T cs).cs
def formHp (x y z : Int) (cs : List Cell) : Hp := bestH (cropHp cs) (turns.map (posHp x y z cs))
theorem Live.six {N : Mem} {t k e : Nat} {w : Bool} {l : List Turn} (h : Live N t (.row (sixL l) w e)) (hk : k < l.length) : getCells N t (k * 6) 6 = some l[k].row := by
  rw [h.cells, if_pos (by rw [sixL_len]; omega), sixL_at hk]
theorem turnHp_ok {x y z : Int} {cs : List Cell} (hH : HeapOK x y z cs) (T : Turn) : HeapOK (turnHp x y z T cs).x (turnHp x y z T cs).y (turnHp x y z T cs).z (turnHp x y z T cs).cs := pick_ok (turnSides hH.1 T) _
end Go.Ab

/- Contracts: the reference's statements on forms. -/
namespace Go.Ab
open Go
set_option linter.unusedSimpArgs false
set_option linter.unusedVariables false

/-- A valid heap with cubes. -/
def Filled (x y z : Int) (cs : List Cell) : Prop := HeapOK x y z cs ∧ 0 < cs.length
noncomputable instance (x y z : Int) (cs : List Cell) : Decidable (Filled x y z cs) := Classical.propDecidable _
noncomputable def formOf (x y z : Int) (cs : List Cell) : Option Hp := if Filled x y z cs then some (formHp x y z cs) else none
def symB (x y z : Int) (cs : List Cell) (T : Turn) : Bool := !lessHp (posHp x y z cs T) (cropHp cs) && !lessHp (cropHp cs) (posHp x y z cs T)
def symAt (x y z : Int) (cs : List Cell) (j : Nat) : Bool := match turns[j]? with
  | some T => symB x y z cs T
  | none => false
def symsK (x y z : Int) (cs : List Cell) (k : Nat) : List Int := ((List.range k).filter (symAt x y z cs)).map fun (j : Nat) => (j : Int)
noncomputable def symsOf (x y z : Int) (cs : List Cell) : Option (List Int) := if Filled x y z cs then some (symsK x y z cs 24) else none
noncomputable def posOf (x y z : Int) (cs : List Cell) : Int := if Filled x y z cs then ((24 : Int).tdiv ((symsK x y z cs 24).length : Nat)) else 0
end Go.Ab

/- Contracts: the reference's mirrored heaps; IsHanded, AreSameForm. -/
namespace Go.Ab
open Go
set_option linter.unusedSimpArgs false
set_option linter.unusedVariables false

def mirC (x : Int) (c : Cell) : Cell := ⟨x - 1 - c.a, c.b, c.c⟩
def mirHp (x y z : Int) (cs : List Cell) : List Cell := pick x y z fun d => decide (d ∈ cs.map (mirC x))
def handB (x y z : Int) (cs : List Cell) : Bool := !(!lessHp (formHp x y z (mirHp x y z cs)) (formHp x y z cs) && !lessHp (formHp x y z cs) (formHp x y z (mirHp x y z cs)))
noncomputable def sameForm (x y z : Int) (cs : List Cell) (x' y' z' : Int) (ds : List Cell) : Bool := !lessHp (formHp x y z cs) (formHp x' y' z' ds) && !lessHp (formHp x' y' z' ds) (formHp x y z cs)
end Go.Ab

/- The abstract code of some functions (written by a program of mine from the translation, by way of prepF). -/
namespace Go.Ab.C
open Go.Ab
end Go.Ab.C

/- That the program has this code. -/
namespace Go.Ab.K
open Go Go.Ab
end Go.Ab.K

/- The abstract code of some functions (written by a program of mine from the translation, by way of prepF). -/
namespace Go.Ab.C
open Go.Ab
end Go.Ab.C

/- That the program has this code. -/
namespace Go.Ab.K
open Go Go.Ab
end Go.Ab.K

/- The abstract code of some functions (written by a program of mine from the translation, by way of prepF). -/
namespace Go.Ab.C
open Go.Ab
end Go.Ab.C

/- That the program has this code. -/
namespace Go.Ab.K
open Go Go.Ab
end Go.Ab.K

/- Plain words: how many cells a set has, as the library counts. -/
namespace Go.Ab

def swar1 (x : BitVec 64) : BitVec 64 := (x >>> 1 &&& 6148914691236517205#64) + (x &&& 6148914691236517205#64)
def swar2 (x : BitVec 64) : BitVec 64 := (x >>> 2 &&& 3689348814741910323#64) + (x &&& 3689348814741910323#64)
def swar3 (x : BitVec 64) : BitVec 64 := (x >>> 4 + x) &&& 1085102592571150095#64
def swar4 (x : BitVec 64) : BitVec 64 := x + x >>> 8
def swar5 (x : BitVec 64) : BitVec 64 := x + x >>> 16
def swar6 (x : BitVec 64) : BitVec 64 := x + x >>> 32
def swar (x : BitVec 64) : BitVec 64 := swar6 (swar5 (swar4 (swar3 (swar2 (swar1 x))))) &&& 127#64

def onRim (x y z : Int) (c : Cell) : Bool := decide (c.a = 0 ∨ c.b = 0 ∨ c.c = 0 ∨ c.a = x - 1 ∨ c.b = y - 1 ∨ c.c = z - 1)
end Go.Ab

/- The abstract code of some functions (written by a program of mine from the translation, by way of prepF). -/
namespace Go.Ab.C
open Go.Ab
end Go.Ab.C

/- That the program has this code. -/
namespace Go.Ab.K
open Go Go.Ab
end Go.Ab.K

/- Contracts: neighbours; what grows. -/
namespace Go.Ab
open Go
set_option linter.unusedSimpArgs false
set_option linter.unusedVariables false

/-- The first k neighbours of a cell. -/
def nbrK (c : Cell) (k : Nat) (e : Cell) : Bool := decide (e ∈ (nbrs c).take k)
section
variable {x y z : Int} (hS : Sides x y z)
include hS
end
end Go.Ab

/- Contracts: counts of sets. -/
namespace Go.Ab
open Go
set_option linter.unusedSimpArgs false
set_option linter.unusedVariables false

theorem onRim_iff {x y z : Int} {c : Cell} (hc : c.inBox x y z) : onRim x y z c = true ↔ ∃ d : Cell, apart c d = 1 ∧ ¬ d.inBox x y z := by
  obtain ⟨⟨h1, h2⟩, ⟨h3, h4⟩, ⟨h5, h6⟩⟩ := hc
  unfold onRim
  rw [decide_eq_true_iff]
  constructor
  · rintro (h | h | h | h | h | h)
    · exact ⟨⟨c.a - 1, c.b, c.c⟩, by unfold apart; simp only; omega, fun k => by have := k.1.1; simp only at this; omega⟩
    · exact ⟨⟨c.a, c.b - 1, c.c⟩, by unfold apart; simp only; omega, fun k => by have := k.2.1.1; simp only at this; omega⟩
    · exact ⟨⟨c.a, c.b, c.c - 1⟩, by unfold apart; simp only; omega, fun k => by have := k.2.2.1; simp only at this; omega⟩
    · exact ⟨⟨c.a + 1, c.b, c.c⟩, by unfold apart; simp only; omega, fun k => by have := k.1.2; simp only at this; omega⟩
    · exact ⟨⟨c.a, c.b + 1, c.c⟩, by unfold apart; simp only; omega, fun k => by have := k.2.1.2; simp only at this; omega⟩
    · exact ⟨⟨c.a, c.b, c.c + 1⟩, by unfold apart; simp only; omega, fun k => by have := k.2.2.2; simp only at this; omega⟩
  · rintro ⟨d, hd, hk⟩
    apply Classical.byContradiction
    intro hno
    refine hk ⟨⟨?_, ?_⟩, ⟨?_, ?_⟩, ⟨?_, ?_⟩⟩ <;> (unfold apart at hd; omega)

end Go.Ab

/- Plain words: what stands and what hangs, by parts and by growing. -/
namespace Go.Ab

theorem Reach.symm {x y z : Int} {q : Cell → Bool} {c d : Cell} (hc : c.inBox x y z) (hqc : q c = true) (h : Reach x y z (fun e => decide (e = c)) q d) : Reach x y z (fun e => decide (e = d)) q c ∧ q d = true := by
  induction h with
  | base h1 h2 => rw [of_decide_eq_true h2]; exact ⟨.base hc (by simp), hqc⟩
  | @step a b h1 h2 h3 h4 ih =>
    refine ⟨?_, h4⟩
    have hb : Reach x y z (fun e => decide (e = b)) q b := .base h3 (by simp)
    have hba : Reach x y z (fun e => decide (e = b)) q a := .step hb (by rw [apart_comm]; exact h2) h1.inBox ih.2
    have htr : ∀ {u}, Reach x y z (fun e => decide (e = a)) q u → Reach x y z (fun e => decide (e = b)) q u := fun hu =>
      hu.mono (fun e _ he => by rw [of_decide_eq_true he]; exact hba) fun _ _ h => h
    exact htr ih.1
theorem Reach.trans {x y z : Int} {q p : Cell → Bool} {c d : Cell} (h : Reach x y z p q c) (k : Reach x y z (fun e => decide (e = c)) q d) : Reach x y z p q d :=
  k.mono (fun e _ he => by rw [of_decide_eq_true he]; exact h) fun _ _ h => h

section
variable {x y z : Int} (hS : Sides x y z)
include hS
/-- What stands of a set. -/
noncomputable def stand (x y z : Int) (q : Cell → Bool) : Cell → Bool := reach x y z (fun e => q e && decide (e.c = 0)) q
/-- The cells that stand, or those that hang. -/
noncomputable def parted (x y z : Int) (q : Cell → Bool) (hang : Bool) : Cell → Bool := fun d => q d && (stand x y z q d != hang)
end

def floorOf (l : List Cell) : Bool := l.any fun e => decide (e.c = 0)
/-- The cells of the first k lists, of those on the floor, or of the others. -/
def selK (L : List (List Cell)) (hang : Bool) (k : Nat) : Cell → Bool := fun d => (L.take k).any fun l => (floorOf l != hang) && decide (d ∈ l)
end Go.Ab

/- Contracts: what is enclosed; the program's FillCavities. -/
namespace Go.Ab
open Go
set_option linter.unusedSimpArgs false
set_option linter.unusedVariables false

/-- What is outside: reached from the rim, by way of cells without cubes. -/
noncomputable def outer (x y z : Int) (p : Cell → Bool) : Cell → Bool := reach x y z (fun c => !p c && onRim x y z c) fun c => !p c
noncomputable def closed (x y z : Int) (p : Cell → Bool) (c : Cell) : Bool := !p c && !outer x y z p c
noncomputable def fillOf (x y z : Int) (cs : List Cell) : Option Hp := by
  classical
  exact if HeapOK x y z cs then some ⟨x, y, z, pick x y z fun c => decide (c ∈ cs) || closed x y z (fun c => decide (c ∈ cs)) c⟩ else none
end Go.Ab

/- Plain words: a search from beyond the box. -/
namespace Go.Ab

def ExtC (x y z : Int) (c : Cell) : Prop := (-1 ≤ c.a ∧ c.a ≤ x) ∧ (-1 ≤ c.b ∧ c.b ≤ y) ∧ (-1 ≤ c.c ∧ c.c ≤ z)
theorem Cell.inBox.ext {x y z : Int} {c : Cell} (h : c.inBox x y z) : ExtC x y z c := by
  obtain ⟨⟨_, _⟩, ⟨_, _⟩, ⟨_, _⟩⟩ := h
  exact ⟨⟨by omega, by omega⟩, ⟨by omega, by omega⟩, ⟨by omega, by omega⟩⟩
/-- What comes before a place. -/
def Bef (c : Cell) (i j k : Int) : Prop := c.a < i ∨ (c.a = i ∧ (c.b < j ∨ (c.b = j ∧ c.c < k)))
structure Mgn (x y z i j k : Int) (l : List Cell) : Prop where
  mem : ∀ c ∈ l, ExtC x y z c ∧ ¬ c.inBox x y z
  all : ∀ c, ExtC x y z c → ¬ c.inBox x y z → Bef c i j k → c ∈ l
  len : (l.length : Int) ≤ (i + 1) * 36 + (j + 1) * 6 + (k + 1)
theorem Mgn.nil {x y z : Int} : Mgn x y z (-1) (-1) (-1) [] := by
  refine ⟨by simp, fun c ⟨⟨_, _⟩, ⟨_, _⟩, ⟨_, _⟩⟩ _ hb => ?_, by simp⟩
  unfold Bef at hb
  omega
theorem Mgn.out {x y z i j k : Int} {l : List Cell} (h : Mgn x y z i j k l) (hk : k < 6) (hc : ExtC x y z ⟨i, j, k⟩) (ho : ¬ Cell.inBox x y z ⟨i, j, k⟩) : Mgn x y z i j (k + 1) (l ++ [⟨i, j, k⟩]) := by
  refine ⟨fun c hm => ?_, fun c h1 h2 h3 => ?_, ?_⟩
  · rcases List.mem_append.1 hm with hm | hm
    · exact h.mem c hm
    · rw [List.mem_singleton.1 hm]; exact ⟨hc, ho⟩
  · rw [List.mem_append, List.mem_singleton, cell_eq]
    unfold Bef at h3
    by_cases hb : Bef c i j k
    · exact .inl (h.all c h1 h2 hb)
    · right; unfold Bef at hb; simp only; omega
  · have := h.len; rw [List.length_append, List.length_singleton]; omega
theorem Mgn.in {x y z i j k : Int} {l : List Cell} (h : Mgn x y z i j k l) (ho : Cell.inBox x y z ⟨i, j, k⟩) : Mgn x y z i j (k + 1) l := by
  refine ⟨h.mem, fun c h1 h2 h3 => ?_, by have := h.len; omega⟩
  unfold Bef at h3
  by_cases hb : Bef c i j k
  · exact h.all c h1 h2 hb
  · unfold Bef at hb
    exact absurd (by rw [show c = ⟨i, j, k⟩ from cell_eq.2 (by simp only; omega)]; exact ho) h2
theorem Mgn.row {x y z i j k : Int} {l : List Cell} (h : Mgn x y z i j k l) (hk : z < k) (hz : k ≤ 5) : Mgn x y z i (j + 1) (-1) l := by
  refine ⟨h.mem, fun c h1 h2 h3 => h.all c h1 h2 ?_, by have := h.len; omega⟩
  obtain ⟨_, _, _, _⟩ := h1
  unfold Bef at h3 ⊢
  omega
structure Out (x y z : Int) (p : Cell → Bool) (n k : Nat) (mg r : List Cell) : Prop where
  base : ∀ c, ExtC x y z c → ¬ c.inBox x y z → c ∈ mg
  mgm : ∀ c ∈ mg, ExtC x y z c ∧ ¬ c.inBox x y z
  nodup : r.Nodup
  mem : ∀ d ∈ r, d.inBox x y z ∧ p d = false ∧ outer x y z p d = true
  done : ∀ i, i < n → i < (mg ++ r).length → ∀ e, e.inBox x y z → p e = false → apart ((mg ++ r).getD i default) e = 1 → e ∈ r
  part : ∀ j, j < k → ((nbrs ((mg ++ r).getD n default)).getD j default).inBox x y z → p ((nbrs ((mg ++ r).getD n default)).getD j default) = false → (nbrs ((mg ++ r).getD n default)).getD j default ∈ r

section
variable {x y z : Int} {p : Cell → Bool} {n k : Nat} {mg r : List Cell}
theorem Out.skip (h : Out x y z p n k mg r) (hs : ¬ ((((nbrs ((mg ++ r).getD n default)).getD k default).inBox x y z ∧ p ((nbrs ((mg ++ r).getD n default)).getD k default) = false) ∧ (nbrs ((mg ++ r).getD n default)).getD k default ∉ r)) : Out x y z p n (k + 1) mg r :=
  ⟨h.base, h.mgm, h.nodup, h.mem, h.done, fun j hj h1 h2 => by
    rcases Nat.lt_or_ge j k with h3 | h3
    · exact h.part j h3 h1 h2
    · rw [show j = k by omega] at h1 h2 ⊢
      exact Classical.byContradiction fun h4 => hs ⟨⟨h1, h2⟩, h4⟩⟩
theorem Out.add (h : Out x y z p n k mg r) (hk : k < 6) (hn : n < (mg ++ r).length) {e : Cell} (he : (nbrs ((mg ++ r).getD n default)).getD k default = e) (h1 : e.inBox x y z) (h2 : p e = false) (h3 : e ∉ r) : Out x y z p n (k + 1) mg (r ++ [e]) := by
  have hg : ∀ {j}, j < (mg ++ r).length → (mg ++ (r ++ [e])).getD j default = (mg ++ r).getD j default := fun {j} hj => by
    rw [← List.append_assoc]
    simp only [List.getD_eq_getElem?_getD]; rw [List.getElem?_append_left hj]
  have hap : apart ((mg ++ r).getD n default) e = 1 := mem_nbrs.1 (by rw [← he]; exact getD_mem' (by simpa [nbrs] using hk))
  have hout : outer x y z p e = true := by
    unfold outer
    rw [reach_iff]
    rcases List.mem_append.1 (getD_mem' (d := default) hn) with hm | hm
    · refine .base h1 ?_
      have := h.mgm _ hm
      rw [h2, (onRim_iff h1).2 ⟨_, by rw [apart_comm]; exact hap, this.2⟩]; rfl
    · have := (h.mem _ hm).2.2
      unfold outer at this
      rw [reach_iff] at this
      exact .step this hap h1 (by rw [h2]; rfl)
  refine ⟨h.base, h.mgm, ?_, fun d hd => ?_, fun i hi hil d hd hpd ha => ?_, fun j hj hb hpb => ?_⟩
  · rw [List.nodup_append]
    exact ⟨h.nodup, by simp, fun a ha b hb e' => by rw [List.mem_singleton.1 hb] at e'; subst e'; exact h3 ha⟩
  · rcases List.mem_append.1 hd with hd | hd
    · exact h.mem d hd
    · rw [List.mem_singleton.1 hd]; exact ⟨h1, h2, hout⟩
  · rw [hg (by omega)] at ha
    exact List.mem_append.2 (.inl (h.done i hi (by omega) d hd hpd ha))
  · rw [hg hn] at hb hpb ⊢
    rcases Nat.lt_or_ge j k with h5 | h5
    · exact List.mem_append.2 (.inl (h.part j h5 hb hpb))
    · rw [show j = k by omega, he]; simp
end
end Go.Ab

/- Contracts: the reference's search from beyond the box. -/
namespace Go.Ab
open Go
set_option linter.unusedSimpArgs false
set_option linter.unusedVariables false

def steps : List Cell := [⟨-1, 0, 0⟩, ⟨1, 0, 0⟩, ⟨0, -1, 0⟩, ⟨0, 1, 0⟩, ⟨0, 0, -1⟩, ⟨0, 0, 1⟩]
theorem Live.step {N : Mem} {t k : Nat} (h : Live N t (.row (triL steps) true 0)) (hk : k < 6) : getCells N t (k * 3) 3 = some (steps.getD k default).row := by
  have := Tri.get (cs := steps) (o := 0) h.has (k := k) hk
  rwa [Nat.zero_add] at this

end Go.Ab

/- The abstract code of some functions (written by a program of mine from the translation, by way of prepF). -/
namespace Go.Ab.C
open Go.Ab
end Go.Ab.C

/- That the program has this code. -/
namespace Go.Ab.K
open Go Go.Ab
end Go.Ab.K

/- Plain: how often a line of a box is met by cells of a list; cells that are alone in a line. -/
namespace Go.Ab
open Go
set_option linter.unusedSimpArgs false
set_option linter.unusedVariables false

def onLine (y z : Int) (d : Nat) (i : Nat) (c : Cell) : Bool := decide ((lineOf y z c d).toNat = i)
/-- A cell alone, among cells, in one of its lines of the first k directions. -/
def aloneK (y z : Int) (cs : List Cell) : Nat → Cell → Bool
  | 0, _ => false
  | k + 1, c => aloneK y z cs k c || decide (cs.countP (onLine y z k (lineOf y z c k).toNat) = 1)
/-- The lit lines of a shadow. -/
def litL (xs : List Int) (n : Nat) : List Nat := (List.range n).filter fun i => decide (xs.getD i 0 = 1)
def litTo (tp fr sd : List Int) (d i : Nat) : List (Nat × Nat) := ((List.range d).flatMap fun e => (litL (shdList e tp fr sd) (shdList e tp fr sd).length).map fun j => (e, j)) ++ (litL (shdList d tp fr sd) i).map fun j => (d, j)
def lits (tp fr sd : List Int) : List (Nat × Nat) := litTo tp fr sd 3 0
/-- The cells of p in a line. -/
def inLine (y z : Int) (p : Cell → Bool) (q : Nat × Nat) (c : Cell) : Bool := p c && onLine y z q.1 q.2 c
/-- The lines as sets. -/
def lineSets (x y z : Int) (p : Cell → Bool) (L : List (Nat × Nat)) : List LV := L.map fun q => .W (bs x y z (inLine y z p q))
/-- Among the first k lit lines one has the cell, and no other allowed one. -/
def mustTo (x y z : Int) (p : Cell → Bool) (L : List (Nat × Nat)) (c : Cell) : Bool := decide (∃ q ∈ L, (pick x y z (inLine y z p q)).length = 1 ∧ inLine y z p q c = true)
end Go.Ab

/- Plain: lit lines without a cube, as the reference lists them. -/
namespace Go.Ab
open Go
set_option linter.unusedSimpArgs false
set_option linter.unusedVariables false

def offL (tp fr : List Int) (d : Nat) : Nat := if d = 2 then 0 else if d = 1 then tp.length else tp.length + fr.length
/-- The place of a cell's line among all lines. -/
def gl (y z : Int) (tp fr : List Int) (d : Nat) (c : Cell) : Nat := offL tp fr d + (lineOf y z c d).toNat
def darkStep (y z : Int) (tp fr : List Int) (v : List Bool) (c : Cell) : List Bool := ((v.set (gl y z tp fr 2 c) false).set (gl y z tp fr 1 c) false).set (gl y z tp fr 0 c) false
def darkL (y z : Int) (tp fr sd : List Int) (cs : List Cell) : List Bool := cs.foldl (darkStep y z tp fr) ((tp ++ fr ++ sd).map fun n => decide (n = 1))
/-- Cells meet all lit lines. -/
def Meets (y z : Int) (L : List (Nat × Nat)) (cs : List Cell) : Prop := ∀ q ∈ L, ∃ c ∈ cs, onLine y z q.1 q.2 c = true
instance (y z : Int) (L : List (Nat × Nat)) (cs : List Cell) : Decidable (Meets y z L cs) := by unfold Meets; exact inferInstance
end Go.Ab

/- The abstract code of some functions (written by a program of mine from the translation, by way of prepF). -/
namespace Go.Ab.C
open Go.Ab
end Go.Ab.C

/- That the program has this code. -/
namespace Go.Ab.K
open Go Go.Ab
end Go.Ab.K

/- The abstract code of some functions (written by a program of mine from the translation, by way of prepF). -/
namespace Go.Ab.C
open Go.Ab
end Go.Ab.C

/- That the program has this code. -/
namespace Go.Ab.K
open Go Go.Ab
end Go.Ab.K

/- The abstract code of some functions (written by a program of mine from the translation, by way of prepF). -/
namespace Go.Ab.C
open Go.Ab
end Go.Ab.C

/- That the program has this code. -/
namespace Go.Ab.K
open Go Go.Ab
end Go.Ab.K

/- Contracts: lists of numbers that are the same; shadows of heaps, the reference's side. -/
namespace Go.Ab
open Go
set_option linter.unusedSimpArgs false
set_option linter.unusedVariables false

end Go.Ab

/- Contracts: shadows of heaps, the reference's side. -/
namespace Go.Ab
open Go
set_option linter.unusedSimpArgs false
set_option linter.unusedVariables false

def onesL (v : List Int) : List Int := v.map fun n => min n 1
def shdOf (x y z : Int) (d : Nat) (cs : List Cell) : List Int := onesL (viewL x y z d cs)
end Go.Ab

/- Contracts: whether a heap has a shadow, the reference's side. -/
namespace Go.Ab
open Go
set_option linter.unusedSimpArgs false
set_option linter.unusedVariables false

section
variable {x y z : Int} {t o : Nat} {cs : List Cell} {M : Mem} (h : Tri M t o cs) (hH : HeapOK x y z cs)
include h hH
end

/-- A set of cells has a shadow. -/
def HasShd (x y z : Int) (tp fr sd : List Int) (cs : List Cell) : Prop := shdOf x y z 2 cs = tp ∧ shdOf x y z 1 cs = fr ∧ shdOf x y z 0 cs = sd
instance (x y z : Int) (tp fr sd : List Int) (cs : List Cell) : Decidable (HasShd x y z tp fr sd cs) := by unfold HasShd; exact inferInstance
end Go.Ab

/- Contracts: lit lines without a cube, the reference's side. -/
namespace Go.Ab
open Go
set_option linter.unusedSimpArgs false
set_option linter.unusedVariables false
set_option maxRecDepth 20000

def boolL (v : List Bool) : List LV := v.map LV.B
def stepTo (y z : Int) (tp fr : List Int) (V : List Bool) (c : Cell) : Nat → List Bool
  | 0 => V
  | k + 1 => (stepTo y z tp fr V c k).set (gl y z tp fr (2 - k) c) false
end Go.Ab

/- Contracts: the heaps of few cubes that a law draws; mirrored heaps of the reference, in any direction. -/
namespace Go.Ab
open Go
set_option linter.unusedSimpArgs false
set_option linter.unusedVariables false
set_option maxRecDepth 20000

/-- A heap as a value, all of whose cells are new. -/
def HeapV (M : Mem) (x y z : Int) (cs : List Cell) (v : LV) (N : Mem) : Prop := ∃ u : Nat, v = .agg [.I x, .I y, .I z, .ref u 0 cs.length] ∧ Live N u (.row (triL cs) true 3) ∧ M.length ≤ u
def negD (c : Cell) : Cell := ⟨max 0 (0 - c.a), max 0 (0 - c.b), max 0 (0 - c.c)⟩
end Go.Ab

/- The abstract code of some functions (written by a program of mine from the translation, by way of prepF). -/
namespace Go.Ab.C
open Go.Ab
end Go.Ab.C

/- That the program has this code. -/
namespace Go.Ab.K
open Go Go.Ab
end Go.Ab.K

/- The abstract code of some functions (written by a program of mine from the translation, by way of prepF). -/
namespace Go.Ab.C
open Go.Ab
def impl_Heap_moved : AFn :=
  ⟨3, 29, [.cellN 6 4],
    .seq (.ops [(none, .box 3 (.t 0)),
       (none, .box 4 (.t 1)),
       (none, .alloc 6 [(.I 0), (.I 0), (.I 0), .nil])])
    (.seq (.ops [(none, .mv 7 (.c (.U 0)))])
     (.seq (.seq (.ops [(none, .fieldAddr 10 (.t 3) 3),
          (none, .load1 11 (.t 10)),
          (none, .len 12 (.t 11)),
          (none, .mv 13 (.c (.I 0)))])
       (.block 0 (.loop (.seq (.ops [(none, .bin 14 .lss (.t 13) (.t 12))])
          (.seq (.cond (.t 14) (.skip)
            (.exit 0))
           (.seq (.block 1 (.seq (.ops [(none, .idxS 15 3 (.t 11) (.t 13)),
                 (none, .loadN 16 3 (.t 15)),
                 (none, .alloc 9 [(.I 0), (.I 0), (.I 0)]),
                 (none, .store 3 (.t 9) (.t 16))])
              (.draw [⟨(none, .mv 17 (.t 7)), [], []⟩,
                 ⟨(none, .loadN 18 3 (.t 4)), [], []⟩,
                 ⟨(none, .mv 19 (.t 2)), [], []⟩,
                 ⟨(none, .loadN 20 3 (.t 9)), [], []⟩,
                 ⟨(none, .callV (some 21) (.t 19) [(.t 20)]), [], [0, 1]⟩,
                 ⟨(none, .call (some 22) F.impl_box_index [(.t 18), (.t 21)]), [], [0]⟩,
                 ⟨(none, .bin 23 .shl (.c (.U 1)) (.t 22)), [], []⟩,
                 ⟨(none, .bin 24 .or (.t 17) (.t 23)), [], []⟩,
                 ⟨(none, .mv 7 (.t 24)), [], []⟩])))
            (.ops [(none, .bin 25 .add (.t 13) (.c (.I 1))),
               (none, .mv 13 (.t 25))])))))))
      (.seq (.ops [(none, .loadN 26 3 (.t 4)),
          (none, .mv 27 (.t 7)),
          (none, .call (some 28) F.impl_box_heap [(.t 26), (.t 27)]),
          (none, .store 4 (.t 6) (.t 28))])
       (.ret))))⟩
def impl_turning_of : AFn :=
  ⟨2, 29, [.cellN 4 4],
    .seq (.ops [(none, .box 2 (.t 0)),
       (none, .box 3 (.t 1)),
       (none, .alloc 4 [(.I 0), (.I 0), (.I 0), .nil])])
    (.seq (.ops [(none, .loadN 7 4 (.t 3)),
        (none, .call (some 8) F.impl_Heap_box [(.t 7)]),
        (none, .alloc 5 [(.I 0), (.I 0), (.I 0)]),
        (none, .store 3 (.t 5) (.t 8))])
     (.seq (.draw [⟨(none, .fieldAddr 9 (.t 2) 0), [], []⟩,
         ⟨(none, .idxA 10 3 1 (.t 9) (.c (.I 0))), [], []⟩,
         ⟨(none, .load1 11 (.t 10)), [], []⟩,
         ⟨(none, .idxA 12 3 1 (.t 5) (.t 11)), [], []⟩,
         ⟨(none, .load1 13 (.t 12)), [], []⟩,
         ⟨(none, .fieldAddr 14 (.t 2) 0), [], []⟩,
         ⟨(none, .idxA 15 3 1 (.t 14) (.c (.I 1))), [], []⟩,
         ⟨(none, .load1 16 (.t 15)), [], []⟩,
         ⟨(none, .idxA 17 3 1 (.t 5) (.t 16)), [], []⟩,
         ⟨(none, .load1 18 (.t 17)), [], []⟩,
         ⟨(none, .fieldAddr 19 (.t 2) 0), [], []⟩,
         ⟨(none, .idxA 20 3 1 (.t 19) (.c (.I 2))), [], []⟩,
         ⟨(none, .load1 21 (.t 20)), [], []⟩,
         ⟨(none, .idxA 22 3 1 (.t 5) (.t 21)), [], []⟩,
         ⟨(none, .load1 23 (.t 22)), [], []⟩,
         ⟨(none, .build 24 [(.I 0), (.I 0), (.I 0)] [(0, 1, (.t 13)), (1, 1, (.t 18)), (2, 1, (.t 23))]), [], []⟩,
         ⟨(none, .alloc 6 [(.I 0), (.I 0), (.I 0)]), [], []⟩,
         ⟨(none, .store 3 (.t 6) (.t 24)), [], []⟩])
      (.seq (.ops [(none, .loadN 25 4 (.t 3)),
          (none, .loadN 26 3 (.t 6)),
          (none, .mkf 27 F.impl_turning_of_1 [(.t 2), (.t 6)]),
          (none, .call (some 28) F.impl_Heap_moved [(.t 25), (.t 26), (.t 27)]),
          (none, .store 4 (.t 4) (.t 28))])
       (.ret))))⟩
def impl_turning_of_1 : AFn :=
  ⟨3, 37, [.cellN 4 3],
    .seq (.ops [(none, .box 3 (.t 0)),
       (none, .alloc 4 [(.I 0), (.I 0), (.I 0)])])
    (.seq (.ops [(none, .build 8 [(.I 0), (.I 0), (.I 0)] []),
        (none, .alloc 5 [(.I 0), (.I 0), (.I 0)]),
        (none, .store 3 (.t 5) (.t 8))])
     (.seq (.seq (.ops [(none, .fieldAddr 9 (.t 1) 0),
          (none, .loadN 10 3 (.t 9)),
          (none, .mv 11 (.c (.I 0)))])
       (.block 0 (.loop (.seq (.ops [(none, .bin 12 .lss (.t 11) (.c (.I 3)))])
          (.seq (.cond (.t 12) (.skip)
            (.exit 0))
           (.seq (.block 1 (.seq (.ops [(none, .mv 13 (.t 11)),
                 (none, .index 14 3 1 false (.t 10) (.t 11)),
                 (none, .mv 6 (.t 13)),
                 (none, .mv 7 (.t 14))])
              (.seq (.ops [(none, .mv 15 (.t 6)),
                  (none, .mv 16 (.t 7)),
                  (none, .idxA 17 3 1 (.t 3) (.t 16)),
                  (none, .load1 18 (.t 17)),
                  (none, .idxA 19 3 1 (.t 5) (.t 15)),
                  (none, .store 1 (.t 19) (.t 18))])
               (.seq (.ops [(none, .mv 20 (.t 6)),
                   (none, .fieldAddr 21 (.t 1) 3),
                   (none, .idxA 22 3 1 (.t 21) (.t 20)),
                   (none, .load1 23 (.t 22)),
                   (none, .bin 24 .eql (.t 23) (.c (.I 1)))])
                (.cond (.t 24) (.draw [⟨(none, .mv 25 (.t 6)), [], []⟩,
                    ⟨(none, .mv 26 (.t 6)), [], []⟩,
                    ⟨(none, .idxA 27 3 1 (.t 2) (.t 26)), [], []⟩,
                    ⟨(none, .load1 28 (.t 27)), [], []⟩,
                    ⟨(none, .bin 29 .sub (.t 28) (.c (.I 1))), [], []⟩,
                    ⟨(none, .mv 30 (.t 7)), [], []⟩,
                    ⟨(none, .idxA 31 3 1 (.t 3) (.t 30)), [], []⟩,
                    ⟨(none, .load1 32 (.t 31)), [], []⟩,
                    ⟨(none, .bin 33 .sub (.t 29) (.t 32)), [], []⟩,
                    ⟨(none, .idxA 34 3 1 (.t 5) (.t 25)), [], []⟩,
                    ⟨(none, .store 1 (.t 34) (.t 33)), [], []⟩])
                 (.skip))))))
            (.ops [(none, .bin 35 .add (.t 11) (.c (.I 1))),
               (none, .mv 11 (.t 35))])))))))
      (.seq (.ops [(none, .loadN 36 3 (.t 5)),
          (none, .store 3 (.t 4) (.t 36))])
       (.ret))))⟩
end Go.Ab.C

/- That the program has this code. -/
namespace Go.Ab.K
open Go Go.Ab
theorem impl_Heap_moved : prepF Go.Proofs.Try.prog F.impl_Heap_moved = some C.impl_Heap_moved := by kernel_rfl
theorem impl_turning_of : prepF Go.Proofs.Try.prog F.impl_turning_of = some C.impl_turning_of := by kernel_rfl
theorem impl_turning_of_1 : prepF Go.Proofs.Try.prog F.impl_turning_of_1 = some C.impl_turning_of_1 := by kernel_rfl
end Go.Ab.K

/- The abstract code of some functions (written by a program of mine from the translation, by way of prepF). -/
namespace Go.Ab.C
open Go.Ab
def impl_orders : AFn :=
  ⟨0, 8, [.tmp 0],
    .seq (.ops [(none, .mv 0 (.c .nil))])
    (.seq (.ops [(none, .build 1 [(.I 0), (.I 0), (.I 0)] [(0, 1, (.c (.I 0))), (1, 1, (.c (.I 1))), (2, 1, (.c (.I 2)))]),
        (none, .build 2 [(.I 0), (.I 0), (.I 0)] [(0, 1, (.c (.I 0))), (1, 1, (.c (.I 2))), (2, 1, (.c (.I 1)))]),
        (none, .build 3 [(.I 0), (.I 0), (.I 0)] [(0, 1, (.c (.I 1))), (1, 1, (.c (.I 0))), (2, 1, (.c (.I 2)))]),
        (none, .build 4 [(.I 0), (.I 0), (.I 0)] [(0, 1, (.c (.I 1))), (1, 1, (.c (.I 2))), (2, 1, (.c (.I 0)))]),
        (none, .build 5 [(.I 0), (.I 0), (.I 0)] [(0, 1, (.c (.I 2))), (1, 1, (.c (.I 0))), (2, 1, (.c (.I 1)))]),
        (none, .build 6 [(.I 0), (.I 0), (.I 0)] [(0, 1, (.c (.I 2))), (1, 1, (.c (.I 1))), (2, 1, (.c (.I 0)))]),
        (none, .buildSl 7 6 3 [(.I 0), (.I 0), (.I 0), (.I 0), (.I 0), (.I 0), (.I 0), (.I 0), (.I 0), (.I 0), (.I 0), (.I 0), (.I 0), (.I 0), (.I 0), (.I 0), (.I 0), (.I 0)] [(0, 3, (.t 1)), (3, 3, (.t 2)), (6, 3, (.t 3)), (9, 3, (.t 4)), (12, 3, (.t 5)), (15, 3, (.t 6))]),
        (none, .mv 0 (.t 7))])
     (.ret))⟩
def impl_turnings : AFn :=
  ⟨0, 66, [.tmp 0],
    .seq (.ops [(none, .mv 0 (.c .nil))])
    (.seq (.ops [(none, .buildSl 9 0 6 [] []),
        (none, .mv 1 (.t 9))])
     (.seq (.seq (.ops [(none, .call (some 10) F.impl_orders []),
          (none, .len 11 (.t 10)),
          (none, .mv 12 (.c (.I 0)))])
       (.block 0 (.loop (.seq (.ops [(none, .bin 13 .lss (.t 12) (.t 11))])
          (.seq (.cond (.t 13) (.skip)
            (.exit 0))
           (.seq (.block 1 (.seq (.ops [(none, .idxS 14 3 (.t 10) (.t 12)),
                 (none, .loadN 15 3 (.t 14)),
                 (none, .alloc 3 [(.I 0), (.I 0), (.I 0)]),
                 (none, .store 3 (.t 3) (.t 15))])
              (.seq (.ops [(none, .mv 4 (.c (.I 0)))])
               (.seq (.seq (.ops [(none, .mv 16 (.c (.I 0)))])
                 (.block 2 (.loop (.seq (.ops [(none, .bin 17 .lss (.t 16) (.c (.I 3)))])
                    (.seq (.cond (.t 17) (.skip)
                      (.exit 2))
                     (.seq (.block 3 (.seq (.ops [(none, .mv 18 (.t 16)),
                           (none, .mv 5 (.t 18))])
                        (.seq (.ops [(none, .mv 19 (.t 5)),
                            (none, .mv 20 (.c (.I 0)))])
                         (.block 4 (.loop (.seq (.ops [(none, .bin 21 .lss (.t 20) (.t 19))])
                            (.seq (.cond (.t 21) (.skip)
                              (.exit 4))
                             (.seq (.block 5 (.seq (.ops [(none, .mv 22 (.t 20)),
                                   (none, .mv 6 (.t 22))])
                                (.seq (.draw [⟨(none, .mv 23 (.t 6)), [], []⟩,
                                    ⟨(none, .idxA 24 3 1 (.t 3) (.t 23)), [], []⟩,
                                    ⟨(none, .load1 25 (.t 24)), [], []⟩,
                                    ⟨(none, .mv 26 (.t 5)), [], []⟩,
                                    ⟨(none, .idxA 27 3 1 (.t 3) (.t 26)), [], []⟩,
                                    ⟨(none, .load1 28 (.t 27)), [], []⟩,
                                    ⟨(none, .bin 29 .gtr (.t 25) (.t 28)), [], []⟩])
                                 (.cond (.t 29) (.ops [(none, .mv 30 (.t 4)),
                                     (none, .bin 31 .add (.t 30) (.c (.I 1))),
                                     (none, .mv 4 (.t 31))])
                                  (.skip)))))
                              (.ops [(none, .bin 32 .add (.t 20) (.c (.I 1))),
                                 (none, .mv 20 (.t 32))])))))))))
                      (.ops [(none, .bin 33 .add (.t 16) (.c (.I 1))),
                         (none, .mv 16 (.t 33))])))))))
                (.seq (.ops [(none, .mv 34 (.c (.I 0)))])
                 (.block 6 (.loop (.seq (.ops [(none, .bin 35 .lss (.t 34) (.c (.I 8)))])
                    (.seq (.cond (.t 35) (.skip)
                      (.exit 6))
                     (.seq (.block 7 (.seq (.ops [(none, .mv 36 (.t 34)),
                           (none, .mv 7 (.t 36))])
                        (.seq (.ops [(none, .mv 37 (.t 7)),
                            (none, .bin 38 .shr (.t 37) (.c (.U 2))),
                            (none, .mv 39 (.t 7)),
                            (none, .bin 40 .shr (.t 39) (.c (.U 1))),
                            (none, .bin 41 .and (.t 40) (.c (.I 1))),
                            (none, .mv 42 (.t 7)),
                            (none, .bin 43 .and (.t 42) (.c (.I 1))),
                            (none, .build 44 [(.I 0), (.I 0), (.I 0)] [(0, 1, (.t 38)), (1, 1, (.t 41)), (2, 1, (.t 43))]),
                            (none, .alloc 8 [(.I 0), (.I 0), (.I 0)]),
                            (none, .store 3 (.t 8) (.t 44))])
                         (.seq (.ops [(none, .mv 45 (.t 4)),
                             (none, .idxA 46 3 1 (.t 8) (.c (.I 0))),
                             (none, .load1 47 (.t 46)),
                             (none, .bin 48 .add (.t 45) (.t 47)),
                             (none, .idxA 49 3 1 (.t 8) (.c (.I 1))),
                             (none, .load1 50 (.t 49)),
                             (none, .bin 51 .add (.t 48) (.t 50)),
                             (none, .idxA 52 3 1 (.t 8) (.c (.I 2))),
                             (none, .load1 53 (.t 52)),
                             (none, .bin 54 .add (.t 51) (.t 53)),
                             (none, .bin 55 .rem (.t 54) (.c (.I 2))),
                             (none, .bin 56 .eql (.t 55) (.c (.I 0)))])
                          (.cond (.t 56) (.ops [(none, .mv 57 (.t 1)),
                              (none, .loadN 58 3 (.t 3)),
                              (none, .loadN 59 3 (.t 8)),
                              (none, .build 60 [(.I 0), (.I 0), (.I 0), (.I 0), (.I 0), (.I 0)] [(0, 3, (.t 58)), (3, 3, (.t 59))]),
                              (none, .buildSl 61 1 6 [(.I 0), (.I 0), (.I 0), (.I 0), (.I 0), (.I 0)] [(0, 6, (.t 60))]),
                              (none, .append 62 6 48 (.t 57) (.t 61)),
                              (none, .mv 1 (.t 62))])
                           (.skip))))))
                      (.ops [(none, .bin 63 .add (.t 34) (.c (.I 1))),
                         (none, .mv 34 (.t 63))])))))))))))
            (.ops [(none, .bin 64 .add (.t 12) (.c (.I 1))),
               (none, .mv 12 (.t 64))])))))))
      (.seq (.ops [(none, .mv 65 (.t 1)),
          (none, .mv 0 (.t 65))])
       (.ret))))⟩
end Go.Ab.C

/- That the program has this code. -/
namespace Go.Ab.K
open Go Go.Ab
theorem impl_orders : prepF Go.Proofs.Try.prog F.impl_orders = some C.impl_orders := by kernel_rfl
theorem impl_turnings : prepF Go.Proofs.Try.prog F.impl_turnings = some C.impl_turnings := by kernel_rfl
end Go.Ab.K

/- Contracts: the program's turns. -/
namespace Go.Ab
open Go
set_option linter.unusedSimpArgs false
set_option linter.unusedVariables false

def ordersL : List Cell := [⟨0, 1, 2⟩, ⟨0, 2, 1⟩, ⟨1, 0, 2⟩, ⟨1, 2, 0⟩, ⟨2, 0, 1⟩, ⟨2, 1, 0⟩]
theorem g_orders {M : Mem} : CallsTo PG F.impl_orders [] M (.ref M.length 0 6) (M ++ [some (.row (triL ordersL) true 3)]) := by
  refine calls_run K.impl_orders rfl ?_
  simp (disch := omega) only [C.impl_orders, splice, ↓SXd, SXu, slBounds, ↓sop, ↓aop, ↓reduceIte, LV.cells, AOp.dst, LV.I, LV.B, LV.U, LV.S, LV.nil, Nat.reduceEqDiff, Nat.reduceAdd, Nat.reduceMul, Nat.reduceSub, Nat.reduceLeDiff, Nat.reduceBEq, Nat.reduceDiv, Nat.reduceMod, Int.reduceToNat, Int.reduceLT, Int.reduceLE, Int.reduceAdd, Int.reduceSub, Int.reduceMul, Int.reduceEq, Int.reduceNeg, reduceCtorEq, resV, resAll, ARes.ev, LV.flat, ite_true, ite_false, exists_eq_left', exists_eq_left, keyOf, implies_true, fillC, capOf]
  exact cmp_keep1 (j := 0) (cs := triL ordersL) rfl (triL_lo _) (by simp [rn, rn0, rn1, keepR_n])

/-- The attempt at which an order's turns begin. -/
def nO (o : Nat) : Nat := if o = 0 then 8 else if o = 1 then 16 else if o = 2 then 24 else if o = 3 then 40 else if o = 4 then 48 else if o = 5 then 56 else 72
theorem orders_at {o : Nat} (ho : o < 6) : (∃ a b : Nat, a < 3 ∧ b < 3 ∧ a ≠ b ∧ ordersL.getD o default = ⟨a, b, 3 - a - b⟩ ∧ nO o = (a * 3 + b) * 8) ∧ turnsU (nO o + 8) = turnsU (nO (o + 1)) := by
  rcases (show o = 0 ∨ o = 1 ∨ o = 2 ∨ o = 3 ∨ o = 4 ∨ o = 5 by omega) with rfl | rfl | rfl | rfl | rfl | rfl
  · exact ⟨⟨0, 1, by decide, by decide, by decide, rfl, rfl⟩, by decide +kernel⟩
  · exact ⟨⟨0, 2, by decide, by decide, by decide, rfl, rfl⟩, by decide +kernel⟩
  · exact ⟨⟨1, 0, by decide, by decide, by decide, rfl, rfl⟩, by decide +kernel⟩
  · exact ⟨⟨1, 2, by decide, by decide, by decide, rfl, rfl⟩, by decide +kernel⟩
  · exact ⟨⟨2, 0, by decide, by decide, by decide, rfl, rfl⟩, by decide +kernel⟩
  · exact ⟨⟨2, 1, by decide, by decide, by decide, rfl, rfl⟩, by decide +kernel⟩
theorem sh_div {f : Nat} (hf : f < 8) : (f : Int).fdiv (2 ^ min 2 64) = ((f / 4 : Nat) : Int) := by
  rcases (show f = 0 ∨ f = 1 ∨ f = 2 ∨ f = 3 ∨ f = 4 ∨ f = 5 ∨ f = 6 ∨ f = 7 by omega) with rfl | rfl | rfl | rfl | rfl | rfl | rfl | rfl <;> decide +kernel

theorem g_turnings {M : Mem} : CallsTo PG F.impl_turnings [] M (.ref M.length 0 turns.length) (M ++ [some (.row (sixL turns) true 6)]) := by
  refine calls_run K.impl_turnings rfl ?_
  simp (disch := omega) only [C.impl_turnings, ↓SXd, SXu, slBounds, ↓sop, ↓aop, ↓reduceIte, LV.cells, AOp.dst, LV.I, LV.B, LV.U, LV.S, LV.nil, Nat.reduceEqDiff, Nat.reduceAdd, Nat.reduceMul, Nat.reduceSub, Nat.reduceLeDiff, Nat.reduceBEq, Nat.reduceDiv, Nat.reduceMod, Int.reduceToNat, Int.reduceLT, Int.reduceLE, Int.reduceAdd, Int.reduceSub, Int.reduceMul, Int.reduceEq, Int.reduceNeg, reduceCtorEq, resV, resAll, ARes.ev, LV.flat, ite_true, ite_false, exists_eq_left', exists_eq_left, keyOf, implies_true, fillC, capOf]
  refine callK_of (g_orders) ?_
  simp (disch := omega) only [↓SXd, SXu, slBounds, ↓sop, ↓aop, ↓reduceIte, LV.cells, AOp.dst, LV.I, LV.B, LV.U, LV.S, LV.nil, Nat.reduceEqDiff, Nat.reduceAdd, Nat.reduceMul, Nat.reduceSub, Nat.reduceLeDiff, Nat.reduceBEq, Nat.reduceDiv, Nat.reduceMod, Int.reduceToNat, Int.reduceLT, Int.reduceLE, Int.reduceAdd, Int.reduceSub, Int.reduceMul, Int.reduceEq, Int.reduceNeg, reduceCtorEq, resV, resAll, ARes.ev, LV.flat, ite_true, ite_false, exists_eq_left', exists_eq_left, keyOf, implies_true, fillC, capOf]
  refine ev_loop (fun m fr M' => ∃ o u : Nat, o + m = 6 ∧ Pre M M' ∧ M.length ≤ u ∧ u ≠ M.length + 1 ∧ Live M' (M.length + 1) (.row (triL ordersL) true 3) ∧ Live M' u (.row (sixL (turnsU (nO o))) true 6) ∧ fr 1 = .ref u 0 (turnsU (nO o)).length ∧ fr 10 = .ref (M.length + 1) 0 6 ∧ fr 11 = .I 6 ∧ fr 12 = .I o) 6
    ⟨0, M.length, rfl, Pre.app _ _, by omega, by omega, Live.newj rfl, by rw [show turnsU (nO 0) = [] by decide +kernel]; exact Live.new, by rw [show turnsU (nO 0) = [] by decide +kernel]; rfl, rfl, rfl, rfl⟩ ?_
  rintro m fr M' ⟨o, u, ho, hpre, hu, hu1, bo, bu, f1, f10, f11, f12⟩
  simp (disch := omega) only [f1, f10, f11, f12, ↓SXd, SXu, slBounds, ↓sop, ↓aop, ↓reduceIte, LV.cells, AOp.dst, LV.I, LV.B, LV.U, LV.S, LV.nil, Nat.reduceEqDiff, Nat.reduceAdd, Nat.reduceMul, Nat.reduceSub, Nat.reduceLeDiff, Nat.reduceBEq, Nat.reduceDiv, Nat.reduceMod, Int.reduceToNat, Int.reduceLT, Int.reduceLE, Int.reduceAdd, Int.reduceSub, Int.reduceMul, Int.reduceEq, Int.reduceNeg, reduceCtorEq, resV, resAll, ARes.ev, LV.flat, ite_true, ite_false, exists_eq_left', exists_eq_left, keyOf, implies_true, fillC, capOf]
  refine condC_dec (fun hlt => ?_) (fun hlt => ?_)
  rotate_left
  · simp (disch := omega) only [f1, f10, f11, f12, ↓SXd, SXu, slBounds, ↓sop, ↓aop, ↓reduceIte, LV.cells, AOp.dst, LV.I, LV.B, LV.U, LV.S, LV.nil, Nat.reduceEqDiff, Nat.reduceAdd, Nat.reduceMul, Nat.reduceSub, Nat.reduceLeDiff, Nat.reduceBEq, Nat.reduceDiv, Nat.reduceMod, Int.reduceToNat, Int.reduceLT, Int.reduceLE, Int.reduceAdd, Int.reduceSub, Int.reduceMul, Int.reduceEq, Int.reduceNeg, reduceCtorEq, resV, resAll, ARes.ev, LV.flat, ite_true, ite_false, exists_eq_left', exists_eq_left, keyOf, implies_true, fillC, capOf]
    have : o = 6 := by omega
    subst this
    have e : turnsU (nO 6) = turns := rfl
    rw [e] at bu f1 ⊢
    exact cmp_keepL hpre hu bu (sixL_lo _) (by simp [rn, rn0, rn1])
  · have ho6 : o < 6 := by omega
    obtain ⟨⟨a, b, ha3, hb3, hab, hc, hn⟩, hnx⟩ := orders_at ho6
    have hg := bo.tri0 (k := o) ho6
    rw [hc] at hg
    have hl := bo.lt
    have hlu := bu.lt
    simp (disch := omega) only [f1, f10, f11, f12, hg, splice, Cell.row, ↓SXd, SXu, slBounds, ↓sop, ↓aop, ↓reduceIte, LV.cells, AOp.dst, LV.I, LV.B, LV.U, LV.S, LV.nil, Nat.reduceEqDiff, Nat.reduceAdd, Nat.reduceMul, Nat.reduceSub, Nat.reduceLeDiff, Nat.reduceBEq, Nat.reduceDiv, Nat.reduceMod, Int.reduceToNat, Int.reduceLT, Int.reduceLE, Int.reduceAdd, Int.reduceSub, Int.reduceMul, Int.reduceEq, Int.reduceNeg, reduceCtorEq, resV, resAll, ARes.ev, LV.flat, ite_true, ite_false, exists_eq_left', exists_eq_left, keyOf, implies_true, fillC, capOf]
    have e3 : Live (M' ++ [some (.row (Cell.row ⟨a, b, 3 - a - b⟩) true 0)]) M'.length (.row (Cell.row ⟨a, b, 3 - a - b⟩) true 0) := Live.new
    have hp1 : Pre M' (M' ++ [some (.row (Cell.row ⟨a, b, 3 - a - b⟩) true 0)]) := Pre.app _ _
    refine ev_loop (fun m2 fr N => ∃ i : Nat, i + m2 = 3 ∧ N = M' ++ [some (.row (Cell.row ⟨a, b, 3 - a - b⟩) true 0)] ∧ fr 1 = .ref u 0 (turnsU (nO o)).length ∧ fr 10 = .ref (M.length + 1) 0 6 ∧ fr 11 = .I 6 ∧ fr 12 = .I o ∧ fr 3 = .ptr M'.length 0 ∧ fr 4 = .I (oddK ⟨a, b, 3 - a - b⟩ i 0) ∧ fr 16 = .I i) 3
      ⟨0, rfl, rfl, f1, f10, f11, f12, rfl, rfl, rfl⟩ ?_
    clear f1 f10 f11 f12
    rintro m2 fr N ⟨i, hi, rfl, f1, f10, f11, f12, f3, f4, f16⟩
    simp (disch := omega) only [f1, f10, f11, f12, f3, f4, f16, ↓SXd, SXu, slBounds, ↓sop, ↓aop, ↓reduceIte, LV.cells, AOp.dst, LV.I, LV.B, LV.U, LV.S, LV.nil, Nat.reduceEqDiff, Nat.reduceAdd, Nat.reduceMul, Nat.reduceSub, Nat.reduceLeDiff, Nat.reduceBEq, Nat.reduceDiv, Nat.reduceMod, Int.reduceToNat, Int.reduceLT, Int.reduceLE, Int.reduceAdd, Int.reduceSub, Int.reduceMul, Int.reduceEq, Int.reduceNeg, reduceCtorEq, resV, resAll, ARes.ev, LV.flat, ite_true, ite_false, exists_eq_left', exists_eq_left, keyOf, implies_true, fillC, capOf]
    refine condC_dec (fun hlt2 => ?_) (fun hlt2 => ?_)
    · simp (disch := omega) only [f1, f10, f11, f12, f3, f4, f16, ↓SXd, SXu, slBounds, ↓sop, ↓aop, ↓reduceIte, LV.cells, AOp.dst, LV.I, LV.B, LV.U, LV.S, LV.nil, Nat.reduceEqDiff, Nat.reduceAdd, Nat.reduceMul, Nat.reduceSub, Nat.reduceLeDiff, Nat.reduceBEq, Nat.reduceDiv, Nat.reduceMod, Int.reduceToNat, Int.reduceLT, Int.reduceLE, Int.reduceAdd, Int.reduceSub, Int.reduceMul, Int.reduceEq, Int.reduceNeg, reduceCtorEq, resV, resAll, ARes.ev, LV.flat, ite_true, ite_false, exists_eq_left', exists_eq_left, keyOf, implies_true, fillC, capOf]
      refine ev_loop (fun m3 fr N => ∃ k : Nat, k + m3 = i ∧ N = M' ++ [some (.row (Cell.row ⟨a, b, 3 - a - b⟩) true 0)] ∧ fr 1 = .ref u 0 (turnsU (nO o)).length ∧ fr 10 = .ref (M.length + 1) 0 6 ∧ fr 11 = .I 6 ∧ fr 12 = .I o ∧ fr 3 = .ptr M'.length 0 ∧ fr 4 = .I (oddK ⟨a, b, 3 - a - b⟩ i k) ∧ fr 16 = .I i ∧ fr 5 = .I i ∧ fr 19 = .I i ∧ fr 20 = .I k) i
        ⟨0, by omega, rfl, f1, f10, f11, f12, f3, f4, f16, rfl, rfl, rfl⟩ ?_
      clear f1 f10 f11 f12 f3 f4 f16
      rintro m3 fr N ⟨k, hk, rfl, f1, f10, f11, f12, f3, f4, f16, f5, f19, f20⟩
      simp (disch := omega) only [f1, f10, f11, f12, f3, f4, f16, f5, f19, f20, ↓SXd, SXu, slBounds, ↓sop, ↓aop, ↓reduceIte, LV.cells, AOp.dst, LV.I, LV.B, LV.U, LV.S, LV.nil, Nat.reduceEqDiff, Nat.reduceAdd, Nat.reduceMul, Nat.reduceSub, Nat.reduceLeDiff, Nat.reduceBEq, Nat.reduceDiv, Nat.reduceMod, Int.reduceToNat, Int.reduceLT, Int.reduceLE, Int.reduceAdd, Int.reduceSub, Int.reduceMul, Int.reduceEq, Int.reduceNeg, reduceCtorEq, resV, resAll, ARes.ev, LV.flat, ite_true, ite_false, exists_eq_left', exists_eq_left, keyOf, implies_true, fillC, capOf]
      refine condC_dec (fun hlt3 => ?_) (fun hlt3 => ?_)
      · obtain ⟨hb1, hb2⟩ := oddK_le (c := ⟨a, b, 3 - a - b⟩) (i := i) (k := k)
        have q1 := e3.cell (o := k)
        have q2 := e3.cell (o := i)
        rw [Cell.row_at (by omega)] at q1 q2
        simp (disch := omega) only [f1, f10, f11, f12, f3, f4, f16, f5, f19, f20, q1, q2, Nat.mul_one, ↓SXd, SXu, slBounds, ↓sop, ↓aop, ↓reduceIte, LV.cells, AOp.dst, LV.I, LV.B, LV.U, LV.S, LV.nil, Nat.reduceEqDiff, Nat.reduceAdd, Nat.reduceMul, Nat.reduceSub, Nat.reduceLeDiff, Nat.reduceBEq, Nat.reduceDiv, Nat.reduceMod, Int.reduceToNat, Int.reduceLT, Int.reduceLE, Int.reduceAdd, Int.reduceSub, Int.reduceMul, Int.reduceEq, Int.reduceNeg, reduceCtorEq, resV, resAll, ARes.ev, LV.flat, ite_true, ite_false, exists_eq_left', exists_eq_left, keyOf, implies_true, fillC, capOf]
        have hik : (i = 1 ∧ k = 0) ∨ (i = 2 ∧ k = 0) ∨ (i = 2 ∧ k = 1) := by omega
        refine condC_dec (fun hgt => ?_) (fun hgt => ?_)
        · simp (disch := omega) only [f1, f10, f11, f12, f3, f4, f16, f5, f19, f20, ↓SXd, SXu, slBounds, ↓sop, ↓aop, ↓reduceIte, LV.cells, AOp.dst, LV.I, LV.B, LV.U, LV.S, LV.nil, Nat.reduceEqDiff, Nat.reduceAdd, Nat.reduceMul, Nat.reduceSub, Nat.reduceLeDiff, Nat.reduceBEq, Nat.reduceDiv, Nat.reduceMod, Int.reduceToNat, Int.reduceLT, Int.reduceLE, Int.reduceAdd, Int.reduceSub, Int.reduceMul, Int.reduceEq, Int.reduceNeg, reduceCtorEq, resV, resAll, ARes.ev, LV.flat, ite_true, ite_false, exists_eq_left', exists_eq_left, keyOf, implies_true, fillC, capOf]
          refine ⟨m3 - 1, by omega, k + 1, by omega, rfl, f1, f10, f11, f12, f3, eqI ?_, f16, f5, f19, eqI (natI _)⟩
          rcases hik with ⟨rfl, rfl⟩ | ⟨rfl, rfl⟩ | ⟨rfl, rfl⟩ <;> simp [oddK, Cell.at] at hgt ⊢ <;> simp [hgt] <;> omega
        · simp (disch := omega) only [f1, f10, f11, f12, f3, f4, f16, f5, f19, f20, ↓SXd, SXu, slBounds, ↓sop, ↓aop, ↓reduceIte, LV.cells, AOp.dst, LV.I, LV.B, LV.U, LV.S, LV.nil, Nat.reduceEqDiff, Nat.reduceAdd, Nat.reduceMul, Nat.reduceSub, Nat.reduceLeDiff, Nat.reduceBEq, Nat.reduceDiv, Nat.reduceMod, Int.reduceToNat, Int.reduceLT, Int.reduceLE, Int.reduceAdd, Int.reduceSub, Int.reduceMul, Int.reduceEq, Int.reduceNeg, reduceCtorEq, resV, resAll, ARes.ev, LV.flat, ite_true, ite_false, exists_eq_left', exists_eq_left, keyOf, implies_true, fillC, capOf]
          refine ⟨m3 - 1, by omega, k + 1, by omega, rfl, f1, f10, f11, f12, f3, f4.trans (eqI ?_), f16, f5, f19, eqI (natI _)⟩
          rcases hik with ⟨rfl, rfl⟩ | ⟨rfl, rfl⟩ | ⟨rfl, rfl⟩ <;> simp [oddK, Cell.at] at hgt ⊢ <;> omega
      · simp (disch := omega) only [f1, f10, f11, f12, f3, f4, f16, f5, f19, f20, ↓SXd, SXu, slBounds, ↓sop, ↓aop, ↓reduceIte, LV.cells, AOp.dst, LV.I, LV.B, LV.U, LV.S, LV.nil, Nat.reduceEqDiff, Nat.reduceAdd, Nat.reduceMul, Nat.reduceSub, Nat.reduceLeDiff, Nat.reduceBEq, Nat.reduceDiv, Nat.reduceMod, Int.reduceToNat, Int.reduceLT, Int.reduceLE, Int.reduceAdd, Int.reduceSub, Int.reduceMul, Int.reduceEq, Int.reduceNeg, reduceCtorEq, resV, resAll, ARes.ev, LV.flat, ite_true, ite_false, exists_eq_left', exists_eq_left, keyOf, implies_true, fillC, capOf]
        have : k = i := by omega
        subst this
        refine ⟨m2 - 1, by omega, k + 1, by omega, rfl, f1, f10, f11, f12, f3, f4.trans (eqI ?_), eqI (natI _)⟩
        rcases (show k = 0 ∨ k = 1 ∨ k = 2 by omega) with rfl | rfl | rfl <;> simp [oddK]
    · simp (disch := omega) only [f1, f10, f11, f12, f3, f4, f16, ↓SXd, SXu, slBounds, ↓sop, ↓aop, ↓reduceIte, LV.cells, AOp.dst, LV.I, LV.B, LV.U, LV.S, LV.nil, Nat.reduceEqDiff, Nat.reduceAdd, Nat.reduceMul, Nat.reduceSub, Nat.reduceLeDiff, Nat.reduceBEq, Nat.reduceDiv, Nat.reduceMod, Int.reduceToNat, Int.reduceLT, Int.reduceLE, Int.reduceAdd, Int.reduceSub, Int.reduceMul, Int.reduceEq, Int.reduceNeg, reduceCtorEq, resV, resAll, ARes.ev, LV.flat, ite_true, ite_false, exists_eq_left', exists_eq_left, keyOf, implies_true, fillC, capOf]
      have : i = 3 := by omega
      subst this
      have hod : oddOf ⟨a, b, 3 - a - b⟩ = oddK ⟨a, b, 3 - a - b⟩ 3 0 % 2 := by simp [oddK, oddOf]
      obtain ⟨hb1, hb2⟩ := oddK_le (c := ⟨a, b, 3 - a - b⟩) (i := 3) (k := 0)
      generalize oddK ⟨a, b, 3 - a - b⟩ 3 0 = O at hod hb1 hb2 f4
      refine ev_loop (fun m4 fr N => ∃ f u : Nat, f + m4 = 8 ∧ Pre M N ∧ M.length ≤ u ∧ u ≠ M.length + 1 ∧ u ≠ M'.length ∧ M'.length < N.length ∧ Live N (M.length + 1) (.row (triL ordersL) true 3) ∧ Live N M'.length (.row (Cell.row ⟨a, b, 3 - a - b⟩) true 0) ∧ Live N u (.row (sixL (turnsU (nO o + f))) true 6) ∧ fr 1 = .ref u 0 (turnsU (nO o + f)).length ∧ fr 10 = .ref (M.length + 1) 0 6 ∧ fr 11 = .I 6 ∧ fr 12 = .I o ∧ fr 3 = .ptr M'.length 0 ∧ fr 4 = .I O ∧ fr 34 = .I f) 8
        ⟨0, u, rfl, hpre.trans hp1, hu, hu1, by omega, e3.lt, bo.app, e3, bu.app, f1, f10, f11, f12, f3, f4, rfl⟩ ?_
      clear f1 f10 f11 f12 f3 f4 f16 e3 hp1 bo bu hg hlu hl hpre
      rintro m4 fr N ⟨f, u, hf, hpre, hu, hu1, hu2, hNM, bo, e3, bu, f1, f10, f11, f12, f3, f4, f34⟩
      simp (disch := omega) only [f1, f10, f11, f12, f3, f4, f34, ↓SXd, SXu, slBounds, ↓sop, ↓aop, ↓reduceIte, LV.cells, AOp.dst, LV.I, LV.B, LV.U, LV.S, LV.nil, Nat.reduceEqDiff, Nat.reduceAdd, Nat.reduceMul, Nat.reduceSub, Nat.reduceLeDiff, Nat.reduceBEq, Nat.reduceDiv, Nat.reduceMod, Int.reduceToNat, Int.reduceLT, Int.reduceLE, Int.reduceAdd, Int.reduceSub, Int.reduceMul, Int.reduceEq, Int.reduceNeg, reduceCtorEq, resV, resAll, ARes.ev, LV.flat, ite_true, ite_false, exists_eq_left', exists_eq_left, keyOf, implies_true, fillC, capOf]
      refine condC_dec (fun hlt3 => ?_) (fun hlt3 => ?_)
      · obtain ⟨h1, h2, h3⟩ := sh_and (f := f) (by omega)
        have h4 := sh_div (f := f) (by omega)
        simp (disch := omega) only [f1, f10, f11, f12, f3, f4, f34, splice, h2, h3, h4, ↓SXd, SXu, slBounds, ↓sop, ↓aop, ↓reduceIte, LV.cells, AOp.dst, LV.I, LV.B, LV.U, LV.S, LV.nil, Nat.reduceEqDiff, Nat.reduceAdd, Nat.reduceMul, Nat.reduceSub, Nat.reduceLeDiff, Nat.reduceBEq, Nat.reduceDiv, Nat.reduceMod, Int.reduceToNat, Int.reduceLT, Int.reduceLE, Int.reduceAdd, Int.reduceSub, Int.reduceMul, Int.reduceEq, Int.reduceNeg, reduceCtorEq, resV, resAll, ARes.ev, LV.flat, ite_true, ite_false, exists_eq_left', exists_eq_left, keyOf, implies_true, fillC, capOf]
        have hta := turnAt_at (a := a) (b := b) (f := f) hb3 (by omega)
        have hus := turnsU_succ (n := nO o + f)
        rw [hn] at hus bu f1
        have hul := turnsU_len (n := (a * 3 + b) * 8 + f)
        have e8 := Live.new (M := N) (L := []) (b := .row [.I ((f / 4 : Nat) : Int), .I ((f / 2 % 2 : Nat) : Int), .I ((f % 2 : Nat) : Int)] true 0)
        have hp1 : Pre N (N ++ [some (.row [.I ((f / 4 : Nat) : Int), .I ((f / 2 % 2 : Nat) : Int), .I ((f % 2 : Nat) : Int)] true 0)]) := Pre.app _ _
        generalize N ++ [some (.row [.I ((f / 4 : Nat) : Int), .I ((f / 2 % 2 : Nat) : Int), .I ((f % 2 : Nat) : Int)] true 0)] = N1 at e8 hp1 ⊢
        have hN1 := hp1.1
        have c3 := e3.pre hp1
        have hlu := bu.lt
        refine condC_dec (fun hq => ?_) (fun hq => ?_)
        · rw [Int.tmod_eq_emod_of_nonneg (by omega)] at hq
          rw [if_pos ⟨hab, by rw [hod]; omega⟩] at hta
          rw [hta] at hus
          simp (disch := omega) only [f1, f10, f11, f12, f3, f4, f34, f1, e8.cells, c3.cells, Cell.row, splice, ↓SXd, SXu, slBounds, ↓sop, ↓aop, ↓reduceIte, LV.cells, AOp.dst, LV.I, LV.B, LV.U, LV.S, LV.nil, Nat.reduceEqDiff, Nat.reduceAdd, Nat.reduceMul, Nat.reduceSub, Nat.reduceLeDiff, Nat.reduceBEq, Nat.reduceDiv, Nat.reduceMod, Int.reduceToNat, Int.reduceLT, Int.reduceLE, Int.reduceAdd, Int.reduceSub, Int.reduceMul, Int.reduceEq, Int.reduceNeg, reduceCtorEq, resV, resAll, ARes.ev, LV.flat, ite_true, ite_false, exists_eq_left', exists_eq_left, keyOf, implies_true, fillC, capOf]
          refine appendK_1 (e := 6) (b := 48) (acc := sixL (turnsU ((a * 3 + b) * 8 + f))) (new := Turn.row ⟨⟨a, b, 3 - a - b⟩, ⟨((f / 4 : Nat) : Int), ((f / 2 % 2 : Nat) : Int), ((f % 2 : Nat) : Int)⟩⟩) (bu.pre hp1) (by rw [sixL_len]) rfl (by omega) (by omega) (by omega) fun N' l1 l2 l3 => ?_
          simp (disch := omega) only [f1, f10, f11, f12, f3, f4, f34, ↓SXd, SXu, slBounds, ↓sop, ↓aop, ↓reduceIte, LV.cells, AOp.dst, LV.I, LV.B, LV.U, LV.S, LV.nil, Nat.reduceEqDiff, Nat.reduceAdd, Nat.reduceMul, Nat.reduceSub, Nat.reduceLeDiff, Nat.reduceBEq, Nat.reduceDiv, Nat.reduceMod, Int.reduceToNat, Int.reduceLT, Int.reduceLE, Int.reduceAdd, Int.reduceSub, Int.reduceMul, Int.reduceEq, Int.reduceNeg, reduceCtorEq, resV, resAll, ARes.ev, LV.flat, ite_true, ite_false, exists_eq_left', exists_eq_left, keyOf, implies_true, fillC, capOf]
          refine ⟨m4 - 1, by omega, f + 1, N1.length + 1, by omega, pre_step (hpre.trans hp1) hu l1 l3, by have := hpre.1; omega, by have := hpre.1; omega, by omega, by omega, live_step (bo.pre hp1) (by omega) l3, live_step c3 (by omega) l3, ?_, ?_, f10, f11, f12, f3, f4, eqI (natI _)⟩
          · rw [← Nat.add_assoc, hn, hus, sixL_append]
            exact l2
          · rw [← Nat.add_assoc, hn, hus, List.length_append]; rfl
        · rw [Int.tmod_eq_emod_of_nonneg (by omega)] at hq
          rw [if_neg (fun h => hq (by have := h.2; rw [hod] at this; omega))] at hta
          rw [hta] at hus
          simp only [Option.toList, List.append_nil] at hus
          simp (disch := omega) only [f1, f10, f11, f12, f3, f4, f34, ↓SXd, SXu, slBounds, ↓sop, ↓aop, ↓reduceIte, LV.cells, AOp.dst, LV.I, LV.B, LV.U, LV.S, LV.nil, Nat.reduceEqDiff, Nat.reduceAdd, Nat.reduceMul, Nat.reduceSub, Nat.reduceLeDiff, Nat.reduceBEq, Nat.reduceDiv, Nat.reduceMod, Int.reduceToNat, Int.reduceLT, Int.reduceLE, Int.reduceAdd, Int.reduceSub, Int.reduceMul, Int.reduceEq, Int.reduceNeg, reduceCtorEq, resV, resAll, ARes.ev, LV.flat, ite_true, ite_false, exists_eq_left', exists_eq_left, keyOf, implies_true, fillC, capOf]
          refine ⟨m4 - 1, by omega, f + 1, u, by omega, hpre.trans hp1, hu, hu1, hu2, by omega, bo.pre hp1, c3, ?_, ?_, f10, f11, f12, f3, f4, eqI (natI _)⟩
          · rw [← Nat.add_assoc, hn, hus]; exact bu.pre hp1
          · rw [← Nat.add_assoc, hn, hus]; exact f1
      · simp (disch := omega) only [f1, f10, f11, f12, f3, f4, f34, ↓SXd, SXu, slBounds, ↓sop, ↓aop, ↓reduceIte, LV.cells, AOp.dst, LV.I, LV.B, LV.U, LV.S, LV.nil, Nat.reduceEqDiff, Nat.reduceAdd, Nat.reduceMul, Nat.reduceSub, Nat.reduceLeDiff, Nat.reduceBEq, Nat.reduceDiv, Nat.reduceMod, Int.reduceToNat, Int.reduceLT, Int.reduceLE, Int.reduceAdd, Int.reduceSub, Int.reduceMul, Int.reduceEq, Int.reduceNeg, reduceCtorEq, resV, resAll, ARes.ev, LV.flat, ite_true, ite_false, exists_eq_left', exists_eq_left, keyOf, implies_true, fillC, capOf]
        have : f = 8 := by omega
        subst this
        rw [hnx] at bu f1
        exact ⟨m - 1, by omega, o + 1, u, by omega, hpre, hu, hu1, bo, bu, f1, f10, f11, eqI (natI _)⟩
end Go.Ab

/- Contracts: the program's turned heaps. -/
namespace Go.Ab
open Go
set_option linter.unusedSimpArgs false
set_option linter.unusedVariables false

theorem g_moved {x y z X Y Z : Int} {t o : Nat} {cs : List Cell} {g : Cell → Cell} {f : FuncId} {caps : List (Nat × Nat)} {M : Mem} (h : Tri M t o cs) (hn : cs.length ≤ 1000000) (hS : Sides X Y Z) (hin : ∀ c ∈ cs, (g c).inBox X Y Z)
    (hf : ∀ M', Pre M M' → ∀ c ∈ cs, CallsTo PG f ([.agg [.I c.a, .I c.b, .I c.c]] ++ caps.map fun p => .ptr p.1 p.2) M' (.agg [.I (g c).a, .I (g c).b, .I (g c).c]) M') :
    CallsTo PG F.impl_Heap_moved [.agg [.I x, .I y, .I z, .ref t o cs.length], .agg [.I X, .I Y, .I Z], .clo f caps] M (.agg [.I X, .I Y, .I Z, .ref M.length 0 (pick X Y Z fun d => decide (d ∈ cs.map g)).length])
      (M ++ [some (.row (triL (pick X Y Z fun d => decide (d ∈ cs.map g))) true 3)]) := by
  have ht := h.lt
  refine calls_run K.impl_Heap_moved rfl ?_
  simp (disch := omega) only [C.impl_Heap_moved, ↓SXd, SXu, slBounds, ↓sop, ↓aop, ↓reduceIte, LV.cells, AOp.dst, LV.I, LV.B, LV.U, LV.S, LV.nil, Nat.reduceEqDiff, Nat.reduceAdd, Nat.reduceMul, Nat.reduceSub, Nat.reduceLeDiff, Nat.reduceBEq, Nat.reduceDiv, Nat.reduceMod, Int.reduceToNat, Int.reduceLT, Int.reduceLE, Int.reduceAdd, Int.reduceSub, Int.reduceMul, Int.reduceEq, Int.reduceNeg, reduceCtorEq, resV, resAll, ARes.ev, LV.flat, ite_true, ite_false, exists_eq_left', exists_eq_left, keyOf, implies_true, fillC, capOf]
  have hLl : (cs.map g).length = cs.length := List.length_map ..
  have hLg : ∀ i, i < cs.length → (cs.map g).getD i default = g (cs.getD i default) := fun i hi => by simp [hi]
  generalize cs.map g = L at hLl hLg ⊢
  refine ev_loop (fun m fr M' => ∃ i : Nat, i + m = cs.length ∧ Pre M M' ∧ Live M' M.length (.row [.I x, .I y, .I z, .ref t o cs.length] true 0) ∧ Live M' (M.length + 1) (.row [.I X, .I Y, .I Z] true 0) ∧ Live M' (M.length + 2) (.row [.I 0, .I 0, .I 0, .nil] true 0) ∧
    fr 2 = .clo f caps ∧ fr 3 = .ptr M.length 0 ∧ fr 4 = .ptr (M.length + 1) 0 ∧ fr 6 = .ptr (M.length + 2) 0 ∧ fr 7 = .W (bs X Y Z fun d => decide (d ∈ L.take i)) ∧ fr 11 = .ref t o cs.length ∧ fr 12 = .I cs.length ∧ fr 13 = .I i) cs.length
    ⟨0, by omega, Pre.app _ _, Live.new, Live.newj rfl, Live.newj rfl, rfl, rfl, rfl, rfl, by rw [show (bs X Y Z fun d => decide (d ∈ L.take 0)) = 0#64 from (bs_zero hS).2 fun c _ => by simp]; rfl, rfl, rfl, rfl⟩ ?_
  rintro m fr M' ⟨i, hi, hpre, b3, b4, b6, f2, f3, f4, f6, f7, f11, f12, f13⟩
  simp (disch := omega) only [f2, f3, f4, f6, f7, f11, f12, f13, ↓SXd, SXu, slBounds, ↓sop, ↓aop, ↓reduceIte, LV.cells, AOp.dst, LV.I, LV.B, LV.U, LV.S, LV.nil, Nat.reduceEqDiff, Nat.reduceAdd, Nat.reduceMul, Nat.reduceSub, Nat.reduceLeDiff, Nat.reduceBEq, Nat.reduceDiv, Nat.reduceMod, Int.reduceToNat, Int.reduceLT, Int.reduceLE, Int.reduceAdd, Int.reduceSub, Int.reduceMul, Int.reduceEq, Int.reduceNeg, reduceCtorEq, resV, resAll, ARes.ev, LV.flat, ite_true, ite_false, exists_eq_left', exists_eq_left, keyOf, implies_true, fillC, capOf]
  refine condC_dec (fun hlt => ?_) (fun hlt => ?_)
  · have hil : i < cs.length := by omega
    have hg := Tri.get (h.pre hpre) hil
    have hmem := getD_mem' (d := default) hil
    have hLi := hLg i hil
    have htd := fun d => take_dec (cs := L) (k := i) (c := d) (by omega)
    have hgi := hin _ hmem
    have hfi := hf (M' ++ [some (.row [.I (cs.getD i default).a, .I (cs.getD i default).b, .I (cs.getD i default).c] true 0)]) (hpre.trans (Pre.app _ _)) _ hmem
    generalize cs.getD i default = c at hg hLi hmem hgi hfi
    have hix := (idx_in hS hgi).1
    have hl6 := b6.lt
    simp (disch := omega) only [f2, f3, f4, f6, f7, f11, f12, f13, hg, Cell.row, splice, b4.app.cells, List.getElem?_append_left, ↓SXd, SXu, slBounds, ↓sop, ↓aop, ↓reduceIte, LV.cells, AOp.dst, LV.I, LV.B, LV.U, LV.S, LV.nil, Nat.reduceEqDiff, Nat.reduceAdd, Nat.reduceMul, Nat.reduceSub, Nat.reduceLeDiff, Nat.reduceBEq, Nat.reduceDiv, Nat.reduceMod, Int.reduceToNat, Int.reduceLT, Int.reduceLE, Int.reduceAdd, Int.reduceSub, Int.reduceMul, Int.reduceEq, Int.reduceNeg, reduceCtorEq, resV, resAll, ARes.ev, LV.flat, ite_true, ite_false, exists_eq_left', exists_eq_left, keyOf, implies_true, fillC, capOf]
    refine callK_of hfi ?_
    simp (disch := omega) only [f2, f3, f4, f6, f7, f11, f12, f13, List.getElem?_append_left, ↓SXd, SXu, slBounds, ↓sop, ↓aop, ↓reduceIte, LV.cells, AOp.dst, LV.I, LV.B, LV.U, LV.S, LV.nil, Nat.reduceEqDiff, Nat.reduceAdd, Nat.reduceMul, Nat.reduceSub, Nat.reduceLeDiff, Nat.reduceBEq, Nat.reduceDiv, Nat.reduceMod, Int.reduceToNat, Int.reduceLT, Int.reduceLE, Int.reduceAdd, Int.reduceSub, Int.reduceMul, Int.reduceEq, Int.reduceNeg, reduceCtorEq, resV, resAll, ARes.ev, LV.flat, ite_true, ite_false, exists_eq_left', exists_eq_left, keyOf, implies_true, fillC, capOf]
    refine callK_of (g_index hS hgi) ?_
    simp (disch := omega) only [f2, f3, f4, f6, f7, f11, f12, f13, ↓SXd, SXu, slBounds, ↓sop, ↓aop, ↓reduceIte, LV.cells, AOp.dst, LV.I, LV.B, LV.U, LV.S, LV.nil, Nat.reduceEqDiff, Nat.reduceAdd, Nat.reduceMul, Nat.reduceSub, Nat.reduceLeDiff, Nat.reduceBEq, Nat.reduceDiv, Nat.reduceMod, Int.reduceToNat, Int.reduceLT, Int.reduceLE, Int.reduceAdd, Int.reduceSub, Int.reduceMul, Int.reduceEq, Int.reduceNeg, reduceCtorEq, resV, resAll, ARes.ev, LV.flat, ite_true, ite_false, exists_eq_left', exists_eq_left, keyOf, implies_true, fillC, capOf]
    rw [bs_one hS hgi, bs_or hS, show (bs X Y Z fun d => decide (d ∈ L.take i) || decide (d = g c)) = bs X Y Z fun d => decide (d ∈ L.take (i + 1)) from (bs_eq hS).2 fun d _ => by rw [← hLi]; exact htd d]
    exact ⟨m - 1, by omega, i + 1, by omega, hpre.app', b3.app, b4.app, b6.app, f2, f3, f4, f6, rfl, f11, f12, eqI (natI _)⟩
  · simp (disch := omega) only [f2, f3, f4, f6, f7, f11, f12, f13, b4.cells, ↓SXd, SXu, slBounds, ↓sop, ↓aop, ↓reduceIte, LV.cells, AOp.dst, LV.I, LV.B, LV.U, LV.S, LV.nil, Nat.reduceEqDiff, Nat.reduceAdd, Nat.reduceMul, Nat.reduceSub, Nat.reduceLeDiff, Nat.reduceBEq, Nat.reduceDiv, Nat.reduceMod, Int.reduceToNat, Int.reduceLT, Int.reduceLE, Int.reduceAdd, Int.reduceSub, Int.reduceMul, Int.reduceEq, Int.reduceNeg, reduceCtorEq, resV, resAll, ARes.ev, LV.flat, ite_true, ite_false, exists_eq_left', exists_eq_left, keyOf, implies_true, fillC, capOf]
    have : i = cs.length := by omega
    subst this
    rw [← hLl, List.take_length]
    refine callH_of (g_heap hS) ?_
    intro tn N htn hp2 hnr
    simp (disch := omega) only [f2, f3, f4, f6, f7, f11, f12, f13, ↓SXd, SXu, slBounds, ↓sop, ↓aop, ↓reduceIte, LV.cells, AOp.dst, LV.I, LV.B, LV.U, LV.S, LV.nil, Nat.reduceEqDiff, Nat.reduceAdd, Nat.reduceMul, Nat.reduceSub, Nat.reduceLeDiff, Nat.reduceBEq, Nat.reduceDiv, Nat.reduceMod, Int.reduceToNat, Int.reduceLT, Int.reduceLE, Int.reduceAdd, Int.reduceSub, Int.reduceMul, Int.reduceEq, Int.reduceNeg, reduceCtorEq, resV, resAll, ARes.ev, LV.flat, ite_true, ite_false, exists_eq_left', exists_eq_left, keyOf, implies_true, fillC, capOf]
    have hN := hp2.1
    have hl6 := b6.lt
    refine memK_box (b6.pre hp2) (by simp) fun N3 k1 k2 k3 => ?_
    simp (disch := omega) only [f2, f3, f4, f6, f7, f11, f12, f13, k2.cells, ↓SXd, SXu, slBounds, ↓sop, ↓aop, ↓reduceIte, LV.cells, AOp.dst, LV.I, LV.B, LV.U, LV.S, LV.nil, Nat.reduceEqDiff, Nat.reduceAdd, Nat.reduceMul, Nat.reduceSub, Nat.reduceLeDiff, Nat.reduceBEq, Nat.reduceDiv, Nat.reduceMod, Int.reduceToNat, Int.reduceLT, Int.reduceLE, Int.reduceAdd, Int.reduceSub, Int.reduceMul, Int.reduceEq, Int.reduceNeg, reduceCtorEq, resV, resAll, ARes.ev, LV.flat, ite_true, ite_false, exists_eq_left', exists_eq_left, keyOf, implies_true, fillC, capOf]
    exact cmp_keepL (pre_step (hpre.trans hp2) (by omega) (j := 0) k1 k3) (by omega) (live_step hnr (by omega) k3) (triL_lo _) (by simp [rn, rn0, rn1])

theorem Cell.row_dir {c : Cell} {s : Int} (h : Dir s) : c.row[s.toNat]? = some (.I (c.at s)) := by
  rcases h with rfl | rfl | rfl <;> rfl
theorem side_row {x y z : Int} {T : Turn} {d : Nat} (hd : d < 3) : [LV.I (sideOf x y z T.fr.a), .I (sideOf x y z T.fr.b), .I (sideOf x y z T.fr.c)][d]? = some (.I (sideOf x y z (T.fr.at d))) := by
  rcases (show d = 0 ∨ d = 1 ∨ d = 2 by omega) with rfl | rfl | rfl <;> rfl
theorem g_turning_1 {x y z : Int} {T : Turn} {c : Cell} {tT tS : Nat} {M : Mem} (hT : OkT T) (hS : Sides x y z) (hc : c.inBox x y z) (h1 : Live M tT (.row T.row true 0)) (h2 : Live M tS (.row [.I (sideOf x y z T.fr.a), .I (sideOf x y z T.fr.b), .I (sideOf x y z T.fr.c)] true 0)) :
    CallsTo PG F.impl_turning_of_1 ([.agg [.I c.a, .I c.b, .I c.c]] ++ [(tT, 0), (tS, 0)].map fun p => .ptr p.1 p.2) M (.agg [.I (mapT x y z T c).a, .I (mapT x y z T c).b, .I (mapT x y z T c).c]) M := by
  have ht1 := h1.lt
  have ht2 := h2.lt
  obtain ⟨t1, t2, t3⟩ := hT
  refine calls_run K.impl_turning_of_1 rfl ?_
  simp (disch := omega) only [C.impl_turning_of_1, (h1.app).cells, Turn.row, Cell.row, List.map_cons, List.map_nil, splice, ↓SXd, SXu, slBounds, ↓sop, ↓aop, ↓reduceIte, LV.cells, AOp.dst, LV.I, LV.B, LV.U, LV.S, LV.nil, Nat.reduceEqDiff, Nat.reduceAdd, Nat.reduceMul, Nat.reduceSub, Nat.reduceLeDiff, Nat.reduceBEq, Nat.reduceDiv, Nat.reduceMod, Int.reduceToNat, Int.reduceLT, Int.reduceLE, Int.reduceAdd, Int.reduceSub, Int.reduceMul, Int.reduceEq, Int.reduceNeg, reduceCtorEq, resV, resAll, ARes.ev, LV.flat, ite_true, ite_false, exists_eq_left', exists_eq_left, keyOf, implies_true, fillC, capOf]
  refine ev_loop (fun m fr M' => ∃ d : Nat, d + m = 3 ∧ Pre M M' ∧ Live M' M.length (.row c.row true 0) ∧ Live M' (M.length + 1) (.row [.I 0, .I 0, .I 0] true 0) ∧ Live M' (M.length + 2) (.row (partC (mapT x y z T c) d).row true 0) ∧
    fr 1 = .ptr tT 0 ∧ fr 2 = .ptr tS 0 ∧ fr 3 = .ptr M.length 0 ∧ fr 4 = .ptr (M.length + 1) 0 ∧ fr 5 = .ptr (M.length + 2) 0 ∧ fr 10 = .agg [.I T.fr.a, .I T.fr.b, .I T.fr.c] ∧ fr 11 = .I d) 3
    ⟨0, rfl, Pre.app _ _, Live.new, Live.newj rfl, Live.newj rfl, rfl, rfl, rfl, rfl, rfl, rfl, rfl⟩ ?_
  rintro m fr M' ⟨d, hd, hpre, b3, b4, b5, f1, f2, f3, f4, f5, f10, f11⟩
  simp (disch := omega) only [f1, f2, f3, f4, f5, f10, f11, ↓SXd, SXu, slBounds, ↓sop, ↓aop, ↓reduceIte, LV.cells, AOp.dst, LV.I, LV.B, LV.U, LV.S, LV.nil, Nat.reduceEqDiff, Nat.reduceAdd, Nat.reduceMul, Nat.reduceSub, Nat.reduceLeDiff, Nat.reduceBEq, Nat.reduceDiv, Nat.reduceMod, Int.reduceToNat, Int.reduceLT, Int.reduceLE, Int.reduceAdd, Int.reduceSub, Int.reduceMul, Int.reduceEq, Int.reduceNeg, reduceCtorEq, resV, resAll, ARes.ev, LV.flat, ite_true, ite_false, exists_eq_left', exists_eq_left, keyOf, implies_true, fillC, capOf]
  refine condC_dec (fun hlt => ?_) (fun hlt => ?_)
  · have hd3 : d < 3 := by omega
    have hs := OkT.dir ⟨t1, t2, t3⟩ hd3
    have hma := mapT_at (x := x) (y := y) (z := z) (T := T) (c := c) hd3
    have a1 := at_in hc (T.fr.at d)
    have hss := sideOf_in hS (T.fr.at d)
    have q2 : 0 ≤ T.fr.at d := by rcases hs with h | h | h <;> omega
    have q3 : T.fr.at d < 3 := by rcases hs with h | h | h <;> omega
    have e3 := b3.cell (o := (T.fr.at d).toNat)
    rw [Cell.row_dir hs] at e3
    have hl5 := b5.lt
    have hix : [LV.I T.fr.a, .I T.fr.b, .I T.fr.c][d]? = some (.I (T.fr.at d)) := Cell.row_at hd3
    simp (disch := omega) only [f1, f2, f3, f4, f5, f10, f11, hix, e3, Nat.mul_one, Nat.zero_add, ↓SXd, SXu, slBounds, ↓sop, ↓aop, ↓reduceIte, LV.cells, AOp.dst, LV.I, LV.B, LV.U, LV.S, LV.nil, Nat.reduceEqDiff, Nat.reduceAdd, Nat.reduceMul, Nat.reduceSub, Nat.reduceLeDiff, Nat.reduceBEq, Nat.reduceDiv, Nat.reduceMod, Int.reduceToNat, Int.reduceLT, Int.reduceLE, Int.reduceAdd, Int.reduceSub, Int.reduceMul, Int.reduceEq, Int.reduceNeg, reduceCtorEq, resV, resAll, ARes.ev, LV.flat, ite_true, ite_false, exists_eq_left', exists_eq_left, keyOf, implies_true, fillC, capOf]
    refine memK_at b5 (show d < 3 from hd3) fun N1 k1 k2 k3 => ?_
    have hM := hpre.1
    have hpre1 := pre_step hpre (by omega) (j := 0) k1 k3
    have d3 := live_step b3 (by omega) k3
    have d4 := live_step b4 (by omega) k3
    have e2 := (h1.pre hpre1).cell (o := 3 + d)
    rw [Turn.row_fl hd3] at e2
    have e3 := d3.cell (o := (T.fr.at d).toNat)
    rw [Cell.row_dir hs] at e3
    have e6 := (h2.pre hpre1).cell (o := d)
    rw [side_row hd3] at e6
    simp (disch := omega) only [f1, f2, f3, f4, f5, f10, f11, e2, Nat.mul_one, ↓SXd, SXu, slBounds, ↓sop, ↓aop, ↓reduceIte, LV.cells, AOp.dst, LV.I, LV.B, LV.U, LV.S, LV.nil, Nat.reduceEqDiff, Nat.reduceAdd, Nat.reduceMul, Nat.reduceSub, Nat.reduceLeDiff, Nat.reduceBEq, Nat.reduceDiv, Nat.reduceMod, Int.reduceToNat, Int.reduceLT, Int.reduceLE, Int.reduceAdd, Int.reduceSub, Int.reduceMul, Int.reduceEq, Int.reduceNeg, reduceCtorEq, resV, resAll, ARes.ev, LV.flat, ite_true, ite_false, exists_eq_left', exists_eq_left, keyOf, implies_true, fillC, capOf]
    refine condC_dec (fun hf => ?_) (fun hf => ?_)
    · simp (disch := omega) only [f1, f2, f3, f4, f5, f10, f11, e3, e6, q2, q3, Nat.mul_one, Nat.zero_add, ↓SXd, SXu, slBounds, ↓sop, ↓aop, ↓reduceIte, LV.cells, AOp.dst, LV.I, LV.B, LV.U, LV.S, LV.nil, Nat.reduceEqDiff, Nat.reduceAdd, Nat.reduceMul, Nat.reduceSub, Nat.reduceLeDiff, Nat.reduceBEq, Nat.reduceDiv, Nat.reduceMod, Int.reduceToNat, Int.reduceLT, Int.reduceLE, Int.reduceAdd, Int.reduceSub, Int.reduceMul, Int.reduceEq, Int.reduceNeg, reduceCtorEq, resV, resAll, ARes.ev, LV.flat, ite_true, ite_false, exists_eq_left', exists_eq_left, keyOf, implies_true, fillC, capOf]
      refine memK_at k2 (by rw [List.length_set]; exact hd3) fun N2 l1 l2 l3 => ?_
      simp (disch := omega) only [f1, f2, f3, f4, f5, f10, f11, ↓SXd, SXu, slBounds, ↓sop, ↓aop, ↓reduceIte, LV.cells, AOp.dst, LV.I, LV.B, LV.U, LV.S, LV.nil, Nat.reduceEqDiff, Nat.reduceAdd, Nat.reduceMul, Nat.reduceSub, Nat.reduceLeDiff, Nat.reduceBEq, Nat.reduceDiv, Nat.reduceMod, Int.reduceToNat, Int.reduceLT, Int.reduceLE, Int.reduceAdd, Int.reduceSub, Int.reduceMul, Int.reduceEq, Int.reduceNeg, reduceCtorEq, resV, resAll, ARes.ev, LV.flat, ite_true, ite_false, exists_eq_left', exists_eq_left, keyOf, implies_true, fillC, capOf]
      rw [List.set_set] at l2
      refine ⟨m - 1, by omega, d + 1, by omega, pre_step hpre1 (by omega) (j := 0) l1 l3, live_step d3 (by omega) l3, live_step d4 (by omega) l3, ?_, f1, f2, f3, f4, f5, f10, eqI (natI _)⟩
      rw [← partC_set hd3, hma]
      unfold turnC
      rw [if_pos hf]
      exact l2
    · simp (disch := omega) only [f1, f2, f3, f4, f5, f10, f11, ↓SXd, SXu, slBounds, ↓sop, ↓aop, ↓reduceIte, LV.cells, AOp.dst, LV.I, LV.B, LV.U, LV.S, LV.nil, Nat.reduceEqDiff, Nat.reduceAdd, Nat.reduceMul, Nat.reduceSub, Nat.reduceLeDiff, Nat.reduceBEq, Nat.reduceDiv, Nat.reduceMod, Int.reduceToNat, Int.reduceLT, Int.reduceLE, Int.reduceAdd, Int.reduceSub, Int.reduceMul, Int.reduceEq, Int.reduceNeg, reduceCtorEq, resV, resAll, ARes.ev, LV.flat, ite_true, ite_false, exists_eq_left', exists_eq_left, keyOf, implies_true, fillC, capOf]
      refine ⟨m - 1, by omega, d + 1, by omega, hpre1, d3, d4, ?_, f1, f2, f3, f4, f5, f10, eqI (natI _)⟩
      rw [← partC_set hd3, hma]
      unfold turnC
      rw [if_neg hf]
      exact k2
  · have : d = 3 := by omega
    subst this
    have e7 : partC (mapT x y z T c) 3 = mapT x y z T c := rfl
    rw [e7] at b5
    have hl5 := b5.lt
    simp (disch := omega) only [f1, f2, f3, f4, f5, f10, f11, b5.cells, Cell.row, ↓SXd, SXu, slBounds, ↓sop, ↓aop, ↓reduceIte, LV.cells, AOp.dst, LV.I, LV.B, LV.U, LV.S, LV.nil, Nat.reduceEqDiff, Nat.reduceAdd, Nat.reduceMul, Nat.reduceSub, Nat.reduceLeDiff, Nat.reduceBEq, Nat.reduceDiv, Nat.reduceMod, Int.reduceToNat, Int.reduceLT, Int.reduceLE, Int.reduceAdd, Int.reduceSub, Int.reduceMul, Int.reduceEq, Int.reduceNeg, reduceCtorEq, resV, resAll, ARes.ev, LV.flat, ite_true, ite_false, exists_eq_left', exists_eq_left, keyOf, implies_true, fillC, capOf]
    refine memK_box b4 (by simp) fun N3 k1 k2 k3 => ?_
    simp (disch := omega) only [f1, f2, f3, f4, f5, f10, f11, k2.cells, ↓SXd, SXu, slBounds, ↓sop, ↓aop, ↓reduceIte, LV.cells, AOp.dst, LV.I, LV.B, LV.U, LV.S, LV.nil, Nat.reduceEqDiff, Nat.reduceAdd, Nat.reduceMul, Nat.reduceSub, Nat.reduceLeDiff, Nat.reduceBEq, Nat.reduceDiv, Nat.reduceMod, Int.reduceToNat, Int.reduceLT, Int.reduceLE, Int.reduceAdd, Int.reduceSub, Int.reduceMul, Int.reduceEq, Int.reduceNeg, reduceCtorEq, resV, resAll, ARes.ev, LV.flat, ite_true, ite_false, exists_eq_left', exists_eq_left, keyOf, implies_true, fillC, capOf]
    exact cmp_pre (pre_step hpre (by omega) (j := 0) k1 k3) rfl

theorem g_turning_of {x y z : Int} {t : Nat} {w : Bool} {cs : List Cell} {T : Turn} {M : Mem} (h : Live M t (.row (triL cs) w 3)) (hH : HeapOK x y z cs) (hT : OkT T) :
    CallsTo PG F.impl_turning_of [.agg [.I T.fr.a, .I T.fr.b, .I T.fr.c, .I T.fl.a, .I T.fl.b, .I T.fl.c], .agg [.I x, .I y, .I z, .ref t 0 cs.length]] M
      (.agg [.I (turnHp x y z T cs).x, .I (turnHp x y z T cs).y, .I (turnHp x y z T cs).z, .ref M.length 0 (turnHp x y z T cs).cs.length]) (M ++ [some (.row (triL (turnHp x y z T cs).cs) true 3)]) := by
  have hS := hH.1
  have hlen := hH.len
  have hs : ∀ s, Dir s → [LV.I x, .I y, .I z][s.toNat]? = some (.I (sideOf x y z s)) := fun s h => by rcases h with rfl | rfl | rfl <;> rfl
  obtain ⟨t1, t2, t3⟩ := id hT
  have q : ∀ s, Dir s → 0 ≤ s ∧ s < 3 := fun s h => by rcases h with rfl | rfl | rfl <;> omega
  obtain ⟨q1, q1'⟩ := q _ t1
  obtain ⟨q2, q2'⟩ := q _ t2
  obtain ⟨q3, q3'⟩ := q _ t3
  refine calls_run K.impl_turning_of rfl ?_
  simp (disch := omega) only [C.impl_turning_of, ↓SXd, SXu, slBounds, ↓sop, ↓aop, ↓reduceIte, LV.cells, AOp.dst, LV.I, LV.B, LV.U, LV.S, LV.nil, Nat.reduceEqDiff, Nat.reduceAdd, Nat.reduceMul, Nat.reduceSub, Nat.reduceLeDiff, Nat.reduceBEq, Nat.reduceDiv, Nat.reduceMod, Int.reduceToNat, Int.reduceLT, Int.reduceLE, Int.reduceAdd, Int.reduceSub, Int.reduceMul, Int.reduceEq, Int.reduceNeg, reduceCtorEq, resV, resAll, ARes.ev, LV.flat, ite_true, ite_false, exists_eq_left', exists_eq_left, keyOf, implies_true, fillC, capOf]
  refine callK_of (g_box) ?_
  simp (disch := omega) only [(hs _ t1), (hs _ t2), (hs _ t3), Nat.mul_one, Nat.zero_add, splice, ↓SXd, SXu, slBounds, ↓sop, ↓aop, ↓reduceIte, LV.cells, AOp.dst, LV.I, LV.B, LV.U, LV.S, LV.nil, Nat.reduceEqDiff, Nat.reduceAdd, Nat.reduceMul, Nat.reduceSub, Nat.reduceLeDiff, Nat.reduceBEq, Nat.reduceDiv, Nat.reduceMod, Int.reduceToNat, Int.reduceLT, Int.reduceLE, Int.reduceAdd, Int.reduceSub, Int.reduceMul, Int.reduceEq, Int.reduceNeg, reduceCtorEq, resV, resAll, ARes.ev, LV.flat, ite_true, ite_false, exists_eq_left', exists_eq_left, keyOf, implies_true, fillC, capOf]
  refine callK_of (g_moved (g := mapT x y z T) (Has.app h.has) (by omega) (turnSides hS T) (fun c hc => mapT_in (hH.mem hc) T) fun M' hp c hc => ?_) ?_
  · exact g_turning_1 hT hS (hH.mem hc) ((Live.newj (j := 0) rfl).pre hp) ((Live.newj (j := 4) rfl).pre hp)
  simp (disch := omega) only [splice, ↓SXd, SXu, slBounds, ↓sop, ↓aop, ↓reduceIte, LV.cells, AOp.dst, LV.I, LV.B, LV.U, LV.S, LV.nil, Nat.reduceEqDiff, Nat.reduceAdd, Nat.reduceMul, Nat.reduceSub, Nat.reduceLeDiff, Nat.reduceBEq, Nat.reduceDiv, Nat.reduceMod, Int.reduceToNat, Int.reduceLT, Int.reduceLE, Int.reduceAdd, Int.reduceSub, Int.reduceMul, Int.reduceEq, Int.reduceNeg, reduceCtorEq, resV, resAll, ARes.ev, LV.flat, ite_true, ite_false, exists_eq_left', exists_eq_left, keyOf, implies_true, fillC, capOf]
  exact cmp_keep1 (j := 5) rfl (triL_lo _) (by simp [rn, rn0, rn1, keepR_n, turnHp])
end Go.Ab

/- Contracts: the program's least boxes. -/
namespace Go.Ab
open Go
set_option linter.unusedSimpArgs false
set_option linter.unusedVariables false

def leC (a b : Cell) : Prop := a.a ≤ b.a ∧ a.b ≤ b.b ∧ a.c ≤ b.c
end Go.Ab

/- Plain words: the turns as a group; forms of turned heaps; symmetries and positions. -/
namespace Go.Ab
open Go
set_option linter.unusedSimpArgs false
set_option linter.unusedVariables false
set_option maxRecDepth 20000

def xorI (a b : Int) : Int := if a = b then 0 else 1
/-- First the one turn, then the other. -/
def behind (t u : Turn) : Turn := ⟨⟨t.fr.at u.fr.a, t.fr.at u.fr.b, t.fr.at u.fr.c⟩, ⟨xorI (t.fl.at u.fr.a) u.fl.a, xorI (t.fl.at u.fr.b) u.fl.b, xorI (t.fl.at u.fr.c) u.fl.c⟩⟩
def oneT : Turn := ⟨⟨0, 1, 2⟩, ⟨0, 0, 0⟩⟩
def invT (t : Turn) : Turn := (turns.find? fun u => decide (behind t u = oneT)).getD oneT
def Bit (n : Int) : Prop := n = 0 ∨ n = 1
def BitT (t : Turn) : Prop := Bit t.fl.a ∧ Bit t.fl.b ∧ Bit t.fl.c
instance (n : Int) : Decidable (Bit n) := by unfold Bit; exact inferInstance
instance (t : Turn) : Decidable (BitT t) := by unfold BitT; exact inferInstance
theorem turns_bit : ∀ t ∈ turns, BitT t := by decide +kernel
theorem behind_mem : ∀ t ∈ turns, ∀ u ∈ turns, behind t u ∈ turns := by decide +kernel
theorem inv_mem : ∀ t ∈ turns, invT t ∈ turns ∧ behind t (invT t) = oneT := by decide +kernel
theorem turnC_behind {x y z : Int} {t : Turn} {c : Cell} {s f : Int} (hb : BitT t) (hs : Dir s) (hf : Bit f) :
    turnC (sideOf x y z t.fr.a) (sideOf x y z t.fr.b) (sideOf x y z t.fr.c) (mapT x y z t c) s f = turnC x y z c (t.fr.at s) (xorI (t.fl.at s) f) := by
  obtain ⟨h1, h2, h3⟩ := hb
  rcases hs with rfl | rfl | rfl
  · rcases h1 with h1 | h1 <;> rcases hf with rfl | rfl <;> simp [turnC, sideOf, Cell.at, mapT, xorI, h1] <;> omega
  · rcases h2 with h2 | h2 <;> rcases hf with rfl | rfl <;> simp [turnC, sideOf, Cell.at, mapT, xorI, h2] <;> omega
  · rcases h3 with h3 | h3 <;> rcases hf with rfl | rfl <;> simp [turnC, sideOf, Cell.at, mapT, xorI, h3] <;> omega
theorem mapT_behind {x y z : Int} {t u : Turn} {c : Cell} (hb : BitT t) (hu : OkT u) (hub : BitT u) :
    mapT (sideOf x y z t.fr.a) (sideOf x y z t.fr.b) (sideOf x y z t.fr.c) u (mapT x y z t c) = mapT x y z (behind t u) c := by
  obtain ⟨a1, a2, a3⟩ := hu
  obtain ⟨b1, b2, b3⟩ := hub
  rw [cell_eq]
  exact ⟨turnC_behind hb a1 b1, turnC_behind hb a2 b2, turnC_behind hb a3 b3⟩
theorem side_behind {x y z : Int} {t : Turn} {s : Int} (hs : Dir s) : sideOf (sideOf x y z t.fr.a) (sideOf x y z t.fr.b) (sideOf x y z t.fr.c) s = sideOf x y z (t.fr.at s) := by
  rcases hs with rfl | rfl | rfl <;> simp [sideOf, Cell.at]
theorem mem_turnHp {x y z : Int} {cs : List Cell} {T : Turn} (hH : HeapOK x y z cs) {d : Cell} : d ∈ (turnHp x y z T cs).cs ↔ ∃ c ∈ cs, mapT x y z T c = d := by
  show d ∈ pick _ _ _ _ ↔ _
  rw [mem_pick (turnSides hH.1 T), decide_eq_true_iff, List.mem_map]
  constructor
  · exact fun h => h.2
  · rintro ⟨c, hc, rfl⟩
    exact ⟨mapT_in (hH.mem hc) T, c, hc, rfl⟩
theorem turnHp_behind {x y z : Int} {cs : List Cell} {t u : Turn} (hH : HeapOK x y z cs) (hb : BitT t) (hu : OkT u) (hub : BitT u) :
    turnHp (turnHp x y z t cs).x (turnHp x y z t cs).y (turnHp x y z t cs).z u (turnHp x y z t cs).cs = turnHp x y z (behind t u) cs := by
  have h1 := turnHp_ok hH t
  have e1 : (turnHp (turnHp x y z t cs).x (turnHp x y z t cs).y (turnHp x y z t cs).z u (turnHp x y z t cs).cs).x = (turnHp x y z (behind t u) cs).x := side_behind hu.1
  have e2 : (turnHp (turnHp x y z t cs).x (turnHp x y z t cs).y (turnHp x y z t cs).z u (turnHp x y z t cs).cs).y = (turnHp x y z (behind t u) cs).y := side_behind hu.2.1
  have e3 : (turnHp (turnHp x y z t cs).x (turnHp x y z t cs).y (turnHp x y z t cs).z u (turnHp x y z t cs).cs).z = (turnHp x y z (behind t u) cs).z := side_behind hu.2.2
  have e4 : (turnHp (turnHp x y z t cs).x (turnHp x y z t cs).y (turnHp x y z t cs).z u (turnHp x y z t cs).cs).cs = (turnHp x y z (behind t u) cs).cs := by
    refine sorted_ext (turnHp_ok h1 u).sorted (turnHp_ok hH _).sorted fun d => ?_
    rw [mem_turnHp h1, mem_turnHp hH]
    constructor
    · rintro ⟨e, he, rfl⟩
      obtain ⟨c, hc, rfl⟩ := (mem_turnHp hH).1 he
      exact ⟨c, hc, (mapT_behind hb hu hub).symm⟩
    · rintro ⟨c, hc, rfl⟩
      exact ⟨_, (mem_turnHp hH).2 ⟨c, hc, rfl⟩, mapT_behind hb hu hub⟩
  generalize turnHp (turnHp x y z t cs).x (turnHp x y z t cs).y (turnHp x y z t cs).z u (turnHp x y z t cs).cs = A at *
  generalize turnHp x y z (behind t u) cs = B at *
  obtain ⟨a, b, c, l⟩ := A
  obtain ⟨a', b', c', l'⟩ := B
  simp only at e1 e2 e3 e4
  rw [e1, e2, e3, e4]
theorem nodup_le {l m : List Cell} (hn : l.Nodup) (hm : ∀ c ∈ l, c ∈ m) : l.length ≤ m.length := by
  induction l generalizing m with
  | nil => exact Nat.zero_le _
  | cons a l ih =>
    rw [List.nodup_cons] at hn
    have ha := hm a (by simp)
    have h1 := ih hn.2 (m := m.erase a) fun c hc => (List.mem_erase_of_ne (fun e => by subst e; exact hn.1 hc)).2 (hm c (by simp [hc]))
    rw [List.length_erase_of_mem ha] at h1
    have := List.length_pos_of_mem ha
    simp only [List.length_cons]; omega
theorem turnHp_len {x y z : Int} {cs : List Cell} {T : Turn} (hH : HeapOK x y z cs) (hT : T ∈ turns) : (turnHp x y z T cs).cs.length = cs.length := by
  obtain ⟨i1, i2⟩ := inv_mem T hT
  have key : ∀ {x y z : Int} {cs : List Cell} {T : Turn}, HeapOK x y z cs → (turnHp x y z T cs).cs.length ≤ cs.length := fun {x y z cs T} hH => by
    have := nodup_le (l := (turnHp x y z T cs).cs) (m := cs.map (mapT x y z T)) (turnHp_ok hH T).nodup fun c hc => List.mem_map.2 ((mem_turnHp hH).1 hc)
    rwa [List.length_map] at this
  refine Nat.le_antisymm (key hH) ?_
  have h2 := key (T := invT T) (turnHp_ok hH T)
  rw [turnHp_behind hH (turns_bit T hT) (turns_ok _ i1) (turns_bit _ i1), i2] at h2
  have h3 : (turnHp x y z oneT cs).cs = cs := by
    refine sorted_ext (turnHp_ok hH _).sorted hH.sorted fun d => ?_
    rw [mem_turnHp hH]
    have : ∀ c, mapT x y z oneT c = c := fun c => rfl
    simp [this]
  rwa [h3] at h2

def turnS (x y z x' y' z' : Int) (T : Turn) (p : Cell) : Cell :=
  ⟨if T.fl.a = 1 then sideOf x' y' z' T.fr.a - sideOf x y z T.fr.a - p.at T.fr.a else p.at T.fr.a, if T.fl.b = 1 then sideOf x' y' z' T.fr.b - sideOf x y z T.fr.b - p.at T.fr.b else p.at T.fr.b, if T.fl.c = 1 then sideOf x' y' z' T.fr.c - sideOf x y z T.fr.c - p.at T.fr.c else p.at T.fr.c⟩
section
variable {x y z : Int} {cs : List Cell} (hH : HeapOK x y z cs) (h0 : 0 < cs.length)
include hH
include h0
end

section
variable {x y z : Int} {cs : List Cell} (hH : HeapOK x y z cs)
include hH
end

def mir2C (z : Int) (c : Cell) : Cell := ⟨c.a, c.b, z - 1 - c.c⟩
def mir2Hp (x y z : Int) (cs : List Cell) : List Cell := pick x y z fun d => decide (d ∈ cs.map (mir2C z))
end Go.Ab

/- Contracts: a form that a law draws; turned and mirrored heaps. -/
namespace Go.Ab
open Go
set_option linter.unusedSimpArgs false
set_option linter.unusedVariables false
set_option maxRecDepth 20000

theorem h_l8Number {k : Int} {M : Mem} : CallsTo PG F.spec_l8Number [.I k] M (.B (decide (0 ≤ k ∧ k ≤ 23))) M := by
  refine calls_run K.spec_l8Number rfl ?_
  simp (disch := omega) only [C.spec_l8Number, ↓SXd, SXu, slBounds, ↓sop, ↓aop, ↓reduceIte, LV.cells, AOp.dst, LV.I, LV.B, LV.U, LV.S, LV.nil, Nat.reduceEqDiff, Nat.reduceAdd, Nat.reduceMul, Nat.reduceSub, Nat.reduceLeDiff, Nat.reduceBEq, Nat.reduceDiv, Nat.reduceMod, Int.reduceToNat, Int.reduceLT, Int.reduceLE, Int.reduceAdd, Int.reduceSub, Int.reduceMul, Int.reduceEq, Int.reduceNeg, reduceCtorEq, resV, resAll, ARes.ev, LV.flat, ite_true, ite_false, exists_eq_left', exists_eq_left, keyOf, implies_true, fillC, capOf]
  refine callK_of (h_l1In) ?_
  simp (disch := omega) only [↓SXd, SXu, slBounds, ↓sop, ↓aop, ↓reduceIte, LV.cells, AOp.dst, LV.I, LV.B, LV.U, LV.S, LV.nil, Nat.reduceEqDiff, Nat.reduceAdd, Nat.reduceMul, Nat.reduceSub, Nat.reduceLeDiff, Nat.reduceBEq, Nat.reduceDiv, Nat.reduceMod, Int.reduceToNat, Int.reduceLT, Int.reduceLE, Int.reduceAdd, Int.reduceSub, Int.reduceMul, Int.reduceEq, Int.reduceNeg, reduceCtorEq, resV, resAll, ARes.ev, LV.flat, ite_true, ite_false, exists_eq_left', exists_eq_left, keyOf, implies_true, fillC, capOf]
  exact cmp_drop0 rfl
/-- What TurnHeap answers. -/
noncomputable def turnOf (x y z : Int) (cs : List Cell) (k : Int) : Option Hp := by
  classical
  exact if HeapOK x y z cs ∧ (0 ≤ k ∧ k ≤ 23) then some (turnHp x y z (turns.getD k.toNat oneT) cs) else none
theorem Live.sixI {N : Mem} {t e : Nat} {w : Bool} {l : List Turn} {k : Nat} (h : Live N t (.row (sixL l) w e)) (hk : k < l.length) : getCells N t (k * 6) 6 = some (l.getD k oneT).row := by
  rw [h.six hk]
  simp [hk]
theorem turnOf_ok {x y z k : Int} {cs : List Cell} (hH : HeapOK x y z cs) (hk : 0 ≤ k ∧ k ≤ 23) : turnOf x y z cs k = some (turnHp x y z (turns.getD k.toNat oneT) cs) := if_pos ⟨hH, hk⟩
/-- A heap and true. -/
def HeapT (M : Mem) (r : Hp) (v : LV) (N : Mem) : Prop := ∃ u : Nat, v = .tup [.agg [.I r.x, .I r.y, .I r.z, .ref u 0 r.cs.length], .B true] ∧ Live N u (.row (triL r.cs) true 3) ∧ M.length ≤ u
theorem h_sTurnHeapV {x y z k : Int} {t : Nat} {w : Bool} {cs : List Cell} {M : Mem} (h : Live M t (.row (triL cs) w 3)) (hH : HeapOK x y z cs) (hk : 0 ≤ k ∧ k ≤ 23) :
    CallsR PG F.spec_TurnHeap [.agg [.I x, .I y, .I z, .ref t 0 cs.length], .I k] M fun v N => HeapT M (turnHp x y z (turns.getD k.toNat oneT) cs) v N ∧ Pre M N := by
  have hn := hH.len
  refine callsR_run K.spec_TurnHeap rfl ?_
  simp (disch := omega) only [C.spec_TurnHeap, ↓SXd, SXu, slBounds, ↓sop, ↓aop, ↓reduceIte, LV.cells, AOp.dst, LV.I, LV.B, LV.U, LV.S, LV.nil, Nat.reduceEqDiff, Nat.reduceAdd, Nat.reduceMul, Nat.reduceSub, Nat.reduceLeDiff, Nat.reduceBEq, Nat.reduceDiv, Nat.reduceMod, Int.reduceToNat, Int.reduceLT, Int.reduceLE, Int.reduceAdd, Int.reduceSub, Int.reduceMul, Int.reduceEq, Int.reduceNeg, reduceCtorEq, resV, resAll, ARes.ev, LV.flat, ite_true, ite_false, exists_eq_left', exists_eq_left, keyOf, implies_true, fillC, capOf]
  refine callK_of (h_l2Heap (Has.app h.has) (by omega)) ?_
  simp (disch := omega) only [↓SXd, SXu, slBounds, ↓sop, ↓aop, ↓reduceIte, LV.cells, AOp.dst, LV.I, LV.B, LV.U, LV.S, LV.nil, Nat.reduceEqDiff, Nat.reduceAdd, Nat.reduceMul, Nat.reduceSub, Nat.reduceLeDiff, Nat.reduceBEq, Nat.reduceDiv, Nat.reduceMod, Int.reduceToNat, Int.reduceLT, Int.reduceLE, Int.reduceAdd, Int.reduceSub, Int.reduceMul, Int.reduceEq, Int.reduceNeg, reduceCtorEq, resV, resAll, ARes.ev, LV.flat, ite_true, ite_false, exists_eq_left', exists_eq_left, keyOf, implies_true, fillC, capOf]
  simp (disch := omega) only [hH, ↓SXd, SXu, slBounds, ↓sop, ↓aop, ↓reduceIte, LV.cells, AOp.dst, LV.I, LV.B, LV.U, LV.S, LV.nil, Nat.reduceEqDiff, Nat.reduceAdd, Nat.reduceMul, Nat.reduceSub, Nat.reduceLeDiff, Nat.reduceBEq, Nat.reduceDiv, Nat.reduceMod, Int.reduceToNat, Int.reduceLT, Int.reduceLE, Int.reduceAdd, Int.reduceSub, Int.reduceMul, Int.reduceEq, Int.reduceNeg, reduceCtorEq, resV, resAll, ARes.ev, LV.flat, ite_true, ite_false, exists_eq_left', exists_eq_left, keyOf, implies_true, fillC, capOf]
  refine callK_of (h_l8Number) ?_
  simp (disch := omega) only [↓SXd, SXu, slBounds, ↓sop, ↓aop, ↓reduceIte, LV.cells, AOp.dst, LV.I, LV.B, LV.U, LV.S, LV.nil, Nat.reduceEqDiff, Nat.reduceAdd, Nat.reduceMul, Nat.reduceSub, Nat.reduceLeDiff, Nat.reduceBEq, Nat.reduceDiv, Nat.reduceMod, Int.reduceToNat, Int.reduceLT, Int.reduceLE, Int.reduceAdd, Int.reduceSub, Int.reduceMul, Int.reduceEq, Int.reduceNeg, reduceCtorEq, resV, resAll, ARes.ev, LV.flat, ite_true, ite_false, exists_eq_left', exists_eq_left, keyOf, implies_true, fillC, capOf]
  have h24 := turns_len
  have hkl : k.toNat < turns.length := by omega
  have hT := turns_ok _ (getD_mem' (d := oneT) hkl)
  have hki : k = (k.toNat : Int) := by omega
  simp (disch := omega) only [hk, ↓SXd, SXu, slBounds, ↓sop, ↓aop, ↓reduceIte, LV.cells, AOp.dst, LV.I, LV.B, LV.U, LV.S, LV.nil, Nat.reduceEqDiff, Nat.reduceAdd, Nat.reduceMul, Nat.reduceSub, Nat.reduceLeDiff, Nat.reduceBEq, Nat.reduceDiv, Nat.reduceMod, Int.reduceToNat, Int.reduceLT, Int.reduceLE, Int.reduceAdd, Int.reduceSub, Int.reduceMul, Int.reduceEq, Int.reduceNeg, reduceCtorEq, resV, resAll, ARes.ev, LV.flat, ite_true, ite_false, exists_eq_left', exists_eq_left, keyOf, implies_true, fillC, capOf]
  refine callK_of (h_l8Turns) ?_
  simp (disch := omega) only [↓SXd, SXu, slBounds, ↓sop, ↓aop, ↓reduceIte, LV.cells, AOp.dst, LV.I, LV.B, LV.U, LV.S, LV.nil, Nat.reduceEqDiff, Nat.reduceAdd, Nat.reduceMul, Nat.reduceSub, Nat.reduceLeDiff, Nat.reduceBEq, Nat.reduceDiv, Nat.reduceMod, Int.reduceToNat, Int.reduceLT, Int.reduceLE, Int.reduceAdd, Int.reduceSub, Int.reduceMul, Int.reduceEq, Int.reduceNeg, reduceCtorEq, resV, resAll, ARes.ev, LV.flat, ite_true, ite_false, exists_eq_left', exists_eq_left, keyOf, implies_true, fillC, capOf]
  have e1 : List.take 6 (List.drop (k.toNat * 6) (sixL turns)) = (turns.getD k.toNat oneT).row := by
    rw [sixL_at hkl]; simp [hkl]
  have e2 : k.toNat * 6 + 6 ≤ (sixL turns).length := by rw [sixL_len]; omega
  generalize turns.getD k.toNat oneT = T at hT e1 ⊢
  simp (disch := omega) only [e1, e2, if_true, Turn.row, Cell.row, ↓SXd, SXu, slBounds, ↓sop, ↓aop, ↓reduceIte, LV.cells, AOp.dst, LV.I, LV.B, LV.U, LV.S, LV.nil, Nat.reduceEqDiff, Nat.reduceAdd, Nat.reduceMul, Nat.reduceSub, Nat.reduceLeDiff, Nat.reduceBEq, Nat.reduceDiv, Nat.reduceMod, Int.reduceToNat, Int.reduceLT, Int.reduceLE, Int.reduceAdd, Int.reduceSub, Int.reduceMul, Int.reduceEq, Int.reduceNeg, reduceCtorEq, resV, resAll, ARes.ev, LV.flat, ite_true, ite_false, exists_eq_left', exists_eq_left, keyOf, implies_true, fillC, capOf]
  refine callH_of (h_l8Made h.app hH hT) ?_
  intro u N hu hp hb
  have c4 : Live N (M.length + 1) (.row [.I 0, .I 0, .I 0, .nil] true 0) := (Live.newj (j := 1) rfl).pre hp
  simp only [List.length_append, List.length_cons, List.length_nil] at hu
  have hpM : Pre M N := (Pre.app _ _).trans hp
  simp (disch := omega) only [↓SXd, SXu, slBounds, ↓sop, ↓aop, ↓reduceIte, LV.cells, AOp.dst, LV.I, LV.B, LV.U, LV.S, LV.nil, Nat.reduceEqDiff, Nat.reduceAdd, Nat.reduceMul, Nat.reduceSub, Nat.reduceLeDiff, Nat.reduceBEq, Nat.reduceDiv, Nat.reduceMod, Int.reduceToNat, Int.reduceLT, Int.reduceLE, Int.reduceAdd, Int.reduceSub, Int.reduceMul, Int.reduceEq, Int.reduceNeg, reduceCtorEq, resV, resAll, ARes.ev, LV.flat, ite_true, ite_false, exists_eq_left', exists_eq_left, keyOf, implies_true, fillC, capOf]
  refine memK_box c4 (by simp) fun N3 k1 k2 k3 => ?_
  simp (disch := omega) only [k2.cells, ↓SXd, SXu, slBounds, ↓sop, ↓aop, ↓reduceIte, LV.cells, AOp.dst, LV.I, LV.B, LV.U, LV.S, LV.nil, Nat.reduceEqDiff, Nat.reduceAdd, Nat.reduceMul, Nat.reduceSub, Nat.reduceLeDiff, Nat.reduceBEq, Nat.reduceDiv, Nat.reduceMod, Int.reduceToNat, Int.reduceLT, Int.reduceLE, Int.reduceAdd, Int.reduceSub, Int.reduceMul, Int.reduceEq, Int.reduceNeg, reduceCtorEq, resV, resAll, ARes.ev, LV.flat, ite_true, ite_false, exists_eq_left', exists_eq_left, keyOf, implies_true, fillC, capOf]
  exact ⟨⟨u, rfl, live_step hb (by omega) k3, by omega⟩, pre_step hpM (by omega) (j := 0) k1 k3⟩
theorem h_sTurnHeap {x y z k : Int} {t : Nat} {w : Bool} {cs : List Cell} {M : Mem} (h : Live M t (.row (triL cs) w 3)) (hn : cs.length ≤ 1000000000) :
    CallsR PG F.spec_TurnHeap [.agg [.I x, .I y, .I z, .ref t 0 cs.length], .I k] M (HeapRes M (turnOf x y z cs k) []) := by
  by_cases hv : HeapOK x y z cs ∧ (0 ≤ k ∧ k ≤ 23)
  · rw [turnOf_ok hv.1 hv.2]
    refine (h_sTurnHeapV h hv.1 hv.2).mono ?_
    rintro v N ⟨⟨u, rfl, hu, hul⟩, hp⟩
    exact ⟨_, rfl, SlC.of hu, Newer.of hul, hp⟩
  refine callsR_run K.spec_TurnHeap rfl ?_
  simp (disch := omega) only [C.spec_TurnHeap, ↓SXd, SXu, slBounds, ↓sop, ↓aop, ↓reduceIte, LV.cells, AOp.dst, LV.I, LV.B, LV.U, LV.S, LV.nil, Nat.reduceEqDiff, Nat.reduceAdd, Nat.reduceMul, Nat.reduceSub, Nat.reduceLeDiff, Nat.reduceBEq, Nat.reduceDiv, Nat.reduceMod, Int.reduceToNat, Int.reduceLT, Int.reduceLE, Int.reduceAdd, Int.reduceSub, Int.reduceMul, Int.reduceEq, Int.reduceNeg, reduceCtorEq, resV, resAll, ARes.ev, LV.flat, ite_true, ite_false, exists_eq_left', exists_eq_left, keyOf, implies_true, fillC, capOf]
  refine callK_of (h_l2Heap (Has.app h.has) hn) ?_
  simp (disch := omega) only [↓SXd, SXu, slBounds, ↓sop, ↓aop, ↓reduceIte, LV.cells, AOp.dst, LV.I, LV.B, LV.U, LV.S, LV.nil, Nat.reduceEqDiff, Nat.reduceAdd, Nat.reduceMul, Nat.reduceSub, Nat.reduceLeDiff, Nat.reduceBEq, Nat.reduceDiv, Nat.reduceMod, Int.reduceToNat, Int.reduceLT, Int.reduceLE, Int.reduceAdd, Int.reduceSub, Int.reduceMul, Int.reduceEq, Int.reduceNeg, reduceCtorEq, resV, resAll, ARes.ev, LV.flat, ite_true, ite_false, exists_eq_left', exists_eq_left, keyOf, implies_true, fillC, capOf]
  rw [show turnOf x y z cs k = none from if_neg hv]
  by_cases hH : HeapOK x y z cs
  rotate_left
  · simp (disch := omega) only [hH, splice, ↓SXd, SXu, slBounds, ↓sop, ↓aop, ↓reduceIte, LV.cells, AOp.dst, LV.I, LV.B, LV.U, LV.S, LV.nil, Nat.reduceEqDiff, Nat.reduceAdd, Nat.reduceMul, Nat.reduceSub, Nat.reduceLeDiff, Nat.reduceBEq, Nat.reduceDiv, Nat.reduceMod, Int.reduceToNat, Int.reduceLT, Int.reduceLE, Int.reduceAdd, Int.reduceSub, Int.reduceMul, Int.reduceEq, Int.reduceNeg, reduceCtorEq, resV, resAll, ARes.ev, LV.flat, ite_true, ite_false, exists_eq_left', exists_eq_left, keyOf, implies_true, fillC, capOf]
    exact ⟨.nil, rfl, SlC.nil, Newer.nil, Pre.app _ _⟩
  have hk : ¬ (0 ≤ k ∧ k ≤ 23) := fun e => hv ⟨hH, e⟩
  simp (disch := omega) only [hH, ↓SXd, SXu, slBounds, ↓sop, ↓aop, ↓reduceIte, LV.cells, AOp.dst, LV.I, LV.B, LV.U, LV.S, LV.nil, Nat.reduceEqDiff, Nat.reduceAdd, Nat.reduceMul, Nat.reduceSub, Nat.reduceLeDiff, Nat.reduceBEq, Nat.reduceDiv, Nat.reduceMod, Int.reduceToNat, Int.reduceLT, Int.reduceLE, Int.reduceAdd, Int.reduceSub, Int.reduceMul, Int.reduceEq, Int.reduceNeg, reduceCtorEq, resV, resAll, ARes.ev, LV.flat, ite_true, ite_false, exists_eq_left', exists_eq_left, keyOf, implies_true, fillC, capOf]
  refine callK_of (h_l8Number) ?_
  simp (disch := omega) only [↓SXd, SXu, slBounds, ↓sop, ↓aop, ↓reduceIte, LV.cells, AOp.dst, LV.I, LV.B, LV.U, LV.S, LV.nil, Nat.reduceEqDiff, Nat.reduceAdd, Nat.reduceMul, Nat.reduceSub, Nat.reduceLeDiff, Nat.reduceBEq, Nat.reduceDiv, Nat.reduceMod, Int.reduceToNat, Int.reduceLT, Int.reduceLE, Int.reduceAdd, Int.reduceSub, Int.reduceMul, Int.reduceEq, Int.reduceNeg, reduceCtorEq, resV, resAll, ARes.ev, LV.flat, ite_true, ite_false, exists_eq_left', exists_eq_left, keyOf, implies_true, fillC, capOf]
  exact ⟨.nil, rfl, SlC.nil, Newer.nil, Pre.app _ _⟩
/-- Mirrored in a direction. -/
def mirDC (x y z : Int) (d : Int) (c : Cell) : Cell := ⟨if d = 0 then x - 1 - c.a else c.a, if d = 1 then y - 1 - c.b else c.b, if d = 2 then z - 1 - c.c else c.c⟩
def mirD (x y z : Int) (d : Int) (cs : List Cell) : List Cell := pick x y z fun e => decide (e ∈ cs.map (mirDC x y z d))
theorem Live.only {M N : Mem} {q : Nat} {b0 : Blk} (h : Live M q b0) (k : Live N q b0) : ∀ b, M[q]? = some (some b) → N[q]? = some (some b) := fun b hb => by
  have e : some (some b0) = some (some b) := Eq.trans (Eq.symm h) hb
  cases e
  exact k
end Go.Ab

/- The abstract code of some functions (written by a program of mine from the translation, by way of prepF). -/
namespace Go.Ab.C
open Go.Ab
end Go.Ab.C

/- That the program has this code. -/
namespace Go.Ab.K
open Go Go.Ab
end Go.Ab.K

/- The abstract code of some functions (written by a program of mine from the translation, by way of prepF). -/
namespace Go.Ab.C
open Go.Ab
end Go.Ab.C

/- That the program has this code. -/
namespace Go.Ab.K
open Go Go.Ab
end Go.Ab.K

/- The abstract code of some functions (written by a program of mine from the translation, by way of prepF). -/
namespace Go.Ab.C
open Go.Ab
end Go.Ab.C

/- That the program has this code. -/
namespace Go.Ab.K
open Go Go.Ab
end Go.Ab.K

/- The abstract code of some functions (written by a program of mine from the translation, by way of prepF). -/
namespace Go.Ab.C
open Go.Ab
end Go.Ab.C

/- That the program has this code. -/
namespace Go.Ab.K
open Go Go.Ab
end Go.Ab.K

/- Contracts: the program's order of heaps. -/
namespace Go.Ab
open Go
set_option linter.unusedSimpArgs false
set_option linter.unusedVariables false

def cmp3 (a b : Cell) : Int := cmpL [a.a, a.b, a.c] [b.a, b.b, b.c]
def cmpC : List Cell → List Cell → Int
  | [], [] => 0
  | [], _ :: _ => -1
  | _ :: _, [] => 1
  | a :: l, b :: m => if cmp3 a b ≠ 0 then cmp3 a b else cmpC l m
def cmpH (g h : Hp) : Int := if cmp3 g.dims h.dims ≠ 0 then cmp3 g.dims h.dims else cmpC g.cs h.cs
end Go.Ab

/- Contracts: the program's positions and forms. -/
namespace Go.Ab
open Go
set_option linter.unusedSimpArgs false
set_option linter.unusedVariables false

/-- Heaps, as the elements of a slice; each with the block of its cells. -/
def hrow (p : Nat × Hp) : List LV := [.I p.2.x, .I p.2.y, .I p.2.z, .ref p.1 0 p.2.cs.length]
def hpL (l : List (Nat × Hp)) : List LV := l.flatMap hrow
theorem hpL_len (l : List (Nat × Hp)) : (hpL l).length = l.length * 4 := by
  induction l with
  | nil => rfl
  | cons t l ih => rw [show hpL (t :: l) = hrow t ++ hpL l from rfl, List.length_append, ih, List.length_cons]; simp [hrow]; omega
theorem hpL_at {l : List (Nat × Hp)} : ∀ {k : Nat}, (hk : k < l.length) → ((hpL l).drop (k * 4)).take 4 = hrow l[k] := by
  induction l with
  | nil => intro k hk; simp at hk
  | cons t l ih =>
    intro k hk
    have e : hpL (t :: l) = hrow t ++ hpL l := rfl
    have hr : (hrow t).length = 4 := rfl
    cases k with
    | zero => rw [e, Nat.zero_mul, List.drop_zero, List.take_append_of_le_length (by omega), List.take_of_length_le (by omega)]; rfl
    | succ k =>
      rw [e, List.drop_append, List.drop_eq_nil_of_le (by omega), List.nil_append, hr, show (k + 1) * 4 - 4 = k * 4 by omega, ih (by simpa using hk)]
      rfl
theorem Live.hp {N : Mem} {t k e : Nat} {w : Bool} {l : List (Nat × Hp)} (h : Live N t (.row (hpL l) w e)) (hk : k < l.length) : getCells N t (k * 4) 4 = some (hrow l[k]) := by
  rw [h.cells, if_pos (by rw [hpL_len]; omega), hpL_at hk]
/-- All these heaps' cells are there, behind M. -/
def HpsOK (M N : Mem) (l : List (Nat × Hp)) : Prop := ∀ p ∈ l, Live N p.1 (.row (triL p.2.cs) true 3) ∧ M.length ≤ p.1 ∧ p.2.cs.length ≤ 64
theorem HpsOK.pre {M N N' : Mem} {l : List (Nat × Hp)} (h : HpsOK M N l) (hp : Pre N N') : HpsOK M N' l := fun p hpl => ⟨(h p hpl).1.pre hp, (h p hpl).2⟩

def bestP (b : Nat × Hp) (l : List (Nat × Hp)) : Nat × Hp := l.foldl (fun b n => if lessHp n.2 b.2 then n else b) b
/-- A form as a value: its cells are in a block behind M. -/
def FormRes (M : Mem) (f : Hp) (v : LV) (N : Mem) : Prop := ∃ u : Nat, v = .agg [.I f.x, .I f.y, .I f.z, .ref u 0 f.cs.length] ∧ M.length ≤ u ∧ Live N u (.row (triL f.cs) true 3) ∧ Pre M N
end Go.Ab

/- Contracts: the program's statements on forms. -/
namespace Go.Ab
open Go
set_option linter.unusedSimpArgs false
set_option linter.unusedVariables false

end Go.Ab

/- Contracts: the program's mirrored heaps; IsHanded. -/
namespace Go.Ab
open Go
set_option linter.unusedSimpArgs false
set_option linter.unusedVariables false

end Go.Ab

/- The abstract code of some functions (written by a program of mine from the translation, by way of prepF). -/
namespace Go.Ab.C
open Go.Ab
end Go.Ab.C

/- That the program has this code. -/
namespace Go.Ab.K
open Go Go.Ab
end Go.Ab.K

/- Contracts: the program's PositionsOf, AreSameForm, IsHanded. -/
namespace Go.Ab
open Go
set_option linter.unusedSimpArgs false
set_option linter.unusedVariables false

theorem SlI.lenV {N : Mem} {v : LV} {l : List Int} (h : SlI N v l) : lenV v = some (l.length : Int) := by
  rcases h with ⟨rfl, rfl⟩ | ⟨t, ex, rfl, _⟩ <;> rfl
end Go.Ab

/- The abstract code of some functions (written by a program of mine from the translation, by way of prepF). -/
namespace Go.Ab.C
open Go.Ab
def impl_isTurn : AFn :=
  ⟨1, 5, [.tmp 2],
    .seq (.ops [(none, .mv 2 (.c (.B false)))])
    (.seq (.ops [(none, .mv 3 (.t 0)),
        (none, .call (some 4) F.impl_within [(.t 3), (.c (.I 0)), (.c (.I 23))]),
        (none, .mv 2 (.t 4))])
     (.ret))⟩
end Go.Ab.C

/- That the program has this code. -/
namespace Go.Ab.K
open Go Go.Ab
theorem impl_isTurn : prepF Go.Proofs.Try.prog F.impl_isTurn = some C.impl_isTurn := by kernel_rfl
end Go.Ab.K

/- Contracts: whether a number is one of a turn. -/
namespace Go.Ab
open Go
set_option linter.unusedSimpArgs false

def In24 (k : Int) : Prop := 0 ≤ k ∧ k ≤ 23
instance (k : Int) : Decidable (In24 k) := by unfold In24; exact inferInstance
theorem g_isTurn {k : Int} {M : Mem} : CallsTo PG F.impl_isTurn [.I k] M (.B (decide (In24 k))) M := by
  refine calls_run K.impl_isTurn rfl ?_
  simp (disch := omega) only [C.impl_isTurn, ↓SXd, SXu, slBounds, ↓sop, ↓aop, ↓reduceIte, LV.cells, AOp.dst, LV.I, LV.B, LV.U, LV.S, LV.nil, Nat.reduceEqDiff, Nat.reduceAdd, Nat.reduceMul, Nat.reduceSub, Nat.reduceLeDiff, Nat.reduceBEq, Nat.reduceDiv, Nat.reduceMod, Int.reduceToNat, Int.reduceLT, Int.reduceLE, Int.reduceAdd, Int.reduceSub, Int.reduceMul, Int.reduceEq, Int.reduceNeg, reduceCtorEq, resV, resAll, ARes.ev, LV.flat, ite_true, ite_false, exists_eq_left', exists_eq_left, keyOf, implies_true, fillC, capOf]
  refine callK_of (g_within) ?_
  simp (disch := omega) only [↓SXd, SXu, slBounds, ↓sop, ↓aop, ↓reduceIte, LV.cells, AOp.dst, LV.I, LV.B, LV.U, LV.S, LV.nil, Nat.reduceEqDiff, Nat.reduceAdd, Nat.reduceMul, Nat.reduceSub, Nat.reduceLeDiff, Nat.reduceBEq, Nat.reduceDiv, Nat.reduceMod, Int.reduceToNat, Int.reduceLT, Int.reduceLE, Int.reduceAdd, Int.reduceSub, Int.reduceMul, Int.reduceEq, Int.reduceNeg, reduceCtorEq, resV, resAll, ARes.ev, LV.flat, ite_true, ite_false, exists_eq_left', exists_eq_left, keyOf, implies_true, fillC, capOf]
  exact cmp_drop0 rfl
end Go.Ab
