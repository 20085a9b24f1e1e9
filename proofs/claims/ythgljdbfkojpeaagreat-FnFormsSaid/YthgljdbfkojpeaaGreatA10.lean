/- Parts of the proof of FnFormsSaid: Hi Hj C_Hk K_Hk C_Hg K_Hg Hg C_Tr K_Tr C_Tp K_Tp C_Tn K_Tn C_Tm K_Tm Tm. -/
import Derived.Test.YthgljdbfkojpeaaGreatA4
import Derived.Test.YthgljdbfkojpeaaGreatA9
import Derived.Test.YthgljdbfkojpeaaGreatA8
import Derived.Test.YthgljdbfkojpeaaGreatA3
import Derived.Test.YthgljdbfkojpeaaGreatProg
import Derived.KernelRfl
import Derived.Test.YthgljdbfkojpeaaGreatA5
import Derived.Test.YthgljdbfkojpeaaGreatA6
set_option linter.all false
/- Contracts: a form that a law draws; turned and mirrored heaps. -/
namespace Go.Ab
open Go
set_option linter.unusedSimpArgs false
set_option linter.unusedVariables false
set_option maxRecDepth 20000

theorem h_l8Number {k : Int} {M : Mem} : CallsTo PG F.spec_l8Number [.I k] M (.B (decide (0 ≤ k ∧ k ≤ 23))) M := by
  refine calls_run K.spec_l8Number rfl ?_
  simp (disch := omega) only [C.spec_l8Number, ↓SXd, SXu, slBounds, ↓sop, ↓aop, ↓reduceIte, LV.cells, AOp.dst, LV.I, LV.B, LV.U, LV.S, LV.nil, Nat.reduceEqDiff, Nat.reduceAdd, Nat.reduceMul, Nat.reduceSub, Nat.reduceLeDiff, Nat.reduceBEq, Nat.reduceDiv, Nat.reduceMod, Int.reduceToNat, Int.reduceLT, Int.reduceLE, Int.reduceAdd, Int.reduceSub, Int.reduceMul, Int.reduceEq, Int.reduceNeg, reduceCtorEq, resV, resAll, ARes.ev, LV.flat, ite_true, ite_false, exists_eq_left', exists_eq_left, keyOf, implies_true, fillC, capOf]
  refine callK_of (h_l1In) ?_
  simp (disch := omega) only [↓SXd, SXu, slBounds, ↓sop, ↓aop, ↓reduceIte, LV.cells, AOp.dst, LV.I, LV.B, LV.U, LV.S, LV.nil, Nat.reduceEqDiff, Nat.reduceAdd, Nat.reduceMul, Nat.reduceSub, Nat.reduceLeDiff, Nat.reduceBEq, Nat.reduceDiv, Nat.reduceMod, Int.reduceToNat, Int.reduceLT, Int.reduceLE, Int.reduceAdd, Int.reduceSub, Int.reduceMul, Int.reduceEq, Int.reduceNeg, reduceCtorEq, resV, resAll, ARes.ev, LV.flat, ite_true, ite_false, exists_eq_left', exists_eq_left, keyOf, implies_true, fillC, capOf]
  exact cmp_drop0 rfl
/-- What TurnHeap answers. -/
noncomputable def turnOf (x y z : Int) (cs : List Cell) (k : Int) : Option Hp := by
  classical
  exact if HeapOK x y z cs ∧ (0 ≤ k ∧ k ≤ 23) then some (turnHp x y z (turns.getD k.toNat oneT) cs) else none
/-- A heap and true. -/
def HeapT (M : Mem) (r : Hp) (v : LV) (N : Mem) : Prop := ∃ u : Nat, v = .tup [.agg [.I r.x, .I r.y, .I r.z, .ref u 0 r.cs.length], .B true] ∧ Live N u (.row (triL r.cs) true 3) ∧ M.length ≤ u
theorem h_sTurnHeapV {x y z k : Int} {t : Nat} {w : Bool} {cs : List Cell} {M : Mem} (h : Live M t (.row (triL cs) w 3)) (hH : HeapOK x y z cs) (hk : 0 ≤ k ∧ k ≤ 23) :
    CallsR PG F.spec_TurnHeap [.agg [.I x, .I y, .I z, .ref t 0 cs.length], .I k] M fun v N => HeapT M (turnHp x y z (turns.getD k.toNat oneT) cs) v N ∧ Pre M N := by
  have hn := hH.len
  refine callsR_run K.spec_TurnHeap rfl ?_
  simp (disch := omega) only [C.spec_TurnHeap, ↓SXd, SXu, slBounds, ↓sop, ↓aop, ↓reduceIte, LV.cells, AOp.dst, LV.I, LV.B, LV.U, LV.S, LV.nil, Nat.reduceEqDiff, Nat.reduceAdd, Nat.reduceMul, Nat.reduceSub, Nat.reduceLeDiff, Nat.reduceBEq, Nat.reduceDiv, Nat.reduceMod, Int.reduceToNat, Int.reduceLT, Int.reduceLE, Int.reduceAdd, Int.reduceSub, Int.reduceMul, Int.reduceEq, Int.reduceNeg, reduceCtorEq, resV, resAll, ARes.ev, LV.flat, ite_true, ite_false, exists_eq_left', exists_eq_left, keyOf, implies_true, fillC, capOf]
  refine callK_of (h_l2Heap (Has.app h.has) (by omega)) ?_
  simp (disch := omega) only [↓SXd, SXu, slBounds, ↓sop, ↓aop, ↓reduceIte, LV.cells, AOp.dst, LV.I, LV.B, LV.U, LV.S, LV.nil, Nat.reduceEqDiff, Nat.reduceAdd, Nat.reduceMul, Nat.reduceSub, Nat.reduceLeDiff, Nat.reduceBEq, Nat.reduceDiv, Nat.reduceMod, Int.reduceToNat, Int.reduceLT, Int.reduceLE, Int.reduceAdd, Int.reduceSub, Int.reduceMul, Int.reduceEq, Int.reduceNeg, reduceCtorEq, resV, resAll, ARes.ev, LV.flat, ite_true, ite_false, exists_eq_left', exists_eq_left, keyOf, implies_true, fillC, capOf]
  simp (disch := omega) only [hH, ↓SXd, SXu, slBounds, ↓sop, ↓aop, ↓reduceIte, LV.cells, AOp.dst, LV.I, LV.B, LV.U, LV.S, LV.nil, Nat.reduceEqDiff, Nat.reduceAdd, Nat.reduceMul, Nat.reduceSub, Nat.reduceLeDiff, Nat.reduceBEq, Nat.reduceDiv, Nat.reduceMod, Int.reduceToNat, Int.reduceLT, Int.reduceLE, Int.reduceAdd, Int.reduceSub, Int.reduceMul, Int.reduceEq, Int.reduceNeg, reduceCtorEq, resV, resAll, ARes.ev, LV.flat, ite_true, ite_false, exists_eq_left', exists_eq_left, keyOf, implies_true, fillC, capOf]
  refine callK_of (h_l8Number) ?_
  simp (disch := omega) only [↓SXd, SXu, slBounds, ↓sop, ↓aop, ↓reduceIte, LV.cells, AOp.dst, LV.I, LV.B, LV.U, LV.S, LV.nil, Nat.reduceEqDiff, Nat.reduceAdd, Nat.reduceMul, Nat.reduceSub, Nat.reduceLeDiff, Nat.reduceBEq, Nat.reduceDiv, Nat.reduceMod, Int.reduceToNat, Int.reduceLT, Int.reduceLE, Int.reduceAdd, Int.reduceSub, Int.reduceMul, Int.reduceEq, Int.reduceNeg, reduceCtorEq, resV, resAll, ARes.ev, LV.flat, ite_true, ite_false, exists_eq_left', exists_eq_left, keyOf, implies_true, fillC, capOf]
  have h24 := turns_len
  have hkl : k.toNat < turns.length := by omega
  have hT := turns_ok _ (getD_mem' (d := oneT) hkl)
  have hki : k = (k.toNat : Int) := by omega
  simp (disch := omega) only [hk, ↓SXd, SXu, slBounds, ↓sop, ↓aop, ↓reduceIte, LV.cells, AOp.dst, LV.I, LV.B, LV.U, LV.S, LV.nil, Nat.reduceEqDiff, Nat.reduceAdd, Nat.reduceMul, Nat.reduceSub, Nat.reduceLeDiff, Nat.reduceBEq, Nat.reduceDiv, Nat.reduceMod, Int.reduceToNat, Int.reduceLT, Int.reduceLE, Int.reduceAdd, Int.reduceSub, Int.reduceMul, Int.reduceEq, Int.reduceNeg, reduceCtorEq, resV, resAll, ARes.ev, LV.flat, ite_true, ite_false, exists_eq_left', exists_eq_left, keyOf, implies_true, fillC, capOf]
  refine callK_of (h_l8Turns) ?_
  simp (disch := omega) only [↓SXd, SXu, slBounds, ↓sop, ↓aop, ↓reduceIte, LV.cells, AOp.dst, LV.I, LV.B, LV.U, LV.S, LV.nil, Nat.reduceEqDiff, Nat.reduceAdd, Nat.reduceMul, Nat.reduceSub, Nat.reduceLeDiff, Nat.reduceBEq, Nat.reduceDiv, Nat.reduceMod, Int.reduceToNat, Int.reduceLT, Int.reduceLE, Int.reduceAdd, Int.reduceSub, Int.reduceMul, Int.reduceEq, Int.reduceNeg, reduceCtorEq, resV, resAll, ARes.ev, LV.flat, ite_true, ite_false, exists_eq_left', exists_eq_left, keyOf, implies_true, fillC, capOf]
  have e1 : List.take 6 (List.drop (k.toNat * 6) (sixL turns)) = (turns.getD k.toNat oneT).row := by
    rw [sixL_at hkl]; simp [hkl]
  have e2 : k.toNat * 6 + 6 ≤ (sixL turns).length := by rw [sixL_len]; omega
  generalize turns.getD k.toNat oneT = T at hT e1 ⊢
  simp (disch := omega) only [e1, e2, if_true, Turn.row, Cell.row, ↓SXd, SXu, slBounds, ↓sop, ↓aop, ↓reduceIte, LV.cells, AOp.dst, LV.I, LV.B, LV.U, LV.S, LV.nil, Nat.reduceEqDiff, Nat.reduceAdd, Nat.reduceMul, Nat.reduceSub, Nat.reduceLeDiff, Nat.reduceBEq, Nat.reduceDiv, Nat.reduceMod, Int.reduceToNat, Int.reduceLT, Int.reduceLE, Int.reduceAdd, Int.reduceSub, Int.reduceMul, Int.reduceEq, Int.reduceNeg, reduceCtorEq, resV, resAll, ARes.ev, LV.flat, ite_true, ite_false, exists_eq_left', exists_eq_left, keyOf, implies_true, fillC, capOf]
  refine callH_of (h_l8Made h.app hH hT) ?_
  intro u N hu hp hb
  have c4 : Live N (M.length + 1) (.row [.I 0, .I 0, .I 0, .nil] true 0) := (Live.newj (j := 1) rfl).pre hp
  simp only [List.length_append, List.length_cons, List.length_nil] at hu
  have hpM : Pre M N := (Pre.app _ _).trans hp
  simp (disch := omega) only [↓SXd, SXu, slBounds, ↓sop, ↓aop, ↓reduceIte, LV.cells, AOp.dst, LV.I, LV.B, LV.U, LV.S, LV.nil, Nat.reduceEqDiff, Nat.reduceAdd, Nat.reduceMul, Nat.reduceSub, Nat.reduceLeDiff, Nat.reduceBEq, Nat.reduceDiv, Nat.reduceMod, Int.reduceToNat, Int.reduceLT, Int.reduceLE, Int.reduceAdd, Int.reduceSub, Int.reduceMul, Int.reduceEq, Int.reduceNeg, reduceCtorEq, resV, resAll, ARes.ev, LV.flat, ite_true, ite_false, exists_eq_left', exists_eq_left, keyOf, implies_true, fillC, capOf]
  refine memK_box c4 (by simp) fun N3 k1 k2 k3 => ?_
  simp (disch := omega) only [k2.cells, ↓SXd, SXu, slBounds, ↓sop, ↓aop, ↓reduceIte, LV.cells, AOp.dst, LV.I, LV.B, LV.U, LV.S, LV.nil, Nat.reduceEqDiff, Nat.reduceAdd, Nat.reduceMul, Nat.reduceSub, Nat.reduceLeDiff, Nat.reduceBEq, Nat.reduceDiv, Nat.reduceMod, Int.reduceToNat, Int.reduceLT, Int.reduceLE, Int.reduceAdd, Int.reduceSub, Int.reduceMul, Int.reduceEq, Int.reduceNeg, reduceCtorEq, resV, resAll, ARes.ev, LV.flat, ite_true, ite_false, exists_eq_left', exists_eq_left, keyOf, implies_true, fillC, capOf]
  exact ⟨⟨u, rfl, live_step hb (by omega) k3, by omega⟩, pre_step hpM (by omega) (j := 0) k1 k3⟩
/-- Mirrored in a direction. -/
def mirDC (x y z : Int) (d : Int) (c : Cell) : Cell := ⟨if d = 0 then x - 1 - c.a else c.a, if d = 1 then y - 1 - c.b else c.b, if d = 2 then z - 1 - c.c else c.c⟩
def mirD (x y z : Int) (d : Int) (cs : List Cell) : List Cell := pick x y z fun e => decide (e ∈ cs.map (mirDC x y z d))
theorem mirDC_in {x y z d : Int} {c : Cell} (hc : c.inBox x y z) : (mirDC x y z d c).inBox x y z := by
  obtain ⟨⟨_, _⟩, ⟨_, _⟩, ⟨_, _⟩⟩ := hc
  unfold mirDC
  refine ⟨⟨?_, ?_⟩, ⟨?_, ?_⟩, ⟨?_, ?_⟩⟩ <;> simp only <;> split <;> omega
theorem mirDC_set {x y z : Int} {d : Int} {c : Cell} (hd : Dir d) : c.row.set d.toNat (.I (sideOf x y z d - 1 - c.at d)) = (mirDC x y z d c).row := by
  rcases hd with rfl | rfl | rfl <;> rfl
theorem h_l2MirrorD {x y z d : Int} {t : Nat} {w : Bool} {cs : List Cell} {M : Mem} (hd : Dir d) (h : Live M t (.row (triL cs) w 3)) (hH : HeapOK x y z cs) :
    CallsR PG F.spec_l2Mirrored [.agg [.I x, .I y, .I z, .ref t 0 cs.length], .I d] M fun v N => HeapV M x y z (mirD x y z d cs) v N ∧ Pre M N := by
  have hS := hH.1
  have hlen := hH.len
  have ht := h.lt
  obtain ⟨⟨_, _⟩, ⟨_, _⟩, ⟨_, _⟩⟩ := id hS
  have hd0 : 0 ≤ d ∧ d < 3 := by rcases hd with h | h | h <;> omega
  have hds := sideOf_in hS d
  refine callsR_run K.spec_l2Mirrored rfl ?_
  simp (disch := omega) only [C.spec_l2Mirrored, ↓SXd, SXu, slBounds, ↓sop, ↓aop, ↓reduceIte, LV.cells, AOp.dst, LV.I, LV.B, LV.U, LV.S, LV.nil, Nat.reduceEqDiff, Nat.reduceAdd, Nat.reduceMul, Nat.reduceSub, Nat.reduceLeDiff, Nat.reduceBEq, Nat.reduceDiv, Nat.reduceMod, Int.reduceToNat, Int.reduceLT, Int.reduceLE, Int.reduceAdd, Int.reduceSub, Int.reduceMul, Int.reduceEq, Int.reduceNeg, reduceCtorEq, resV, resAll, ARes.ev, LV.flat, ite_true, ite_false, exists_eq_left', exists_eq_left, keyOf, implies_true, fillC, capOf]
  refine callK_of (h_l2Empty) ?_
  simp (disch := omega) only [splice, ↓SXd, SXu, slBounds, ↓sop, ↓aop, ↓reduceIte, LV.cells, AOp.dst, LV.I, LV.B, LV.U, LV.S, LV.nil, Nat.reduceEqDiff, Nat.reduceAdd, Nat.reduceMul, Nat.reduceSub, Nat.reduceLeDiff, Nat.reduceBEq, Nat.reduceDiv, Nat.reduceMod, Int.reduceToNat, Int.reduceLT, Int.reduceLE, Int.reduceAdd, Int.reduceSub, Int.reduceMul, Int.reduceEq, Int.reduceNeg, reduceCtorEq, resV, resAll, ARes.ev, LV.flat, ite_true, ite_false, exists_eq_left', exists_eq_left, keyOf, implies_true, fillC, capOf]
  unfold mirD
  have hLl : (cs.map (mirDC x y z d)).length = cs.length := List.length_map ..
  have hLg : ∀ i, i < cs.length → (cs.map (mirDC x y z d)).getD i default = mirDC x y z d (cs.getD i default) := fun i hi => by simp [hi]
  generalize cs.map (mirDC x y z d) = L at hLl hLg ⊢
  refine ev_loop (fun m fr M' => ∃ i u : Nat, i + m = cs.length ∧ Pre M M' ∧ Live M' M.length (.row [.I x, .I y, .I z, .ref t 0 cs.length] true 0) ∧ Live M' (M.length + 1) (.row [.I 0, .I 0, .I 0, .nil] true 0) ∧
    Live M' (M.length + 3) (.row [.I x, .I y, .I z, .ref u 0 (pick x y z fun d => decide (d ∈ L.take i)).length] true 0) ∧ Live M' u (.row (triL (pick x y z fun d => decide (d ∈ L.take i))) true 3) ∧ M.length ≤ u ∧
    fr 1 = .I d ∧ fr 2 = .ptr M.length 0 ∧ fr 4 = .ptr (M.length + 1) 0 ∧ fr 5 = .ptr (M.length + 3) 0 ∧ fr 6 = .I i) cs.length
    ⟨0, M.length + 2, by omega, Pre.app _ _, Live.new, Live.newj rfl, ?_, ?_, by omega, rfl, rfl, rfl, rfl, rfl⟩ ?_
  · rw [show (pick x y z fun d => decide (d ∈ L.take 0)) = [] by unfold pick; rw [List.filter_eq_nil_iff]; simp]; exact Live.newj rfl
  · rw [show (pick x y z fun d => decide (d ∈ L.take 0)) = [] by unfold pick; rw [List.filter_eq_nil_iff]; simp]; exact Live.newj rfl
  rintro m fr M' ⟨i, u, hi, hpre, b2, b4, b5, bu, hu, f1, f2, f4, f5, f6⟩
  simp (disch := omega) only [f1, f2, f4, f5, f6, b2.cell, ↓SXd, SXu, slBounds, ↓sop, ↓aop, ↓reduceIte, LV.cells, AOp.dst, LV.I, LV.B, LV.U, LV.S, LV.nil, Nat.reduceEqDiff, Nat.reduceAdd, Nat.reduceMul, Nat.reduceSub, Nat.reduceLeDiff, Nat.reduceBEq, Nat.reduceDiv, Nat.reduceMod, Int.reduceToNat, Int.reduceLT, Int.reduceLE, Int.reduceAdd, Int.reduceSub, Int.reduceMul, Int.reduceEq, Int.reduceNeg, reduceCtorEq, resV, resAll, ARes.ev, LV.flat, ite_true, ite_false, exists_eq_left', exists_eq_left, keyOf, implies_true, fillC, capOf]
  refine condC_dec (fun hlt => ?_) (fun hlt => ?_)
  · have hil : i < cs.length := by omega
    have hg := Tri.get (h.pre hpre).has hil
    have hci := hH.mem (getD_mem' (d := default) hil)
    have hmi := mirDC_in (d := d) hci
    have hLi := hLg i hil
    rw [Nat.zero_add] at hg
    generalize cs.getD i default = c at hg hci hmi hLi
    have hca := at_in hci d
    have hlb := b5.lt
    have hst := mirDC_set (x := x) (y := y) (z := z) (c := c) hd
    have e7 : [LV.I c.a, LV.I c.b, LV.I c.c][d.toNat]? = some (.I (c.at d)) := Cell.row_dir hd
    simp (disch := omega) only [f1, f2, f4, f5, f6, b2.cell, hg, Cell.row, splice, b2.app.cells, List.getElem?_append_left, hd0, Nat.mul_one, Nat.zero_add, e7, ↓SXd, SXu, slBounds, ↓sop, ↓aop, ↓reduceIte, LV.cells, AOp.dst, LV.I, LV.B, LV.U, LV.S, LV.nil, Nat.reduceEqDiff, Nat.reduceAdd, Nat.reduceMul, Nat.reduceSub, Nat.reduceLeDiff, Nat.reduceBEq, Nat.reduceDiv, Nat.reduceMod, Int.reduceToNat, Int.reduceLT, Int.reduceLE, Int.reduceAdd, Int.reduceSub, Int.reduceMul, Int.reduceEq, Int.reduceNeg, reduceCtorEq, resV, resAll, ARes.ev, LV.flat, ite_true, ite_false, exists_eq_left', exists_eq_left, keyOf, implies_true, fillC, capOf]
    have b7 : Live (M' ++ [some (.row [.I c.a, .I c.b, .I c.c] true 0)]) M'.length (.row c.row true 0) := Live.new
    have b2a := b2.app (L := [some (.row [.I c.a, .I c.b, .I c.c] true 0)])
    have b4a := b4.app (L := [some (.row [.I c.a, .I c.b, .I c.c] true 0)])
    have b5a := b5.app (L := [some (.row [.I c.a, .I c.b, .I c.c] true 0)])
    have bua := bu.app (L := [some (.row [.I c.a, .I c.b, .I c.c] true 0)])
    have hpa : Pre M (M' ++ [some (.row [.I c.a, .I c.b, .I c.c] true 0)]) := hpre.trans (Pre.app _ _)
    have hMM : (M' ++ [some (Blk.row [.I c.a, .I c.b, .I c.c] true 0)]).length = M'.length + 1 := by simp
    generalize M' ++ [some (Blk.row [.I c.a, .I c.b, .I c.c] true 0)] = N1 at b7 b2a b4a b5a bua hpa hMM ⊢
    have hp0 := hpre.1
    refine callK_of (h_l2Long hd) ?_
    simp (disch := omega) only [f1, f2, f4, f5, f6, hd0, Nat.mul_one, Nat.zero_add, ↓SXd, SXu, slBounds, ↓sop, ↓aop, ↓reduceIte, LV.cells, AOp.dst, LV.I, LV.B, LV.U, LV.S, LV.nil, Nat.reduceEqDiff, Nat.reduceAdd, Nat.reduceMul, Nat.reduceSub, Nat.reduceLeDiff, Nat.reduceBEq, Nat.reduceDiv, Nat.reduceMod, Int.reduceToNat, Int.reduceLT, Int.reduceLE, Int.reduceAdd, Int.reduceSub, Int.reduceMul, Int.reduceEq, Int.reduceNeg, reduceCtorEq, resV, resAll, ARes.ev, LV.flat, ite_true, ite_false, exists_eq_left', exists_eq_left, keyOf, implies_true, fillC, capOf]
    refine memK_at b7 (show d.toNat < 3 by omega) fun N2 k1 k2 k3 => ?_
    rw [hst] at k2
    have c2 := live_step b2a (by omega) k3
    have c4 := live_step b4a (by omega) k3
    have c5 := live_step b5a (by omega) k3
    have bul := bu.lt
    have cu := live_step bua (by omega) k3
    have hpc : Pre M N2 := pre_step hpa (by omega) (j := 0) k1 k3
    simp (disch := omega) only [f1, f2, f4, f5, f6, c5.cells, k2.cells, Cell.row, ↓SXd, SXu, slBounds, ↓sop, ↓aop, ↓reduceIte, LV.cells, AOp.dst, LV.I, LV.B, LV.U, LV.S, LV.nil, Nat.reduceEqDiff, Nat.reduceAdd, Nat.reduceMul, Nat.reduceSub, Nat.reduceLeDiff, Nat.reduceBEq, Nat.reduceDiv, Nat.reduceMod, Int.reduceToNat, Int.reduceLT, Int.reduceLE, Int.reduceAdd, Int.reduceSub, Int.reduceMul, Int.reduceEq, Int.reduceNeg, reduceCtorEq, resV, resAll, ARes.ev, LV.flat, ite_true, ite_false, exists_eq_left', exists_eq_left, keyOf, implies_true, fillC, capOf]
    refine callH_of (h_l2With (c := mirDC x y z d c) cu (pick_ok hS _) hmi) ?_
    intro sn N3 hsn hp3 hsr
    rw [← hLi, pick_take_step hS (by omega)] at hsr ⊢
    have hN3 := hp3.1
    simp (disch := omega) only [f1, f2, f4, f5, f6, ↓SXd, SXu, slBounds, ↓sop, ↓aop, ↓reduceIte, LV.cells, AOp.dst, LV.I, LV.B, LV.U, LV.S, LV.nil, Nat.reduceEqDiff, Nat.reduceAdd, Nat.reduceMul, Nat.reduceSub, Nat.reduceLeDiff, Nat.reduceBEq, Nat.reduceDiv, Nat.reduceMod, Int.reduceToNat, Int.reduceLT, Int.reduceLE, Int.reduceAdd, Int.reduceSub, Int.reduceMul, Int.reduceEq, Int.reduceNeg, reduceCtorEq, resV, resAll, ARes.ev, LV.flat, ite_true, ite_false, exists_eq_left', exists_eq_left, keyOf, implies_true, fillC, capOf]
    refine memK_box (c5.pre hp3) (by simp) fun N4 q1 q2 q3 => ?_
    simp (disch := omega) only [f1, f2, f4, f5, f6, ↓SXd, SXu, slBounds, ↓sop, ↓aop, ↓reduceIte, LV.cells, AOp.dst, LV.I, LV.B, LV.U, LV.S, LV.nil, Nat.reduceEqDiff, Nat.reduceAdd, Nat.reduceMul, Nat.reduceSub, Nat.reduceLeDiff, Nat.reduceBEq, Nat.reduceDiv, Nat.reduceMod, Int.reduceToNat, Int.reduceLT, Int.reduceLE, Int.reduceAdd, Int.reduceSub, Int.reduceMul, Int.reduceEq, Int.reduceNeg, reduceCtorEq, resV, resAll, ARes.ev, LV.flat, ite_true, ite_false, exists_eq_left', exists_eq_left, keyOf, implies_true, fillC, capOf]
    exact ⟨m - 1, by omega, i + 1, sn, by omega, pre_step (hpc.trans hp3) (by omega) (j := 0) q1 q3, live_step (c2.pre hp3) (by omega) q3, live_step (c4.pre hp3) (by omega) q3, q2, live_step hsr (by omega) q3, by omega, f1, f2, f4, f5, eqI (natI _)⟩
  · have : i = cs.length := by omega
    subst this
    rw [← hLl, List.take_length] at b5 bu
    have hl5 := b5.lt
    simp (disch := omega) only [f1, f2, f4, f5, f6, b5.cells, ↓SXd, SXu, slBounds, ↓sop, ↓aop, ↓reduceIte, LV.cells, AOp.dst, LV.I, LV.B, LV.U, LV.S, LV.nil, Nat.reduceEqDiff, Nat.reduceAdd, Nat.reduceMul, Nat.reduceSub, Nat.reduceLeDiff, Nat.reduceBEq, Nat.reduceDiv, Nat.reduceMod, Int.reduceToNat, Int.reduceLT, Int.reduceLE, Int.reduceAdd, Int.reduceSub, Int.reduceMul, Int.reduceEq, Int.reduceNeg, reduceCtorEq, resV, resAll, ARes.ev, LV.flat, ite_true, ite_false, exists_eq_left', exists_eq_left, keyOf, implies_true, fillC, capOf]
    refine memK_box b4 (by simp) fun N3 k1 k2 k3 => ?_
    simp (disch := omega) only [f1, f2, f4, f5, f6, k2.cells, ↓SXd, SXu, slBounds, ↓sop, ↓aop, ↓reduceIte, LV.cells, AOp.dst, LV.I, LV.B, LV.U, LV.S, LV.nil, Nat.reduceEqDiff, Nat.reduceAdd, Nat.reduceMul, Nat.reduceSub, Nat.reduceLeDiff, Nat.reduceBEq, Nat.reduceDiv, Nat.reduceMod, Int.reduceToNat, Int.reduceLT, Int.reduceLE, Int.reduceAdd, Int.reduceSub, Int.reduceMul, Int.reduceEq, Int.reduceNeg, reduceCtorEq, resV, resAll, ARes.ev, LV.flat, ite_true, ite_false, exists_eq_left', exists_eq_left, keyOf, implies_true, fillC, capOf]
    exact ⟨⟨u, rfl, live_step bu (bu.ne_esz b4 (by decide)) k3, hu⟩, pre_step hpre (by omega) (j := 0) k1 k3⟩
theorem Live.setN {N : Mem} {q k : Nat} {b : Blk} {v : Option Blk} (h : Live N q b) (hne : q ≠ k) : Live (N.set k v) q b := by
  unfold Live at *
  rw [List.getElem?_set_ne (by omega)]; exact h
theorem Live.only {M N : Mem} {q : Nat} {b0 : Blk} (h : Live M q b0) (k : Live N q b0) : ∀ b, M[q]? = some (some b) → N[q]? = some (some b) := fun b hb => by
  have e : some (some b0) = some (some b) := Eq.trans (Eq.symm h) hb
  cases e
  exact k
theorem set_self {N : Mem} {k : Nat} {v : Option Blk} (h : N[k]? = some v) : N.set k v = N := by
  apply List.ext_getElem?
  intro i
  rw [List.getElem?_set]
  split
  · rename_i e; subst e; rw [h]; split
    · rfl
    · rename_i hl; rw [List.getElem?_eq_none (by omega)] at h; cases h
  · rfl
theorem Live.set_at {N : Mem} {k : Nat} {b : Blk} (h : k < N.length) : Live (N.set k (some b)) k b := by
  unfold Live
  rw [List.getElem?_set_self h]
theorem DrawN.setN {M N : Mem} {p t o a k : Nat} {bs : List Nat} {v : Option Blk} (h : DrawN M p t o bs a N) (hp : p < M.length) (ht : t < M.length) (hk : M.length ≤ k) : DrawN M p t o bs a (N.set k v) :=
  h.keep hp ht (Nat.le_refl _) (by simp) fun q q1 => List.getElem?_set_ne (by omega)
theorem steps_at {b : Nat} (h : b < 6) : ∃ e : Cell, List.take 3 (List.drop (b * 3) [LV.I (-1), .I 0, .I 0, .I 1, .I 0, .I 0, .I 0, .I (-1), .I 0, .I 0, .I 1, .I 0, .I 0, .I 0, .I (-1), .I 0, .I 0, .I 1]) = [.I e.a, .I e.b, .I e.c] ∧ ((-1 ≤ e.a ∧ e.a ≤ 1) ∧ (-1 ≤ e.b ∧ e.b ≤ 1) ∧ (-1 ≤ e.c ∧ e.c ≤ 1)) := by
  rcases (show b = 0 ∨ b = 1 ∨ b = 2 ∨ b = 3 ∨ b = 4 ∨ b = 5 by omega) with rfl | rfl | rfl | rfl | rfl | rfl
  · exact ⟨⟨-1, 0, 0⟩, rfl, by decide⟩
  · exact ⟨⟨1, 0, 0⟩, rfl, by decide⟩
  · exact ⟨⟨0, -1, 0⟩, rfl, by decide⟩
  · exact ⟨⟨0, 1, 0⟩, rfl, by decide⟩
  · exact ⟨⟨0, 0, -1⟩, rfl, by decide⟩
  · exact ⟨⟨0, 0, 1⟩, rfl, by decide⟩
theorem d_form {p t o a : Nat} {bs : List Nat} {M : Mem} {most : Int} (h : CurAt M p t o bs a) (ha : a ≤ 990000) (hm : 1 ≤ most ∧ most ≤ 6) : CallsR PG F.spec_l1Cur_form [.ptr p 0, .I most] M fun v N => (∃ (x y z : Int) (cs : List Cell), HeapOK x y z cs ∧ 0 < cs.length ∧ HeapV M x y z cs v N) ∧ DrawN M p t o bs (a + 40) N := by
  obtain ⟨⟨_, _, _, hpl'⟩, hB, _⟩ := id h
  have hpl := hpl'.lt
  have htM := hB.lt
  refine callsR_run K.spec_l1Cur_form rfl ?_
  simp (disch := omega) only [C.spec_l1Cur_form, ↓SXd, SXu, slBounds, ↓sop, ↓aop, ↓reduceIte, LV.cells, AOp.dst, LV.I, LV.B, LV.U, LV.S, LV.nil, Nat.reduceEqDiff, Nat.reduceAdd, Nat.reduceMul, Nat.reduceSub, Nat.reduceLeDiff, Nat.reduceBEq, Nat.reduceDiv, Nat.reduceMod, Int.reduceToNat, Int.reduceLT, Int.reduceLE, Int.reduceAdd, Int.reduceSub, Int.reduceMul, Int.reduceEq, Int.reduceNeg, reduceCtorEq, resV, resAll, ARes.ev, LV.flat, ite_true, ite_false, exists_eq_left', exists_eq_left, keyOf, implies_true, fillC, capOf]
  refine callR_of (h_l2Box sides1) ?_
  rintro _ N1 ⟨⟨u, rfl, hu, hul⟩, hp1⟩
  have b4 : Live N1 M.length (.row [.I 0, .I 0, .I 0, .nil] true 0) := Live.new.pre hp1
  have hH1 : HeapOK 1 1 1 (cellsOf 1 1 1) := HeapOK.of sides1 (cellsOf_sorted sides1) fun c hc => (mem_cellsOf sides1).1 hc
  have hne : 0 < (cellsOf 1 1 1).length := by decide
  generalize cellsOf 1 1 1 = cs1 at hu hH1 hne ⊢
  simp (disch := omega) only [splice, ↓SXd, SXu, slBounds, ↓sop, ↓aop, ↓reduceIte, LV.cells, AOp.dst, LV.I, LV.B, LV.U, LV.S, LV.nil, Nat.reduceEqDiff, Nat.reduceAdd, Nat.reduceMul, Nat.reduceSub, Nat.reduceLeDiff, Nat.reduceBEq, Nat.reduceDiv, Nat.reduceMod, Int.reduceToNat, Int.reduceLT, Int.reduceLE, Int.reduceAdd, Int.reduceSub, Int.reduceMul, Int.reduceEq, Int.reduceNeg, reduceCtorEq, resV, resAll, ARes.ev, LV.flat, ite_true, ite_false, exists_eq_left', exists_eq_left, keyOf, implies_true, fillC, capOf]
  have c5 : Live (N1 ++ [some (.row [.I 1, .I 1, .I 1, .ref u 0 cs1.length] true 0)]) N1.length (.row [.I 1, .I 1, .I 1, .ref u 0 cs1.length] true 0) := Live.new
  have c4 := b4.app (L := [some (.row [.I 1, .I 1, .I 1, .ref u 0 cs1.length] true 0)])
  have cu := hu.app (L := [some (.row [.I 1, .I 1, .I 1, .ref u 0 cs1.length] true 0)])
  have hP1 : Pre M (N1 ++ [some (.row [.I 1, .I 1, .I 1, .ref u 0 cs1.length] true 0)]) := ((Pre.app _ _).trans hp1).trans (Pre.app _ _)
  have hb4l := b4.lt
  have hbul := hu.lt
  have hul' : M.length < u := by rw [List.length_append] at hul; exact hul
  generalize hb5 : N1.length = b5 at c5 hb4l hbul ⊢
  generalize N1 ++ [some (Blk.row [.I 1, .I 1, .I 1, .ref u 0 cs1.length] true 0)] = N1' at c5 c4 cu hP1 ⊢
  refine callR_of (d_pick (h.pre hP1) (by omega)) ?_
  rintro _ N2 ⟨⟨n, rfl, hn⟩, hd2⟩
  have e4 := hd2.live c4 (by omega)
  have e5 := hd2.live c5 (by omega)
  have eu := hd2.live cu (by omega)
  have hD2 : DrawN M p t o bs (a + 2) N2 := DrawN.of_pre hP1 hd2
  simp (disch := omega) only [↓SXd, SXu, slBounds, ↓sop, ↓aop, ↓reduceIte, LV.cells, AOp.dst, LV.I, LV.B, LV.U, LV.S, LV.nil, Nat.reduceEqDiff, Nat.reduceAdd, Nat.reduceMul, Nat.reduceSub, Nat.reduceLeDiff, Nat.reduceBEq, Nat.reduceDiv, Nat.reduceMod, Int.reduceToNat, Int.reduceLT, Int.reduceLE, Int.reduceAdd, Int.reduceSub, Int.reduceMul, Int.reduceEq, Int.reduceNeg, reduceCtorEq, resV, resAll, ARes.ev, LV.flat, ite_true, ite_false, exists_eq_left', exists_eq_left, keyOf, implies_true, fillC, capOf]
  refine ev_loop (fun m fr M' => ∃ (a' u : Nat) (x y z : Int) (cs : List Cell), a' + 4 * m ≤ a + 40 ∧ DrawN M p t o bs a' M' ∧ Live M' M.length (.row [.I 0, .I 0, .I 0, .nil] true 0) ∧ Live M' b5 (.row [.I x, .I y, .I z, .ref u 0 cs.length] true 0) ∧ Live M' u (.row (triL cs) true 3) ∧ HeapOK x y z cs ∧ 0 < cs.length ∧ M.length < u ∧
    fr 0 = .ptr p 0 ∧ fr 4 = .ptr M.length 0 ∧ fr 5 = .ptr b5 0 ∧ fr 6 = .I m) n
    ⟨a + 2, u, 1, 1, 1, cs1, by omega, hD2, e4, e5, eu, hH1, hne, hul', rfl, rfl, rfl, rfl⟩ ?_
  clear e4 e5 eu cu c4 c5 hu hH1 hne hul' hul hbul
  rintro m fr M' ⟨a', u, x, y, z, cs, ha', hD, b4', b5', bu, hH, hne, hul, f0, f4, f5, f6⟩
  simp (disch := omega) only [f0, f4, f5, f6, ↓SXd, SXu, slBounds, ↓sop, ↓aop, ↓reduceIte, LV.cells, AOp.dst, LV.I, LV.B, LV.U, LV.S, LV.nil, Nat.reduceEqDiff, Nat.reduceAdd, Nat.reduceMul, Nat.reduceSub, Nat.reduceLeDiff, Nat.reduceBEq, Nat.reduceDiv, Nat.reduceMod, Int.reduceToNat, Int.reduceLT, Int.reduceLE, Int.reduceAdd, Int.reduceSub, Int.reduceMul, Int.reduceEq, Int.reduceNeg, reduceCtorEq, resV, resAll, ARes.ev, LV.flat, ite_true, ite_false, exists_eq_left', exists_eq_left, keyOf, implies_true, fillC, capOf]
  refine condC_dec (fun hlt => ?_) (fun hlt => ?_)
  · obtain ⟨m, rfl⟩ : ∃ k, m = k + 1 := ⟨m - 1, by omega⟩
    simp (disch := omega) only [f0, f4, f5, f6, b5'.cells, b5'.cell, ↓SXd, SXu, slBounds, ↓sop, ↓aop, ↓reduceIte, LV.cells, AOp.dst, LV.I, LV.B, LV.U, LV.S, LV.nil, Nat.reduceEqDiff, Nat.reduceAdd, Nat.reduceMul, Nat.reduceSub, Nat.reduceLeDiff, Nat.reduceBEq, Nat.reduceDiv, Nat.reduceMod, Int.reduceToNat, Int.reduceLT, Int.reduceLE, Int.reduceAdd, Int.reduceSub, Int.reduceMul, Int.reduceEq, Int.reduceNeg, reduceCtorEq, resV, resAll, ARes.ev, LV.flat, ite_true, ite_false, exists_eq_left', exists_eq_left, keyOf, implies_true, fillC, capOf]
    have hM'l := hD.2.1
    have hb5l := b5'.lt
    have hbl := bu.lt
    have hcl := hH.len
    have hD0 : DrawN M p t o bs a' (M' ++ [none]) := hD.keep hpl htM (Nat.le_refl _) (by simp) fun q q1 => List.getElem?_append_left (by omega)
    refine callR_of (d_pick hD0.1 (by omega)) ?_
    rintro _ N4 ⟨⟨b, rfl, hb⟩, hd4⟩
    have hN4 := hd4.2.1
    rw [List.length_append, List.length_singleton] at hN4
    have g5 := hd4.live (b5'.app (L := [none])) (by omega)
    have gu := hd4.live (bu.app (L := [none])) (by omega)
    have g4 := hd4.live (b4'.app (L := [none])) (by omega)
    have hD4 : DrawN M p t o bs (a' + 2) N4 := (hD0.trans hd4).up (by omega)
    simp (disch := omega) only [f0, f4, f5, f6, ↓SXd, SXu, slBounds, ↓sop, ↓aop, ↓reduceIte, LV.cells, AOp.dst, LV.I, LV.B, LV.U, LV.S, LV.nil, Nat.reduceEqDiff, Nat.reduceAdd, Nat.reduceMul, Nat.reduceSub, Nat.reduceLeDiff, Nat.reduceBEq, Nat.reduceDiv, Nat.reduceMod, Int.reduceToNat, Int.reduceLT, Int.reduceLE, Int.reduceAdd, Int.reduceSub, Int.reduceMul, Int.reduceEq, Int.reduceNeg, reduceCtorEq, resV, resAll, ARes.ev, LV.flat, ite_true, ite_false, exists_eq_left', exists_eq_left, keyOf, implies_true, fillC, capOf]
    refine ⟨Live.only b5'.app (g5.setN (by omega)), ?_⟩
    have k5 := g5.setN (k := M'.length) (v := some (.row [.I 0, .I 0, .I 0, .val (.slice none 0 0)] true 0)) (by omega)
    have ku := gu.setN (k := M'.length) (v := some (.row [.I 0, .I 0, .I 0, .val (.slice none 0 0)] true 0)) (by omega)
    have k4 := g4.setN (k := M'.length) (v := some (.row [.I 0, .I 0, .I 0, .val (.slice none 0 0)] true 0)) (by omega)
    have k7 : Live (N4.set M'.length (some (.row [.I 0, .I 0, .I 0, .val (.slice none 0 0)] true 0))) M'.length (.row [.I 0, .I 0, .I 0, .val (.slice none 0 0)] true 0) := Live.set_at (by omega)
    have hD5 := hD4.setN (k := M'.length) (v := some (.row [.I 0, .I 0, .I 0, .val (.slice none 0 0)] true 0)) hpl htM (by omega)
    have hN5 : (N4.set M'.length (some (Blk.row [.I 0, .I 0, .I 0, .val (.slice none 0 0)] true 0))).length = N4.length := List.length_set
    generalize N4.set M'.length (some (Blk.row [.I 0, .I 0, .I 0, .val (.slice none 0 0)] true 0)) = N5 at k5 ku k4 k7 hD5 hN5 ⊢
    have hgb := ku.tri0 (k := b) (by omega)
    have hcb := hH.mem (getD_mem' (d := default) (show b < cs.length by omega))
    generalize cs.getD b default = c at hgb hcb
    obtain ⟨⟨_, _⟩, ⟨_, _⟩, ⟨_, _⟩⟩ := id hcb
    obtain ⟨⟨_, _⟩, ⟨_, _⟩, ⟨_, _⟩⟩ := id hH.1
    have k7' : N5[M'.length]? = some (some (.row [.I 0, .I 0, .I 0, .val (.slice none 0 0)] true 0)) := k7
    have hset := set_self k7'
    simp (disch := omega) only [f0, f4, f5, f6, hgb, Cell.row, k7', hset, ↓SXd, SXu, slBounds, ↓sop, ↓aop, ↓reduceIte, LV.cells, AOp.dst, LV.I, LV.B, LV.U, LV.S, LV.nil, Nat.reduceEqDiff, Nat.reduceAdd, Nat.reduceMul, Nat.reduceSub, Nat.reduceLeDiff, Nat.reduceBEq, Nat.reduceDiv, Nat.reduceMod, Int.reduceToNat, Int.reduceLT, Int.reduceLE, Int.reduceAdd, Int.reduceSub, Int.reduceMul, Int.reduceEq, Int.reduceNeg, reduceCtorEq, resV, resAll, ARes.ev, LV.flat, ite_true, ite_false, exists_eq_left', exists_eq_left, keyOf, implies_true, fillC, capOf]
    refine callK_of (h_l6Steps) ?_
    simp (disch := omega) only [f0, f4, f5, f6, List.set_set, hset, k7', ↓SXd, SXu, slBounds, ↓sop, ↓aop, ↓reduceIte, LV.cells, AOp.dst, LV.I, LV.B, LV.U, LV.S, LV.nil, Nat.reduceEqDiff, Nat.reduceAdd, Nat.reduceMul, Nat.reduceSub, Nat.reduceLeDiff, Nat.reduceBEq, Nat.reduceDiv, Nat.reduceMod, Int.reduceToNat, Int.reduceLT, Int.reduceLE, Int.reduceAdd, Int.reduceSub, Int.reduceMul, Int.reduceEq, Int.reduceNeg, reduceCtorEq, resV, resAll, ARes.ev, LV.flat, ite_true, ite_false, exists_eq_left', exists_eq_left, keyOf, implies_true, fillC, capOf]
    have hD5n := hD5.setN (k := M'.length) (v := none) hpl htM (by omega)
    refine callR_of (d_pick hD5n.1 (by omega)) ?_
    rintro _ N6 ⟨⟨b2, rfl, hb2⟩, hd6⟩
    have hN6 := hd6.2.1
    rw [List.length_set] at hN6
    have b26 : b2 < 6 := by omega
    have l5 := (hd6.live (k5.setN (by omega)) (by omega)).setN (k := M'.length) (v := some (.row [.I 0, .I 0, .I 0, .val (.slice none 0 0)] true 0)) (by omega)
    have lu := (hd6.live (ku.setN (by omega)) (by omega)).setN (k := M'.length) (v := some (.row [.I 0, .I 0, .I 0, .val (.slice none 0 0)] true 0)) (by omega)
    have l4 := (hd6.live (k4.setN (by omega)) (by omega)).setN (k := M'.length) (v := some (.row [.I 0, .I 0, .I 0, .val (.slice none 0 0)] true 0)) (by omega)
    have l7 : Live (N6.set M'.length (some (.row [.I 0, .I 0, .I 0, .val (.slice none 0 0)] true 0))) M'.length (.row [.I 0, .I 0, .I 0, .val (.slice none 0 0)] true 0) := Live.set_at (by omega)
    have hD6 := (hD5n.trans hd6).setN (k := M'.length) (v := some (.row [.I 0, .I 0, .I 0, .val (.slice none 0 0)] true 0)) hpl htM (by omega)
    have hN6' : (N6.set M'.length (some (Blk.row [.I 0, .I 0, .I 0, .val (.slice none 0 0)] true 0))).length = N6.length := List.length_set
    simp (disch := omega) only [f0, f4, f5, f6, k7', ↓SXd, SXu, slBounds, ↓sop, ↓aop, ↓reduceIte, LV.cells, AOp.dst, LV.I, LV.B, LV.U, LV.S, LV.nil, Nat.reduceEqDiff, Nat.reduceAdd, Nat.reduceMul, Nat.reduceSub, Nat.reduceLeDiff, Nat.reduceBEq, Nat.reduceDiv, Nat.reduceMod, Int.reduceToNat, Int.reduceLT, Int.reduceLE, Int.reduceAdd, Int.reduceSub, Int.reduceMul, Int.reduceEq, Int.reduceNeg, reduceCtorEq, resV, resAll, ARes.ev, LV.flat, ite_true, ite_false, exists_eq_left', exists_eq_left, keyOf, implies_true, fillC, capOf]
    refine ⟨⟨Live.only k5 l5, Live.only k5 l5, Live.only ku lu⟩, ?_⟩
    generalize N6.set M'.length (some (Blk.row [.I 0, .I 0, .I 0, .val (.slice none 0 0)] true 0)) = N7 at l5 lu l4 l7 hD6 hN6' ⊢
    obtain ⟨e, hst, he⟩ := steps_at b26
    rw [hst]
    have l7' : N7[M'.length]? = some (some (.row [.I 0, .I 0, .I 0, .val (.slice none 0 0)] true 0)) := l7
    have hset7 := set_self l7'
    refine callK_of (h_l6Beside (a := c.a) (b := c.b) (c := c.c) (d := e.a) (e := e.b) (f := e.c) ⟨by omega, by omega, by omega, by omega, by omega, by omega⟩) ?_
    simp (disch := omega) only [f0, f4, f5, f6, l7', List.set_set, hset7, ↓SXd, SXu, slBounds, ↓sop, ↓aop, ↓reduceIte, LV.cells, AOp.dst, LV.I, LV.B, LV.U, LV.S, LV.nil, Nat.reduceEqDiff, Nat.reduceAdd, Nat.reduceMul, Nat.reduceSub, Nat.reduceLeDiff, Nat.reduceBEq, Nat.reduceDiv, Nat.reduceMod, Int.reduceToNat, Int.reduceLT, Int.reduceLE, Int.reduceAdd, Int.reduceSub, Int.reduceMul, Int.reduceEq, Int.reduceNeg, reduceCtorEq, resV, resAll, ARes.ev, LV.flat, ite_true, ite_false, exists_eq_left', exists_eq_left, keyOf, implies_true, fillC, capOf]
    have hg8 := h_l8Grown (x := x) (y := y) (z := z) (c := ⟨c.a + e.a, c.b + e.b, c.c + e.c⟩) (lu.setN (k := M'.length) (v := none) (by omega)) hH ⟨by simp only; omega, by simp only; omega, by simp only; omega⟩
    refine callR_of hg8 ?_
    rintro _ N8 ⟨hr, hp8⟩
    have hN8 := hp8.1
    rw [List.length_set] at hN8
    have m5 := ((l5.setN (k := M'.length) (v := none) (by omega)).pre hp8).setN (k := M'.length) (v := some (.row [.I 0, .I 0, .I 0, .val (.slice none 0 0)] true 0)) (by omega)
    have mu := ((lu.setN (k := M'.length) (v := none) (by omega)).pre hp8).setN (k := M'.length) (v := some (.row [.I 0, .I 0, .I 0, .val (.slice none 0 0)] true 0)) (by omega)
    have m4 := ((l4.setN (k := M'.length) (v := none) (by omega)).pre hp8).setN (k := M'.length) (v := some (.row [.I 0, .I 0, .I 0, .val (.slice none 0 0)] true 0)) (by omega)
    have m7 : Live (N8.set M'.length (some (.row [.I 0, .I 0, .I 0, .val (.slice none 0 0)] true 0))) M'.length (.row [.I 0, .I 0, .I 0, .val (.slice none 0 0)] true 0) := Live.set_at (by omega)
    have hD8 : DrawN M p t o bs (a' + 4) (N8.set M'.length (some (.row [.I 0, .I 0, .I 0, .val (.slice none 0 0)] true 0))) := by
      refine DrawN.setN ?_ hpl htM (by omega)
      exact ((hD6.setN (k := M'.length) (v := none) hpl htM (by omega)).keep hpl htM (Nat.le_refl _) (by rw [List.length_set]; omega) fun q q1 => hp8.2 q (by rw [List.length_set]; omega))
    have hN8' : (N8.set M'.length (some (Blk.row [.I 0, .I 0, .I 0, .val (.slice none 0 0)] true 0))).length = N8.length := List.length_set
    have hm1 : ((m + 1 : Nat) : Int) - 1 = (m : Int) := by omega
    rcases hr with rfl | ⟨u2, ds, rfl, hO, hdl, hu2, hu2l⟩
    · simp (disch := omega) only [f0, f4, f5, f6, l7', ↓SXd, SXu, slBounds, ↓sop, ↓aop, ↓reduceIte, LV.cells, AOp.dst, LV.I, LV.B, LV.U, LV.S, LV.nil, Nat.reduceEqDiff, Nat.reduceAdd, Nat.reduceMul, Nat.reduceSub, Nat.reduceLeDiff, Nat.reduceBEq, Nat.reduceDiv, Nat.reduceMod, Int.reduceToNat, Int.reduceLT, Int.reduceLE, Int.reduceAdd, Int.reduceSub, Int.reduceMul, Int.reduceEq, Int.reduceNeg, reduceCtorEq, resV, resAll, ARes.ev, LV.flat, ite_true, ite_false, exists_eq_left', exists_eq_left, keyOf, implies_true, fillC, capOf]
      generalize N8.set M'.length (some (Blk.row [.I 0, .I 0, .I 0, .val (.slice none 0 0)] true 0)) = N9 at m5 mu m4 m7 hD8 hN8' ⊢
      refine memK_box m7 (by simp) fun N10 k1 k2 k3 => ?_
      simp (disch := omega) only [f0, f4, f5, f6, hm1, ↓SXd, SXu, slBounds, ↓sop, ↓aop, ↓reduceIte, LV.cells, AOp.dst, LV.I, LV.B, LV.U, LV.S, LV.nil, Nat.reduceEqDiff, Nat.reduceAdd, Nat.reduceMul, Nat.reduceSub, Nat.reduceLeDiff, Nat.reduceBEq, Nat.reduceDiv, Nat.reduceMod, Int.reduceToNat, Int.reduceLT, Int.reduceLE, Int.reduceAdd, Int.reduceSub, Int.reduceMul, Int.reduceEq, Int.reduceNeg, reduceCtorEq, resV, resAll, ARes.ev, LV.flat, ite_true, ite_false, exists_eq_left', exists_eq_left, keyOf, implies_true, fillC, capOf]
      exact ⟨m, by omega, a' + 4, u, x, y, z, cs, by omega, hD8.keep hpl htM (Nat.le_refl _) (by omega) fun q q1 => k3 q (by omega) (by omega), live_step m4 (by omega) k3, live_step m5 (by omega) k3, live_step mu (by omega) k3, hH, hne, hul, f0, f4, f5, rfl⟩
    · have hu2l' : N7.length ≤ u2 := by rw [List.length_set] at hu2l; exact hu2l
      have m2 := hu2.setN (k := M'.length) (v := some (.row [.I 0, .I 0, .I 0, .val (.slice none 0 0)] true 0)) (by omega)
      simp (disch := omega) only [f0, f4, f5, f6, l7', ↓SXd, SXu, slBounds, ↓sop, ↓aop, ↓reduceIte, LV.cells, AOp.dst, LV.I, LV.B, LV.U, LV.S, LV.nil, Nat.reduceEqDiff, Nat.reduceAdd, Nat.reduceMul, Nat.reduceSub, Nat.reduceLeDiff, Nat.reduceBEq, Nat.reduceDiv, Nat.reduceMod, Int.reduceToNat, Int.reduceLT, Int.reduceLE, Int.reduceAdd, Int.reduceSub, Int.reduceMul, Int.reduceEq, Int.reduceNeg, reduceCtorEq, resV, resAll, ARes.ev, LV.flat, ite_true, ite_false, exists_eq_left', exists_eq_left, keyOf, implies_true, fillC, capOf]
      generalize N8.set M'.length (some (Blk.row [.I 0, .I 0, .I 0, .val (.slice none 0 0)] true 0)) = N9 at m5 mu m4 m7 m2 hD8 hN8' ⊢
      refine memK_box m7 (by simp) fun N10 k1 k2 k3 => ?_
      have q2 := live_step m2 (by omega) k3
      have q5 := live_step m5 (by omega) k3
      have q4 := live_step m4 (by omega) k3
      have hD10 := hD8.keep (N' := N10) hpl htM (Nat.le_refl _) (by omega) fun q q1 => k3 q (by omega) (by omega)
      simp (disch := omega) only [f0, f4, f5, f6, k2.cells, ↓SXd, SXu, slBounds, ↓sop, ↓aop, ↓reduceIte, LV.cells, AOp.dst, LV.I, LV.B, LV.U, LV.S, LV.nil, Nat.reduceEqDiff, Nat.reduceAdd, Nat.reduceMul, Nat.reduceSub, Nat.reduceLeDiff, Nat.reduceBEq, Nat.reduceDiv, Nat.reduceMod, Int.reduceToNat, Int.reduceLT, Int.reduceLE, Int.reduceAdd, Int.reduceSub, Int.reduceMul, Int.reduceEq, Int.reduceNeg, reduceCtorEq, resV, resAll, ARes.ev, LV.flat, ite_true, ite_false, exists_eq_left', exists_eq_left, keyOf, implies_true, fillC, capOf]
      refine callH_of (h_l2Cropped q2.has (by have := hO.len; omega) hdl (cells_small hO)) ?_
      intro u3 N11 hu3 hp11 hb3
      have hN11 := hp11.1
      simp (disch := omega) only [f0, f4, f5, f6, ↓SXd, SXu, slBounds, ↓sop, ↓aop, ↓reduceIte, LV.cells, AOp.dst, LV.I, LV.B, LV.U, LV.S, LV.nil, Nat.reduceEqDiff, Nat.reduceAdd, Nat.reduceMul, Nat.reduceSub, Nat.reduceLeDiff, Nat.reduceBEq, Nat.reduceDiv, Nat.reduceMod, Int.reduceToNat, Int.reduceLT, Int.reduceLE, Int.reduceAdd, Int.reduceSub, Int.reduceMul, Int.reduceEq, Int.reduceNeg, reduceCtorEq, resV, resAll, ARes.ev, LV.flat, ite_true, ite_false, exists_eq_left', exists_eq_left, keyOf, implies_true, fillC, capOf]
      refine memK_box (q5.pre hp11) (by simp) fun N12 r1 r2 r3 => ?_
      simp (disch := omega) only [f0, f4, f5, f6, hm1, ↓SXd, SXu, slBounds, ↓sop, ↓aop, ↓reduceIte, LV.cells, AOp.dst, LV.I, LV.B, LV.U, LV.S, LV.nil, Nat.reduceEqDiff, Nat.reduceAdd, Nat.reduceMul, Nat.reduceSub, Nat.reduceLeDiff, Nat.reduceBEq, Nat.reduceDiv, Nat.reduceMod, Int.reduceToNat, Int.reduceLT, Int.reduceLE, Int.reduceAdd, Int.reduceSub, Int.reduceMul, Int.reduceEq, Int.reduceNeg, reduceCtorEq, resV, resAll, ARes.ev, LV.flat, ite_true, ite_false, exists_eq_left', exists_eq_left, keyOf, implies_true, fillC, capOf]
      refine ⟨m, by omega, a' + 4, u3, _, _, _, _, by omega, hD10.keep hpl htM (Nat.le_refl _) (by omega) fun q q1 => by rw [r3 q (by omega) (by omega)]; exact hp11.2 q (by omega), live_step (q4.pre hp11) (by omega) r3, r2, live_step hb3 (by omega) r3, crop_ok hO hdl, by rw [cropHp_len]; exact hdl, by omega, f0, f4, f5, rfl⟩
  · simp (disch := omega) only [f0, f4, f5, f6, b5'.cells, ↓SXd, SXu, slBounds, ↓sop, ↓aop, ↓reduceIte, LV.cells, AOp.dst, LV.I, LV.B, LV.U, LV.S, LV.nil, Nat.reduceEqDiff, Nat.reduceAdd, Nat.reduceMul, Nat.reduceSub, Nat.reduceLeDiff, Nat.reduceBEq, Nat.reduceDiv, Nat.reduceMod, Int.reduceToNat, Int.reduceLT, Int.reduceLE, Int.reduceAdd, Int.reduceSub, Int.reduceMul, Int.reduceEq, Int.reduceNeg, reduceCtorEq, resV, resAll, ARes.ev, LV.flat, ite_true, ite_false, exists_eq_left', exists_eq_left, keyOf, implies_true, fillC, capOf]
    have hul2 := bu.lt
    have hb5l := b5'.lt
    refine memK_box b4' (by simp) fun N3 k1 k2 k3 => ?_
    simp (disch := omega) only [f0, f4, f5, f6, k2.cells, ↓SXd, SXu, slBounds, ↓sop, ↓aop, ↓reduceIte, LV.cells, AOp.dst, LV.I, LV.B, LV.U, LV.S, LV.nil, Nat.reduceEqDiff, Nat.reduceAdd, Nat.reduceMul, Nat.reduceSub, Nat.reduceLeDiff, Nat.reduceBEq, Nat.reduceDiv, Nat.reduceMod, Int.reduceToNat, Int.reduceLT, Int.reduceLE, Int.reduceAdd, Int.reduceSub, Int.reduceMul, Int.reduceEq, Int.reduceNeg, reduceCtorEq, resV, resAll, ARes.ev, LV.flat, ite_true, ite_false, exists_eq_left', exists_eq_left, keyOf, implies_true, fillC, capOf]
    exact ⟨⟨x, y, z, cs, hH, hne, u, rfl, live_step bu (by omega) k3, by omega⟩, hD.keep hpl htM (by omega) (by omega) fun q q1 => k3 q (by omega) (by have := hD.2.1; omega)⟩
end Go.Ab

/- Contracts: what the law of forms draws. -/
namespace Go.Ab
open Go
set_option linter.unusedSimpArgs false
set_option linter.unusedVariables false
set_option maxRecDepth 20000

section
variable {t o : Nat} {bs : List Nat} {M : Mem} (hB : Bytes M t o bs) (h255 : ∀ b ∈ bs, b ≤ 255) (hl : bs.length ≤ 1000000000)
include hB h255 hl
theorem d_DrawFirstForm : CallsR PG F.spec_DrawFirstForm [.ref t o bs.length] M fun v N => HeapE M v N ∧ Pre M N := by
  have htM := hB.lt
  refine callsR_run K.spec_DrawFirstForm rfl ?_
  simp (disch := omega) only [C.spec_DrawFirstForm, splice, ↓SXd, SXu, slBounds, ↓sop, ↓aop, ↓reduceIte, LV.cells, AOp.dst, LV.I, LV.B, LV.U, LV.S, LV.nil, Nat.reduceEqDiff, Nat.reduceAdd, Nat.reduceMul, Nat.reduceSub, Nat.reduceLeDiff, Nat.reduceBEq, Nat.reduceDiv, Nat.reduceMod, Int.reduceToNat, Int.reduceLT, Int.reduceLE, Int.reduceAdd, Int.reduceSub, Int.reduceMul, Int.reduceEq, Int.reduceNeg, reduceCtorEq, resV, resAll, ARes.ev, LV.flat, ite_true, ite_false, exists_eq_left', exists_eq_left, keyOf, implies_true, fillC, capOf]
  have hc := CurAt.new2 (b := some (.row [.I 0, .I 0, .I 0, .nil] true 0)) hB h255 hl
  refine callR_of (d_one hc (by omega)) ?_
  rintro _ N1 ⟨⟨b, rfl⟩, hd1⟩
  have b2 : Live N1 M.length (.row [.I 0, .I 0, .I 0, .nil] true 0) := hd1.live Live.new (by omega)
  have hP1 : Pre M N1 := hd1.pre (Pre.app _ _) (by omega)
  have hN1 := hd1.2.1
  rw [List.length_append] at hN1
  simp only [List.length_cons, List.length_nil] at hN1
  cases b
  · simp (disch := omega) only [↓SXd, SXu, slBounds, ↓sop, ↓aop, ↓reduceIte, LV.cells, AOp.dst, LV.I, LV.B, LV.U, LV.S, LV.nil, Nat.reduceEqDiff, Nat.reduceAdd, Nat.reduceMul, Nat.reduceSub, Nat.reduceLeDiff, Nat.reduceBEq, Nat.reduceDiv, Nat.reduceMod, Int.reduceToNat, Int.reduceLT, Int.reduceLE, Int.reduceAdd, Int.reduceSub, Int.reduceMul, Int.reduceEq, Int.reduceNeg, reduceCtorEq, resV, resAll, ARes.ev, LV.flat, ite_true, ite_false, exists_eq_left', exists_eq_left, keyOf, implies_true, fillC, capOf]
    refine callR_of (d_form hd1.1 (by omega) (by omega)) ?_
    rintro _ N2 ⟨⟨x, y, z, cs, hH, hne, u, rfl, hu, hul⟩, hd2⟩
    have c2 := hd2.live b2 (by omega)
    have hP2 := hd2.pre hP1 (by omega)
    have hlen := hH.len
    simp (disch := omega) only [↓SXd, SXu, slBounds, ↓sop, ↓aop, ↓reduceIte, LV.cells, AOp.dst, LV.I, LV.B, LV.U, LV.S, LV.nil, Nat.reduceEqDiff, Nat.reduceAdd, Nat.reduceMul, Nat.reduceSub, Nat.reduceLeDiff, Nat.reduceBEq, Nat.reduceDiv, Nat.reduceMod, Int.reduceToNat, Int.reduceLT, Int.reduceLE, Int.reduceAdd, Int.reduceSub, Int.reduceMul, Int.reduceEq, Int.reduceNeg, reduceCtorEq, resV, resAll, ARes.ev, LV.flat, ite_true, ite_false, exists_eq_left', exists_eq_left, keyOf, implies_true, fillC, capOf]
    refine memK_box c2 (by simp) fun N3 k1 k2 k3 => ?_
    simp (disch := omega) only [k2.cells, ↓SXd, SXu, slBounds, ↓sop, ↓aop, ↓reduceIte, LV.cells, AOp.dst, LV.I, LV.B, LV.U, LV.S, LV.nil, Nat.reduceEqDiff, Nat.reduceAdd, Nat.reduceMul, Nat.reduceSub, Nat.reduceLeDiff, Nat.reduceBEq, Nat.reduceDiv, Nat.reduceMod, Int.reduceToNat, Int.reduceLT, Int.reduceLE, Int.reduceAdd, Int.reduceSub, Int.reduceMul, Int.reduceEq, Int.reduceNeg, reduceCtorEq, resV, resAll, ARes.ev, LV.flat, ite_true, ite_false, exists_eq_left', exists_eq_left, keyOf, implies_true, fillC, capOf]
    exact ⟨⟨x, y, z, cs, u, rfl, live_step hu (by omega) k3, by omega, by omega⟩, pre_step hP2 (by omega) (j := 0) k1 k3⟩
  · simp (disch := omega) only [↓SXd, SXu, slBounds, ↓sop, ↓aop, ↓reduceIte, LV.cells, AOp.dst, LV.I, LV.B, LV.U, LV.S, LV.nil, Nat.reduceEqDiff, Nat.reduceAdd, Nat.reduceMul, Nat.reduceSub, Nat.reduceLeDiff, Nat.reduceBEq, Nat.reduceDiv, Nat.reduceMod, Int.reduceToNat, Int.reduceLT, Int.reduceLE, Int.reduceAdd, Int.reduceSub, Int.reduceMul, Int.reduceEq, Int.reduceNeg, reduceCtorEq, resV, resAll, ARes.ev, LV.flat, ite_true, ite_false, exists_eq_left', exists_eq_left, keyOf, implies_true, fillC, capOf]
    refine callR_of (d_heapE hd1.1 (by omega)) ?_
    rintro _ N2 ⟨⟨x, y, z, cs, u, rfl, hu, hul, hlen⟩, hd2⟩
    have c2 := hd2.live b2 (by omega)
    have hP2 := hd2.pre hP1 (by omega)
    simp (disch := omega) only [↓SXd, SXu, slBounds, ↓sop, ↓aop, ↓reduceIte, LV.cells, AOp.dst, LV.I, LV.B, LV.U, LV.S, LV.nil, Nat.reduceEqDiff, Nat.reduceAdd, Nat.reduceMul, Nat.reduceSub, Nat.reduceLeDiff, Nat.reduceBEq, Nat.reduceDiv, Nat.reduceMod, Int.reduceToNat, Int.reduceLT, Int.reduceLE, Int.reduceAdd, Int.reduceSub, Int.reduceMul, Int.reduceEq, Int.reduceNeg, reduceCtorEq, resV, resAll, ARes.ev, LV.flat, ite_true, ite_false, exists_eq_left', exists_eq_left, keyOf, implies_true, fillC, capOf]
    refine memK_box c2 (by simp) fun N3 k1 k2 k3 => ?_
    simp (disch := omega) only [k2.cells, ↓SXd, SXu, slBounds, ↓sop, ↓aop, ↓reduceIte, LV.cells, AOp.dst, LV.I, LV.B, LV.U, LV.S, LV.nil, Nat.reduceEqDiff, Nat.reduceAdd, Nat.reduceMul, Nat.reduceSub, Nat.reduceLeDiff, Nat.reduceBEq, Nat.reduceDiv, Nat.reduceMod, Int.reduceToNat, Int.reduceLT, Int.reduceLE, Int.reduceAdd, Int.reduceSub, Int.reduceMul, Int.reduceEq, Int.reduceNeg, reduceCtorEq, resV, resAll, ARes.ev, LV.flat, ite_true, ite_false, exists_eq_left', exists_eq_left, keyOf, implies_true, fillC, capOf]
    exact ⟨⟨x, y, z, cs, u, rfl, live_step hu (by omega) k3, by omega, by omega⟩, pre_step hP2 (by omega) (j := 0) k1 k3⟩
theorem d_DrawAreSameForm : CallsR PG F.spec_DrawAreSameForm [.ref t o bs.length] M fun v N => (∃ g h, v = .tup [g, h] ∧ HeapE M g N ∧ HeapE M h N) ∧ Pre M N := by
  have htM := hB.lt
  refine callsR_run K.spec_DrawAreSameForm rfl ?_
  simp (disch := omega) only [C.spec_DrawAreSameForm, splice, ↓SXd, SXu, slBounds, ↓sop, ↓aop, ↓reduceIte, LV.cells, AOp.dst, LV.I, LV.B, LV.U, LV.S, LV.nil, Nat.reduceEqDiff, Nat.reduceAdd, Nat.reduceMul, Nat.reduceSub, Nat.reduceLeDiff, Nat.reduceBEq, Nat.reduceDiv, Nat.reduceMod, Int.reduceToNat, Int.reduceLT, Int.reduceLE, Int.reduceAdd, Int.reduceSub, Int.reduceMul, Int.reduceEq, Int.reduceNeg, reduceCtorEq, resV, resAll, ARes.ev, LV.flat, ite_true, ite_false, exists_eq_left', exists_eq_left, keyOf, implies_true, fillC, capOf]
  have hc : CurAt (M ++ [some (.row [.I 0, .I 0, .I 0, .nil] true 0), some (.row [.I 0, .I 0, .I 0, .nil] true 0), some (.row [.ref t o bs.length, .I 0, .val (.int .u64 0)] true 0)]) (M.length + 2) t o bs 0 := by
    have := CurAt.new (M := M ++ [some (.row [.I 0, .I 0, .I 0, .nil] true 0), some (.row [.I 0, .I 0, .I 0, .nil] true 0)]) (t := t) (o := o) (bs := bs) (Has.app hB) h255 hl
    rw [List.append_assoc, List.length_append] at this
    exact this
  refine callR_of (d_form hc (by omega) (by omega)) ?_
  rintro _ N1 ⟨⟨x, y, z, cs, hH, hne, u, rfl, hu, hul⟩, hd1⟩
  rw [List.length_append] at hul
  simp only [List.length_cons, List.length_nil] at hul
  have b2 : Live N1 M.length (.row [.I 0, .I 0, .I 0, .nil] true 0) := hd1.live Live.new (by omega)
  have b3 : Live N1 (M.length + 1) (.row [.I 0, .I 0, .I 0, .nil] true 0) := hd1.live (Live.newj (j := 1) rfl) (by omega)
  have hP1 : Pre M N1 := hd1.pre (Pre.app _ _) (by omega)
  have hlen := hH.len
  have hull := hu.lt
  simp (disch := omega) only [splice, ↓SXd, SXu, slBounds, ↓sop, ↓aop, ↓reduceIte, LV.cells, AOp.dst, LV.I, LV.B, LV.U, LV.S, LV.nil, Nat.reduceEqDiff, Nat.reduceAdd, Nat.reduceMul, Nat.reduceSub, Nat.reduceLeDiff, Nat.reduceBEq, Nat.reduceDiv, Nat.reduceMod, Int.reduceToNat, Int.reduceLT, Int.reduceLE, Int.reduceAdd, Int.reduceSub, Int.reduceMul, Int.reduceEq, Int.reduceNeg, reduceCtorEq, resV, resAll, ARes.ev, LV.flat, ite_true, ite_false, exists_eq_left', exists_eq_left, keyOf, implies_true, fillC, capOf]
  have c5 : Live (N1 ++ [some (.row [.I x, .I y, .I z, .ref u 0 cs.length] true 0)]) N1.length (.row [.I x, .I y, .I z, .ref u 0 cs.length] true 0) := Live.new
  have c2 := b2.app (L := [some (.row [.I x, .I y, .I z, .ref u 0 cs.length] true 0)])
  have c3 := b3.app (L := [some (.row [.I x, .I y, .I z, .ref u 0 cs.length] true 0)])
  have cu := hu.app (L := [some (.row [.I x, .I y, .I z, .ref u 0 cs.length] true 0)])
  have hP1' : Pre M (N1 ++ [some (.row [.I x, .I y, .I z, .ref u 0 cs.length] true 0)]) := hP1.trans (Pre.app _ _)
  have hcc : CurAt (N1 ++ [some (.row [.I x, .I y, .I z, .ref u 0 cs.length] true 0)]) (M.length + 2) t o bs (0 + 40) := hd1.1.pre (Pre.app _ _)
  generalize hb5 : N1.length = b5 at c5 hull ⊢
  generalize N1 ++ [some (Blk.row [.I x, .I y, .I z, .ref u 0 cs.length] true 0)] = N1' at c5 c2 c3 cu hP1' hcc ⊢
  refine callR_of (d_one hcc (by omega)) ?_
  rintro _ N2 ⟨⟨b, rfl⟩, hd2⟩
  have e5 := hd2.live c5 (by omega)
  have e2 := hd2.live c2 (by omega)
  have e3 := hd2.live c3 (by omega)
  have eu := hd2.live cu (by omega)
  have hP2 := hd2.pre hP1' (by omega)
  have fin : ∀ {N : Mem} {X Y Z : Int} {ds : List Cell} {v : Nat}, Pre M N → Live N M.length (.row [.I 0, .I 0, .I 0, .nil] true 0) → Live N (M.length + 1) (.row [.I 0, .I 0, .I 0, .nil] true 0) → Live N u (.row (triL cs) true 3) → Live N v (.row (triL ds) true 3) → M.length + 2 < v → ds.length ≤ 65 → ∀ N3 N4 : Mem, N3.length = N.length → (∀ q, q ≠ M.length → q < N.length → N3[q]? = N[q]?) → N4.length = N3.length → (∀ q, q ≠ M.length + 1 → q < N3.length → N4[q]? = N3[q]?) →
      (∃ g h, LV.tup [.agg [.I x, .I y, .I z, .ref u 0 cs.length], .agg [.I X, .I Y, .I Z, .ref v 0 ds.length]] = .tup [g, h] ∧ HeapE M g N4 ∧ HeapE M h N4) ∧ Pre M N4 := fun {N X Y Z ds v} a1 a2 a3 a4 a5 a6 a7 N3 N4 a8 a9 a10 a11 =>
    ⟨⟨_, _, rfl, ⟨x, y, z, cs, u, rfl, live_step (live_step a4 (by omega) a9) (by omega) a11, by omega, by omega⟩, ⟨X, Y, Z, ds, v, rfl, live_step (live_step a5 (by omega) a9) (by omega) a11, by omega, a7⟩⟩, pre_step (pre_step a1 (by omega) (j := 0) a8 a9) (by omega) (j := 0) a10 a11⟩
  cases b
  rotate_left
  · simp (disch := omega) only [e5.cells, ↓SXd, SXu, slBounds, ↓sop, ↓aop, ↓reduceIte, LV.cells, AOp.dst, LV.I, LV.B, LV.U, LV.S, LV.nil, Nat.reduceEqDiff, Nat.reduceAdd, Nat.reduceMul, Nat.reduceSub, Nat.reduceLeDiff, Nat.reduceBEq, Nat.reduceDiv, Nat.reduceMod, Int.reduceToNat, Int.reduceLT, Int.reduceLE, Int.reduceAdd, Int.reduceSub, Int.reduceMul, Int.reduceEq, Int.reduceNeg, reduceCtorEq, resV, resAll, ARes.ev, LV.flat, ite_true, ite_false, exists_eq_left', exists_eq_left, keyOf, implies_true, fillC, capOf]
    refine callR_of (d_form hd2.1 (by omega) (by omega)) ?_
    rintro _ N3 ⟨⟨X, Y, Z, ds, hH', hne', v, rfl, hv, hvl⟩, hd3⟩
    have g5 := hd3.live e5 (by omega)
    have g2 := hd3.live e2 (by omega)
    have g3 := hd3.live e3 (by omega)
    have gu := hd3.live eu (by omega)
    have hlen' := hH'.len
    have he5 := e5.lt
    have hP3 := hd3.pre hP2 (by omega)
    simp (disch := omega) only [↓SXd, SXu, slBounds, ↓sop, ↓aop, ↓reduceIte, LV.cells, AOp.dst, LV.I, LV.B, LV.U, LV.S, LV.nil, Nat.reduceEqDiff, Nat.reduceAdd, Nat.reduceMul, Nat.reduceSub, Nat.reduceLeDiff, Nat.reduceBEq, Nat.reduceDiv, Nat.reduceMod, Int.reduceToNat, Int.reduceLT, Int.reduceLE, Int.reduceAdd, Int.reduceSub, Int.reduceMul, Int.reduceEq, Int.reduceNeg, reduceCtorEq, resV, resAll, ARes.ev, LV.flat, ite_true, ite_false, exists_eq_left', exists_eq_left, keyOf, implies_true, fillC, capOf]
    refine ⟨Live.only e5 g5, ?_⟩
    refine memK_box g2 (by simp) fun N4 k1 k2 k3 => ?_
    simp (disch := omega) only [↓SXd, SXu, slBounds, ↓sop, ↓aop, ↓reduceIte, LV.cells, AOp.dst, LV.I, LV.B, LV.U, LV.S, LV.nil, Nat.reduceEqDiff, Nat.reduceAdd, Nat.reduceMul, Nat.reduceSub, Nat.reduceLeDiff, Nat.reduceBEq, Nat.reduceDiv, Nat.reduceMod, Int.reduceToNat, Int.reduceLT, Int.reduceLE, Int.reduceAdd, Int.reduceSub, Int.reduceMul, Int.reduceEq, Int.reduceNeg, reduceCtorEq, resV, resAll, ARes.ev, LV.flat, ite_true, ite_false, exists_eq_left', exists_eq_left, keyOf, implies_true, fillC, capOf]
    refine memK_box (live_step g3 (by omega) k3) (by simp) fun N5 r1 r2 r3 => ?_
    have k2' := live_step k2 (by omega) r3
    simp (disch := omega) only [k2'.cells, r2.cells, ↓SXd, SXu, slBounds, ↓sop, ↓aop, ↓reduceIte, LV.cells, AOp.dst, LV.I, LV.B, LV.U, LV.S, LV.nil, Nat.reduceEqDiff, Nat.reduceAdd, Nat.reduceMul, Nat.reduceSub, Nat.reduceLeDiff, Nat.reduceBEq, Nat.reduceDiv, Nat.reduceMod, Int.reduceToNat, Int.reduceLT, Int.reduceLE, Int.reduceAdd, Int.reduceSub, Int.reduceMul, Int.reduceEq, Int.reduceNeg, reduceCtorEq, resV, resAll, ARes.ev, LV.flat, ite_true, ite_false, exists_eq_left', exists_eq_left, keyOf, implies_true, fillC, capOf]
    exact fin hP3 g2 g3 gu hv (by omega) (by omega) N4 N5 k1 k3 r1 r3
  · simp (disch := omega) only [e5.cells, ↓SXd, SXu, slBounds, ↓sop, ↓aop, ↓reduceIte, LV.cells, AOp.dst, LV.I, LV.B, LV.U, LV.S, LV.nil, Nat.reduceEqDiff, Nat.reduceAdd, Nat.reduceMul, Nat.reduceSub, Nat.reduceLeDiff, Nat.reduceBEq, Nat.reduceDiv, Nat.reduceMod, Int.reduceToNat, Int.reduceLT, Int.reduceLE, Int.reduceAdd, Int.reduceSub, Int.reduceMul, Int.reduceEq, Int.reduceNeg, reduceCtorEq, resV, resAll, ARes.ev, LV.flat, ite_true, ite_false, exists_eq_left', exists_eq_left, keyOf, implies_true, fillC, capOf]
    have he5 := e5.lt
    have hcn : CurAt (N2 ++ [none]) (M.length + 2) t o bs (0 + 40 + 2) := hd2.1.pre (Pre.app _ _)
    refine callR_of (d_pick hcn (by omega)) ?_
    rintro _ N3 ⟨⟨k, rfl, hk⟩, hd3⟩
    have hk23 : (0 : Int) ≤ k ∧ (k : Int) ≤ 23 := by omega
    have hN3 := hd3.2.1
    rw [List.length_append, List.length_singleton] at hN3
    have hP3 : Pre M N3 := hd3.pre (hP2.trans (Pre.app _ _)) (by omega)
    have f5 := (hd3.live (e5.app (L := [none])) (by omega)).setN (k := N2.length) (v := some (.row [.I 0, .I 0, .I 0, .val (.slice none 0 0)] true 0)) (by omega)
    have f2 := (hd3.live (e2.app (L := [none])) (by omega)).setN (k := N2.length) (v := some (.row [.I 0, .I 0, .I 0, .val (.slice none 0 0)] true 0)) (by omega)
    have f3 := (hd3.live (e3.app (L := [none])) (by omega)).setN (k := N2.length) (v := some (.row [.I 0, .I 0, .I 0, .val (.slice none 0 0)] true 0)) (by omega)
    have eul := eu.lt
    have fu := (hd3.live (eu.app (L := [none])) (by omega)).setN (k := N2.length) (v := some (.row [.I 0, .I 0, .I 0, .val (.slice none 0 0)] true 0)) (by omega)
    have f7 : Live (N3.set N2.length (some (.row [.I 0, .I 0, .I 0, .val (.slice none 0 0)] true 0))) N2.length (.row [.I 0, .I 0, .I 0, .val (.slice none 0 0)] true 0) := Live.set_at (by omega)
    have hP3' : Pre M (N3.set N2.length (some (.row [.I 0, .I 0, .I 0, .val (.slice none 0 0)] true 0))) := ⟨by rw [List.length_set]; exact hP3.1, fun q hq => by rw [List.getElem?_set_ne (by omega)]; exact hP3.2 q hq⟩
    have hc3 : CurAt (N3.set N2.length (some (.row [.I 0, .I 0, .I 0, .val (.slice none 0 0)] true 0))) (M.length + 2) t o bs (0 + 40 + 2 + 2) := hd3.1.stepped (u := N2.length) (by omega) (by omega) fun q q1 q2 => List.getElem?_set_ne (by omega)
    have hN3' : (N3.set N2.length (some (Blk.row [.I 0, .I 0, .I 0, .val (.slice none 0 0)] true 0))).length = N3.length := List.length_set
    simp (disch := omega) only [↓SXd, SXu, slBounds, ↓sop, ↓aop, ↓reduceIte, LV.cells, AOp.dst, LV.I, LV.B, LV.U, LV.S, LV.nil, Nat.reduceEqDiff, Nat.reduceAdd, Nat.reduceMul, Nat.reduceSub, Nat.reduceLeDiff, Nat.reduceBEq, Nat.reduceDiv, Nat.reduceMod, Int.reduceToNat, Int.reduceLT, Int.reduceLE, Int.reduceAdd, Int.reduceSub, Int.reduceMul, Int.reduceEq, Int.reduceNeg, reduceCtorEq, resV, resAll, ARes.ev, LV.flat, ite_true, ite_false, exists_eq_left', exists_eq_left, keyOf, implies_true, fillC, capOf]
    refine ⟨Live.only e5.app f5, ?_⟩
    generalize N3.set N2.length (some (Blk.row [.I 0, .I 0, .I 0, .val (.slice none 0 0)] true 0)) = N4 at f5 f2 f3 fu f7 hP3' hc3 hN3' ⊢
    have f7' : N4[N2.length]? = some (some (.row [.I 0, .I 0, .I 0, .val (.slice none 0 0)] true 0)) := f7
    refine callR_of (h_sTurnHeapV (fu.setN (k := N2.length) (v := none) (by omega)) hH hk23) ?_
    rintro _ N5 ⟨⟨v, rfl, hv, hvl⟩, hp5⟩
    have hT : turns.getD (k : Int).toNat oneT ∈ turns := getD_mem' (by rw [turns_len]; omega)
    generalize turns.getD (k : Int).toNat oneT = T at hv hT ⊢
    have hO := turnHp_ok hH T
    have hOl := turnHp_pos hH hne T
    generalize turnHp x y z T cs = G at hv hO hOl ⊢
    have hN5 := hp5.1
    rw [List.length_set] at hN5 hvl
    have hvl' : M.length + 2 < v := by have := hP2.1; omega
    have g5 := ((f5.setN (k := N2.length) (v := none) (by omega)).pre hp5).setN (k := N2.length) (v := some (.row [.I 0, .I 0, .I 0, .val (.slice none 0 0)] true 0)) (by omega)
    have g2 := ((f2.setN (k := N2.length) (v := none) (by omega)).pre hp5).setN (k := N2.length) (v := some (.row [.I 0, .I 0, .I 0, .val (.slice none 0 0)] true 0)) (by omega)
    have g3 := ((f3.setN (k := N2.length) (v := none) (by omega)).pre hp5).setN (k := N2.length) (v := some (.row [.I 0, .I 0, .I 0, .val (.slice none 0 0)] true 0)) (by omega)
    have gu := ((fu.setN (k := N2.length) (v := none) (by omega)).pre hp5).setN (k := N2.length) (v := some (.row [.I 0, .I 0, .I 0, .val (.slice none 0 0)] true 0)) (by omega)
    have gv := hv.setN (k := N2.length) (v := some (.row [.I 0, .I 0, .I 0, .val (.slice none 0 0)] true 0)) (by omega)
    have g7 : Live (N5.set N2.length (some (.row [.I 0, .I 0, .I 0, .val (.slice none 0 0)] true 0))) N2.length (.row [.I 0, .I 0, .I 0, .val (.slice none 0 0)] true 0) := Live.set_at (by omega)
    have hP5 : Pre M (N5.set N2.length (some (.row [.I 0, .I 0, .I 0, .val (.slice none 0 0)] true 0))) := ⟨by rw [List.length_set]; have := hP3'.1; omega, fun q hq => by rw [List.getElem?_set_ne (by have := hP2.1; omega), hp5.2 q (by rw [List.length_set]; have := hP3'.1; omega), List.getElem?_set_ne (by have := hP2.1; omega)]; exact hP3'.2 q hq⟩
    have hc5 : CurAt (N5.set N2.length (some (.row [.I 0, .I 0, .I 0, .val (.slice none 0 0)] true 0))) (M.length + 2) t o bs (0 + 40 + 2 + 2) := by
      refine CurAt.stepped (u := N2.length) (M := N5) ?_ (by omega) (by omega) fun q q1 q2 => List.getElem?_set_ne (by omega)
      exact (CurAt.stepped (u := N2.length) (M := N4) hc3 (by omega) (by omega) fun q q1 q2 => List.getElem?_set_ne (by omega)).pre hp5
    have hN5' : (N5.set N2.length (some (Blk.row [.I 0, .I 0, .I 0, .val (.slice none 0 0)] true 0))).length = N5.length := List.length_set
    simp (disch := omega) only [f7', ↓SXd, SXu, slBounds, ↓sop, ↓aop, ↓reduceIte, LV.cells, AOp.dst, LV.I, LV.B, LV.U, LV.S, LV.nil, Nat.reduceEqDiff, Nat.reduceAdd, Nat.reduceMul, Nat.reduceSub, Nat.reduceLeDiff, Nat.reduceBEq, Nat.reduceDiv, Nat.reduceMod, Int.reduceToNat, Int.reduceLT, Int.reduceLE, Int.reduceAdd, Int.reduceSub, Int.reduceMul, Int.reduceEq, Int.reduceNeg, reduceCtorEq, resV, resAll, ARes.ev, LV.flat, ite_true, ite_false, exists_eq_left', exists_eq_left, keyOf, implies_true, fillC, capOf]
    generalize N5.set N2.length (some (Blk.row [.I 0, .I 0, .I 0, .val (.slice none 0 0)] true 0)) = N6 at g5 g2 g3 gu gv g7 hP5 hc5 hN5' ⊢
    refine memK_box g7 (by simp) fun N7 k1 k2 k3 => ?_
    have h5 := live_step g5 (by omega) k3
    have h2 := live_step g2 (by omega) k3
    have h3 := live_step g3 (by omega) k3
    have hu7 := live_step gu (by omega) k3
    have hv7 := live_step gv (by omega) k3
    have hP7 := pre_step hP5 (by have := hP2.1; omega) (j := 0) k1 k3
    have hc7 := hc5.stepped (by omega) (by omega) k3
    simp (disch := omega) only [↓SXd, SXu, slBounds, ↓sop, ↓aop, ↓reduceIte, LV.cells, AOp.dst, LV.I, LV.B, LV.U, LV.S, LV.nil, Nat.reduceEqDiff, Nat.reduceAdd, Nat.reduceMul, Nat.reduceSub, Nat.reduceLeDiff, Nat.reduceBEq, Nat.reduceDiv, Nat.reduceMod, Int.reduceToNat, Int.reduceLT, Int.reduceLE, Int.reduceAdd, Int.reduceSub, Int.reduceMul, Int.reduceEq, Int.reduceNeg, reduceCtorEq, resV, resAll, ARes.ev, LV.flat, ite_true, ite_false, exists_eq_left', exists_eq_left, keyOf, implies_true, fillC, capOf]
    refine callR_of (d_one hc7 (by omega)) ?_
    rintro _ N8 ⟨⟨b, rfl⟩, hd8⟩
    have i5 := hd8.live h5 (by omega)
    have i2 := hd8.live h2 (by omega)
    have i3 := hd8.live h3 (by omega)
    have iu := hd8.live hu7 (by omega)
    have iv := hd8.live hv7 (by omega)
    have ik := hd8.live k2 (by have := hP2.1; omega)
    have hP8 := hd8.pre hP7 (by omega)
    have hGl := hO.len
    have hh3 := h3.lt
    cases b
    · simp (disch := omega) only [i5.cells, ik.cells, ↓SXd, SXu, slBounds, ↓sop, ↓aop, ↓reduceIte, LV.cells, AOp.dst, LV.I, LV.B, LV.U, LV.S, LV.nil, Nat.reduceEqDiff, Nat.reduceAdd, Nat.reduceMul, Nat.reduceSub, Nat.reduceLeDiff, Nat.reduceBEq, Nat.reduceDiv, Nat.reduceMod, Int.reduceToNat, Int.reduceLT, Int.reduceLE, Int.reduceAdd, Int.reduceSub, Int.reduceMul, Int.reduceEq, Int.reduceNeg, reduceCtorEq, resV, resAll, ARes.ev, LV.flat, ite_true, ite_false, exists_eq_left', exists_eq_left, keyOf, implies_true, fillC, capOf]
      have hikl := ik.lt
      have hP2l := hP2.1
      refine memK_box i2 (by simp) fun N9 k1 k2 k3 => ?_
      simp (disch := omega) only [↓SXd, SXu, slBounds, ↓sop, ↓aop, ↓reduceIte, LV.cells, AOp.dst, LV.I, LV.B, LV.U, LV.S, LV.nil, Nat.reduceEqDiff, Nat.reduceAdd, Nat.reduceMul, Nat.reduceSub, Nat.reduceLeDiff, Nat.reduceBEq, Nat.reduceDiv, Nat.reduceMod, Int.reduceToNat, Int.reduceLT, Int.reduceLE, Int.reduceAdd, Int.reduceSub, Int.reduceMul, Int.reduceEq, Int.reduceNeg, reduceCtorEq, resV, resAll, ARes.ev, LV.flat, ite_true, ite_false, exists_eq_left', exists_eq_left, keyOf, implies_true, fillC, capOf]
      refine ⟨Live.only ik (live_step ik (by omega) k3), ?_⟩
      refine memK_box (live_step i3 (by omega) k3) (by simp) fun N10 r1 r2 r3 => ?_
      have k2' := live_step k2 (by omega) r3
      simp (disch := omega) only [k2'.cells, r2.cells, ↓SXd, SXu, slBounds, ↓sop, ↓aop, ↓reduceIte, LV.cells, AOp.dst, LV.I, LV.B, LV.U, LV.S, LV.nil, Nat.reduceEqDiff, Nat.reduceAdd, Nat.reduceMul, Nat.reduceSub, Nat.reduceLeDiff, Nat.reduceBEq, Nat.reduceDiv, Nat.reduceMod, Int.reduceToNat, Int.reduceLT, Int.reduceLE, Int.reduceAdd, Int.reduceSub, Int.reduceMul, Int.reduceEq, Int.reduceNeg, reduceCtorEq, resV, resAll, ARes.ev, LV.flat, ite_true, ite_false, exists_eq_left', exists_eq_left, keyOf, implies_true, fillC, capOf]
      exact fin hP8 i2 i3 iu iv hvl' (by omega) N9 N10 k1 k3 r1 r3
    · simp (disch := omega) only [ik.cells, ↓SXd, SXu, slBounds, ↓sop, ↓aop, ↓reduceIte, LV.cells, AOp.dst, LV.I, LV.B, LV.U, LV.S, LV.nil, Nat.reduceEqDiff, Nat.reduceAdd, Nat.reduceMul, Nat.reduceSub, Nat.reduceLeDiff, Nat.reduceBEq, Nat.reduceDiv, Nat.reduceMod, Int.reduceToNat, Int.reduceLT, Int.reduceLE, Int.reduceAdd, Int.reduceSub, Int.reduceMul, Int.reduceEq, Int.reduceNeg, reduceCtorEq, resV, resAll, ARes.ev, LV.flat, ite_true, ite_false, exists_eq_left', exists_eq_left, keyOf, implies_true, fillC, capOf]
      refine callR_of (d_pick hd8.1 (by omega)) ?_
      rintro _ N9 ⟨⟨d, rfl, hd⟩, hd9⟩
      have hdd : Dir (d : Int) := by unfold Dir; omega
      have j5 := hd9.live i5 (by omega)
      have j2 := hd9.live i2 (by omega)
      have j3 := hd9.live i3 (by omega)
      have ju := hd9.live iu (by omega)
      have jv := hd9.live iv (by omega)
      have jk := hd9.live ik (by have := hP2.1; omega)
      have hP9 := hd9.pre hP8 (by omega)
      simp (disch := omega) only [↓SXd, SXu, slBounds, ↓sop, ↓aop, ↓reduceIte, LV.cells, AOp.dst, LV.I, LV.B, LV.U, LV.S, LV.nil, Nat.reduceEqDiff, Nat.reduceAdd, Nat.reduceMul, Nat.reduceSub, Nat.reduceLeDiff, Nat.reduceBEq, Nat.reduceDiv, Nat.reduceMod, Int.reduceToNat, Int.reduceLT, Int.reduceLE, Int.reduceAdd, Int.reduceSub, Int.reduceMul, Int.reduceEq, Int.reduceNeg, reduceCtorEq, resV, resAll, ARes.ev, LV.flat, ite_true, ite_false, exists_eq_left', exists_eq_left, keyOf, implies_true, fillC, capOf]
      refine ⟨Live.only ik jk, ?_⟩
      refine callR_of (h_l2MirrorD hdd jv hO) ?_
      rintro _ N10 ⟨⟨v2, rfl, hv2, hv2l⟩, hp10⟩
      have l5 := j5.pre hp10
      have l2 := j2.pre hp10
      have l3 := j3.pre hp10
      have lu := ju.pre hp10
      have hP10 := hP9.trans hp10
      have jkl := jk.lt
      have hN10 := hp10.1
      have h9M := hP9.1
      have j5l := j5.lt
      have j3l := j3.lt
      have jul := ju.lt
      have hml := (pick_ok hO.1 (fun e => decide (e ∈ G.cs.map (mirDC G.x G.y G.z d)))).len
      simp (disch := omega) only [↓SXd, SXu, slBounds, ↓sop, ↓aop, ↓reduceIte, LV.cells, AOp.dst, LV.I, LV.B, LV.U, LV.S, LV.nil, Nat.reduceEqDiff, Nat.reduceAdd, Nat.reduceMul, Nat.reduceSub, Nat.reduceLeDiff, Nat.reduceBEq, Nat.reduceDiv, Nat.reduceMod, Int.reduceToNat, Int.reduceLT, Int.reduceLE, Int.reduceAdd, Int.reduceSub, Int.reduceMul, Int.reduceEq, Int.reduceNeg, reduceCtorEq, resV, resAll, ARes.ev, LV.flat, ite_true, ite_false, exists_eq_left', exists_eq_left, keyOf, implies_true, fillC, capOf]
      refine memK_box (jk.pre hp10) (by simp) fun N11 k1 k2 k3 => ?_
      have hP2l := hP2.1
      simp (disch := omega) only [(live_step l5 (by omega) k3).cells, k2.cells, ↓SXd, SXu, slBounds, ↓sop, ↓aop, ↓reduceIte, LV.cells, AOp.dst, LV.I, LV.B, LV.U, LV.S, LV.nil, Nat.reduceEqDiff, Nat.reduceAdd, Nat.reduceMul, Nat.reduceSub, Nat.reduceLeDiff, Nat.reduceBEq, Nat.reduceDiv, Nat.reduceMod, Int.reduceToNat, Int.reduceLT, Int.reduceLE, Int.reduceAdd, Int.reduceSub, Int.reduceMul, Int.reduceEq, Int.reduceNeg, reduceCtorEq, resV, resAll, ARes.ev, LV.flat, ite_true, ite_false, exists_eq_left', exists_eq_left, keyOf, implies_true, fillC, capOf]
      have m2 := live_step l2 (by omega) k3
      have m3 := live_step l3 (by omega) k3
      have mu := live_step lu (by omega) k3
      have mv := live_step hv2 (by omega) k3
      refine memK_box m2 (by simp) fun N12 r1 r2 r3 => ?_
      simp (disch := omega) only [↓SXd, SXu, slBounds, ↓sop, ↓aop, ↓reduceIte, LV.cells, AOp.dst, LV.I, LV.B, LV.U, LV.S, LV.nil, Nat.reduceEqDiff, Nat.reduceAdd, Nat.reduceMul, Nat.reduceSub, Nat.reduceLeDiff, Nat.reduceBEq, Nat.reduceDiv, Nat.reduceMod, Int.reduceToNat, Int.reduceLT, Int.reduceLE, Int.reduceAdd, Int.reduceSub, Int.reduceMul, Int.reduceEq, Int.reduceNeg, reduceCtorEq, resV, resAll, ARes.ev, LV.flat, ite_true, ite_false, exists_eq_left', exists_eq_left, keyOf, implies_true, fillC, capOf]
      refine ⟨Live.only k2 (live_step k2 (by omega) r3), ?_⟩
      refine memK_box (live_step m3 (by omega) r3) (by simp) fun N13 q1 q2 q3 => ?_
      have r2' := live_step r2 (by omega) q3
      simp (disch := omega) only [r2'.cells, q2.cells, ↓SXd, SXu, slBounds, ↓sop, ↓aop, ↓reduceIte, LV.cells, AOp.dst, LV.I, LV.B, LV.U, LV.S, LV.nil, Nat.reduceEqDiff, Nat.reduceAdd, Nat.reduceMul, Nat.reduceSub, Nat.reduceLeDiff, Nat.reduceBEq, Nat.reduceDiv, Nat.reduceMod, Int.reduceToNat, Int.reduceLT, Int.reduceLE, Int.reduceAdd, Int.reduceSub, Int.reduceMul, Int.reduceEq, Int.reduceNeg, reduceCtorEq, resV, resAll, ARes.ev, LV.flat, ite_true, ite_false, exists_eq_left', exists_eq_left, keyOf, implies_true, fillC, capOf]
      exact fin (pre_step hP10 (by omega) (j := 0) k1 k3) m2 m3 mu mv (by omega) (by unfold mirD; omega) N12 N13 r1 r3 q1 q3
end
end Go.Ab

/- The abstract code of some functions (written by a program of mine from the translation, by way of prepF). -/
namespace Go.Ab.C
open Go.Ab
def laws_rCells : AFn :=
  ⟨2, 26, [.tmp 4],
    .seq (.ops [(none, .mv 4 (.c (.B false)))])
    (.seq (.seq (.ops [(none, .mv 6 (.t 0)),
         (none, .len 7 (.t 6)),
         (none, .mv 8 (.t 1)),
         (none, .len 9 (.t 8)),
         (none, .bin 10 .neq (.t 7) (.t 9))])
      (.cond (.t 10) (.seq (.ops [(none, .mv 4 (.c (.B false)))])
        (.ret))
       (.skip)))
     (.seq (.seq (.ops [(none, .mv 5 (.c (.I 0)))])
       (.block 0 (.loop (.seq (.seq (.ops [(none, .mv 11 (.t 5)),
              (none, .mv 12 (.t 0)),
              (none, .len 13 (.t 12)),
              (none, .bin 14 .lss (.t 11) (.t 13))])
           (.cond (.t 14) (.skip)
            (.exit 0)))
          (.seq (.block 1 (.seq (.draw [⟨(none, .mv 17 (.t 0)), [], []⟩,
                ⟨(none, .mv 18 (.t 5)), [], []⟩,
                ⟨(none, .idxS 19 3 (.t 17) (.t 18)), [], []⟩,
                ⟨(none, .loadN 20 3 (.t 19)), [], []⟩,
                ⟨(none, .mv 21 (.t 1)), [], []⟩,
                ⟨(none, .mv 22 (.t 5)), [], []⟩,
                ⟨(none, .idxS 23 3 (.t 21) (.t 22)), [], []⟩,
                ⟨(none, .loadN 24 3 (.t 23)), [], []⟩,
                ⟨(none, .eqs 25 true 3 (.t 20) (.t 24)), [], []⟩])
             (.cond (.t 25) (.seq (.ops [(none, .mv 4 (.c (.B false)))])
               (.ret))
              (.skip))))
           (.ops [(none, .mv 15 (.t 5)),
              (none, .bin 16 .add (.t 15) (.c (.I 1))),
              (none, .mv 5 (.t 16))]))))))
      (.seq (.ops [(none, .mv 4 (.c (.B true)))])
       (.ret))))⟩
def laws_rHeap : AFn :=
  ⟨2, 31, [.tmp 4],
    .seq (.ops [(none, .box 2 (.t 0)),
       (none, .box 3 (.t 1)),
       (none, .mv 4 (.c (.B false)))])
    (.seq (.ops [(none, .fieldAddr 5 (.t 2) 0),
        (none, .load1 6 (.t 5)),
        (none, .fieldAddr 7 (.t 3) 0),
        (none, .load1 8 (.t 7)),
        (none, .bin 9 .eql (.t 6) (.t 8)),
        (none, .mv 10 (.t 9)),
        (some (10, true), .fieldAddr 11 (.t 2) 1),
        (some (10, true), .load1 12 (.t 11)),
        (some (10, true), .fieldAddr 13 (.t 3) 1),
        (some (10, true), .load1 14 (.t 13)),
        (some (10, true), .bin 15 .eql (.t 12) (.t 14)),
        (none, .pick 16 (.t 10) (.t 15) (.c (.B false))),
        (none, .mv 17 (.t 16)),
        (some (17, true), .fieldAddr 18 (.t 2) 2),
        (some (17, true), .load1 19 (.t 18)),
        (some (17, true), .fieldAddr 20 (.t 3) 2),
        (some (17, true), .load1 21 (.t 20)),
        (some (17, true), .bin 22 .eql (.t 19) (.t 21)),
        (none, .pick 23 (.t 17) (.t 22) (.c (.B false))),
        (none, .mv 24 (.t 23)),
        (some (24, true), .fieldAddr 25 (.t 2) 3),
        (some (24, true), .load1 26 (.t 25)),
        (some (24, true), .fieldAddr 27 (.t 3) 3),
        (some (24, true), .load1 28 (.t 27)),
        (some (24, true), .call (some 29) F.laws_rCells [(.t 26), (.t 28)]),
        (none, .pick 30 (.t 24) (.t 29) (.c (.B false))),
        (none, .mv 4 (.t 30))])
     (.ret))⟩
def impl_isTurn : AFn :=
  ⟨1, 5, [.tmp 2],
    .seq (.ops [(none, .mv 2 (.c (.B false)))])
    (.seq (.ops [(none, .mv 3 (.t 0)),
        (none, .call (some 4) F.impl_within [(.t 3), (.c (.I 0)), (.c (.I 23))]),
        (none, .mv 2 (.t 4))])
     (.ret))⟩
def impl_TurnHeap : AFn :=
  ⟨2, 21, [.cellN 4 4, .tmp 5],
    .seq (.ops [(none, .box 2 (.t 0)),
       (none, .alloc 4 [(.I 0), (.I 0), (.I 0), .nil]),
       (none, .mv 5 (.c (.B false)))])
    (.seq (.seq (.ops [(none, .loadN 6 4 (.t 2)),
         (none, .call (some 7) F.impl_IsHeap [(.t 6)]),
         (none, .un 8 .not (.t 7)),
         (none, .mv 9 (.t 8)),
         (some (9, false), .mv 10 (.t 1)),
         (some (9, false), .call (some 11) F.impl_isTurn [(.t 10)]),
         (some (9, false), .un 12 .not (.t 11)),
         (none, .pick 13 (.t 9) (.c (.B true)) (.t 12))])
      (.cond (.t 13) (.seq (.ops [(none, .build 14 [(.I 0), (.I 0), (.I 0), .nil] []),
           (none, .store 4 (.t 4) (.t 14)),
           (none, .mv 5 (.c (.B false)))])
        (.ret))
       (.skip)))
     (.seq (.draw [⟨(none, .mv 16 (.t 1)), [], []⟩,
         ⟨(none, .loadN 19 4 (.t 2)), [], []⟩,
         ⟨(none, .call (some 15) F.impl_turnings []), [], [0, 1]⟩,
         ⟨(none, .idxS 17 6 (.t 15) (.t 16)), [], []⟩,
         ⟨(none, .loadN 18 6 (.t 17)), [], []⟩,
         ⟨(none, .call (some 20) F.impl_turning_of [(.t 18), (.t 19)]), [], []⟩,
         ⟨(none, .store 4 (.t 4) (.t 20)), [], []⟩,
         ⟨(none, .mv 5 (.c (.B true))), [], []⟩])
      (.ret)))⟩
end Go.Ab.C

/- That the program has this code. -/
namespace Go.Ab.K
open Go Go.Ab
theorem laws_rCells : prepF Go.Proofs.Tryz.prog F.laws_rCells = some C.laws_rCells := by kernel_rfl
theorem laws_rHeap : prepF Go.Proofs.Tryz.prog F.laws_rHeap = some C.laws_rHeap := by kernel_rfl
theorem impl_isTurn : prepF Go.Proofs.Tryz.prog F.impl_isTurn = some C.impl_isTurn := by kernel_rfl
theorem impl_TurnHeap : prepF Go.Proofs.Tryz.prog F.impl_TurnHeap = some C.impl_TurnHeap := by kernel_rfl
end Go.Ab.K

/- The abstract code of some functions (written by a program of mine from the translation, by way of prepF). -/
namespace Go.Ab.C
open Go.Ab
def laws_rBig : AFn :=
  ⟨1, 6, [.tmp 2],
    .seq (.ops [(none, .mv 2 (.c (.B false)))])
    (.seq (.ops [(none, .mv 3 (.t 0)),
        (none, .len 4 (.t 3)),
        (none, .bin 5 .gtr (.t 4) (.c (.I 65536))),
        (none, .mv 2 (.t 5))])
     (.ret))⟩
def laws_rInts : AFn :=
  ⟨2, 26, [.tmp 4],
    .seq (.ops [(none, .mv 4 (.c (.B false)))])
    (.seq (.seq (.ops [(none, .mv 6 (.t 0)),
         (none, .len 7 (.t 6)),
         (none, .mv 8 (.t 1)),
         (none, .len 9 (.t 8)),
         (none, .bin 10 .neq (.t 7) (.t 9))])
      (.cond (.t 10) (.seq (.ops [(none, .mv 4 (.c (.B false)))])
        (.ret))
       (.skip)))
     (.seq (.seq (.ops [(none, .mv 5 (.c (.I 0)))])
       (.block 0 (.loop (.seq (.seq (.ops [(none, .mv 11 (.t 5)),
              (none, .mv 12 (.t 0)),
              (none, .len 13 (.t 12)),
              (none, .bin 14 .lss (.t 11) (.t 13))])
           (.cond (.t 14) (.skip)
            (.exit 0)))
          (.seq (.block 1 (.seq (.draw [⟨(none, .mv 17 (.t 0)), [], []⟩,
                ⟨(none, .mv 18 (.t 5)), [], []⟩,
                ⟨(none, .idxS 19 1 (.t 17) (.t 18)), [], []⟩,
                ⟨(none, .load1 20 (.t 19)), [], []⟩,
                ⟨(none, .mv 21 (.t 1)), [], []⟩,
                ⟨(none, .mv 22 (.t 5)), [], []⟩,
                ⟨(none, .idxS 23 1 (.t 21) (.t 22)), [], []⟩,
                ⟨(none, .load1 24 (.t 23)), [], []⟩,
                ⟨(none, .bin 25 .neq (.t 20) (.t 24)), [], []⟩])
             (.cond (.t 25) (.seq (.ops [(none, .mv 4 (.c (.B false)))])
               (.ret))
              (.skip))))
           (.ops [(none, .mv 15 (.t 5)),
              (none, .bin 16 .add (.t 15) (.c (.I 1))),
              (none, .mv 5 (.t 16))]))))))
      (.seq (.ops [(none, .mv 4 (.c (.B true)))])
       (.ret))))⟩
def laws_rHas : AFn :=
  ⟨2, 18, [.tmp 4],
    .seq (.ops [(none, .mv 4 (.c (.B false)))])
    (.seq (.seq (.ops [(none, .mv 5 (.c (.I 0)))])
      (.block 0 (.loop (.seq (.seq (.ops [(none, .mv 6 (.t 5)),
             (none, .mv 7 (.t 0)),
             (none, .len 8 (.t 7)),
             (none, .bin 9 .lss (.t 6) (.t 8))])
          (.cond (.t 9) (.skip)
           (.exit 0)))
         (.seq (.block 1 (.seq (.ops [(none, .mv 12 (.t 0)),
               (none, .mv 13 (.t 5)),
               (none, .idxS 14 1 (.t 12) (.t 13)),
               (none, .load1 15 (.t 14)),
               (none, .mv 16 (.t 1)),
               (none, .bin 17 .eql (.t 15) (.t 16))])
            (.cond (.t 17) (.seq (.ops [(none, .mv 4 (.c (.B true)))])
              (.ret))
             (.skip))))
          (.ops [(none, .mv 10 (.t 5)),
             (none, .bin 11 .add (.t 10) (.c (.I 1))),
             (none, .mv 5 (.t 11))]))))))
     (.seq (.ops [(none, .mv 4 (.c (.B false)))])
      (.ret)))⟩
end Go.Ab.C

/- That the program has this code. -/
namespace Go.Ab.K
open Go Go.Ab
theorem laws_rBig : prepF Go.Proofs.Tryz.prog F.laws_rBig = some C.laws_rBig := by kernel_rfl
theorem laws_rInts : prepF Go.Proofs.Tryz.prog F.laws_rInts = some C.laws_rInts := by kernel_rfl
theorem laws_rHas : prepF Go.Proofs.Tryz.prog F.laws_rHas = some C.laws_rHas := by kernel_rfl
end Go.Ab.K

/- Contracts: the laws' helpers on lists of numbers; cuts at an if. -/
namespace Go.Ab
open Go
set_option linter.unusedSimpArgs false
set_option linter.unusedVariables false
set_option maxRecDepth 20000

theorem k_rBig {t o : Nat} {n : Nat} {M : Mem} (hn : n ≤ 9223372036854775807) : CallsTo PG F.laws_rBig [.ref t o n] M (.B (decide ((65536 : Int) < n))) M := by
  refine calls_run K.laws_rBig rfl ?_
  simp (disch := omega) only [C.laws_rBig, ↓SXd, SXu, slBounds, ↓sop, ↓aop, ↓reduceIte, LV.cells, AOp.dst, LV.I, LV.B, LV.U, LV.S, LV.nil, Nat.reduceEqDiff, Nat.reduceAdd, Nat.reduceMul, Nat.reduceSub, Nat.reduceLeDiff, Nat.reduceBEq, Nat.reduceDiv, Nat.reduceMod, Int.reduceToNat, Int.reduceLT, Int.reduceLE, Int.reduceAdd, Int.reduceSub, Int.reduceMul, Int.reduceEq, Int.reduceNeg, reduceCtorEq, resV, resAll, ARes.ev, LV.flat, ite_true, ite_false, exists_eq_left', exists_eq_left, keyOf, implies_true, fillC, capOf]
  exact cmp_drop0 rfl
theorem IntsV.lenV {N : Mem} {v : LV} {l : List Int} (h : IntsV N v l) : lenV v = some (l.length : Int) := by
  rcases h with ⟨rfl, rfl⟩ | ⟨t, o, rfl, _⟩ <;> rfl
theorem IntsV.at {N : Mem} {v : LV} {l : List Int} {k : Nat} (h : IntsV N v l) (hk : k < l.length) : ∃ t o, v = .ref t o l.length ∧ getCell N t (o + k) = some (.I (l.getD k 0)) := by
  rcases h with ⟨rfl, rfl⟩ | ⟨t, o, rfl, h⟩
  · simp at hk
  · exact ⟨t, o, rfl, Ints.get h hk⟩
theorem k_rInts {l : List Int} {v v' : LV} {M : Mem} (h : IntsV M v l) (h' : IntsV M v' l) (hn : l.length ≤ 1000000000) : CallsTo PG F.laws_rInts [v, v'] M (.B true) M := by
  refine calls_run K.laws_rInts rfl ?_
  have hv := h.lenV
  have hv' := h'.lenV
  simp (disch := omega) only [C.laws_rInts, hv, hv', ↓SXd, SXu, slBounds, ↓sop, ↓aop, ↓reduceIte, LV.cells, AOp.dst, LV.I, LV.B, LV.U, LV.S, LV.nil, Nat.reduceEqDiff, Nat.reduceAdd, Nat.reduceMul, Nat.reduceSub, Nat.reduceLeDiff, Nat.reduceBEq, Nat.reduceDiv, Nat.reduceMod, Int.reduceToNat, Int.reduceLT, Int.reduceLE, Int.reduceAdd, Int.reduceSub, Int.reduceMul, Int.reduceEq, Int.reduceNeg, reduceCtorEq, resV, resAll, ARes.ev, LV.flat, ite_true, ite_false, exists_eq_left', exists_eq_left, keyOf, implies_true, fillC, capOf]
  refine ev_loop (fun m fr M' => ∃ k : Nat, k + m = l.length ∧ M' = M ∧ fr 0 = v ∧ fr 1 = v' ∧ fr 5 = .I k) l.length ⟨0, by omega, rfl, rfl, rfl, rfl⟩ ?_
  rintro m fr M' ⟨k, hk, rfl, h0, h1, h5⟩
  simp (disch := omega) only [h0, h1, h5, hv, ↓SXd, SXu, slBounds, ↓sop, ↓aop, ↓reduceIte, LV.cells, AOp.dst, LV.I, LV.B, LV.U, LV.S, LV.nil, Nat.reduceEqDiff, Nat.reduceAdd, Nat.reduceMul, Nat.reduceSub, Nat.reduceLeDiff, Nat.reduceBEq, Nat.reduceDiv, Nat.reduceMod, Int.reduceToNat, Int.reduceLT, Int.reduceLE, Int.reduceAdd, Int.reduceSub, Int.reduceMul, Int.reduceEq, Int.reduceNeg, reduceCtorEq, resV, resAll, ARes.ev, LV.flat, ite_true, ite_false, exists_eq_left', exists_eq_left, keyOf, implies_true, fillC, capOf]
  refine condC_dec (fun hlt => ?_) (fun hlt => ?_)
  · obtain ⟨t, o, rfl, hg⟩ := h.at (k := k) (by omega)
    obtain ⟨t', o', rfl, hg'⟩ := h'.at (k := k) (by omega)
    simp (disch := omega) only [h0, h1, h5, hg, hg', Nat.mul_one, ↓SXd, SXu, slBounds, ↓sop, ↓aop, ↓reduceIte, LV.cells, AOp.dst, LV.I, LV.B, LV.U, LV.S, LV.nil, Nat.reduceEqDiff, Nat.reduceAdd, Nat.reduceMul, Nat.reduceSub, Nat.reduceLeDiff, Nat.reduceBEq, Nat.reduceDiv, Nat.reduceMod, Int.reduceToNat, Int.reduceLT, Int.reduceLE, Int.reduceAdd, Int.reduceSub, Int.reduceMul, Int.reduceEq, Int.reduceNeg, reduceCtorEq, resV, resAll, ARes.ev, LV.flat, ite_true, ite_false, exists_eq_left', exists_eq_left, keyOf, implies_true, fillC, capOf]
    exact ⟨m - 1, by omega, k + 1, by omega, rfl, h0, h1, eqI (natI _)⟩
  · simp (disch := omega) only [h0, h1, h5, ↓SXd, SXu, slBounds, ↓sop, ↓aop, ↓reduceIte, LV.cells, AOp.dst, LV.I, LV.B, LV.U, LV.S, LV.nil, Nat.reduceEqDiff, Nat.reduceAdd, Nat.reduceMul, Nat.reduceSub, Nat.reduceLeDiff, Nat.reduceBEq, Nat.reduceDiv, Nat.reduceMod, Int.reduceToNat, Int.reduceLT, Int.reduceLE, Int.reduceAdd, Int.reduceSub, Int.reduceMul, Int.reduceEq, Int.reduceNeg, reduceCtorEq, resV, resAll, ARes.ev, LV.flat, ite_true, ite_false, exists_eq_left', exists_eq_left, keyOf, implies_true, fillC, capOf]
    exact cmp_drop0 rfl
theorem k_rHas {l : List Int} {v : LV} {n : Int} {M : Mem} (h : IntsV M v l) (hn : l.length ≤ 1000000000) (hm : n ∈ l) : CallsTo PG F.laws_rHas [v, .I n] M (.B true) M := by
  refine calls_run K.laws_rHas rfl ?_
  have hv := h.lenV
  simp (disch := omega) only [C.laws_rHas, ↓SXd, SXu, slBounds, ↓sop, ↓aop, ↓reduceIte, LV.cells, AOp.dst, LV.I, LV.B, LV.U, LV.S, LV.nil, Nat.reduceEqDiff, Nat.reduceAdd, Nat.reduceMul, Nat.reduceSub, Nat.reduceLeDiff, Nat.reduceBEq, Nat.reduceDiv, Nat.reduceMod, Int.reduceToNat, Int.reduceLT, Int.reduceLE, Int.reduceAdd, Int.reduceSub, Int.reduceMul, Int.reduceEq, Int.reduceNeg, reduceCtorEq, resV, resAll, ARes.ev, LV.flat, ite_true, ite_false, exists_eq_left', exists_eq_left, keyOf, implies_true, fillC, capOf]
  refine ev_loop (fun m fr M' => ∃ k : Nat, k + m = l.length ∧ M' = M ∧ fr 0 = v ∧ fr 1 = .I n ∧ fr 5 = .I k ∧ n ∉ l.take k) l.length ⟨0, by omega, rfl, rfl, rfl, rfl, by simp⟩ ?_
  rintro m fr M' ⟨k, hk, rfl, h0, h1, h5, hno⟩
  simp (disch := omega) only [h0, h1, h5, hv, ↓SXd, SXu, slBounds, ↓sop, ↓aop, ↓reduceIte, LV.cells, AOp.dst, LV.I, LV.B, LV.U, LV.S, LV.nil, Nat.reduceEqDiff, Nat.reduceAdd, Nat.reduceMul, Nat.reduceSub, Nat.reduceLeDiff, Nat.reduceBEq, Nat.reduceDiv, Nat.reduceMod, Int.reduceToNat, Int.reduceLT, Int.reduceLE, Int.reduceAdd, Int.reduceSub, Int.reduceMul, Int.reduceEq, Int.reduceNeg, reduceCtorEq, resV, resAll, ARes.ev, LV.flat, ite_true, ite_false, exists_eq_left', exists_eq_left, keyOf, implies_true, fillC, capOf]
  refine condC_dec (fun hlt => ?_) (fun hlt => ?_)
  · obtain ⟨t, o, rfl, hg⟩ := h.at (k := k) (by omega)
    by_cases he : l.getD k 0 = n
    · simp (disch := omega) only [h0, h1, h5, hg, Nat.mul_one, he, ↓SXd, SXu, slBounds, ↓sop, ↓aop, ↓reduceIte, LV.cells, AOp.dst, LV.I, LV.B, LV.U, LV.S, LV.nil, Nat.reduceEqDiff, Nat.reduceAdd, Nat.reduceMul, Nat.reduceSub, Nat.reduceLeDiff, Nat.reduceBEq, Nat.reduceDiv, Nat.reduceMod, Int.reduceToNat, Int.reduceLT, Int.reduceLE, Int.reduceAdd, Int.reduceSub, Int.reduceMul, Int.reduceEq, Int.reduceNeg, reduceCtorEq, resV, resAll, ARes.ev, LV.flat, ite_true, ite_false, exists_eq_left', exists_eq_left, keyOf, implies_true, fillC, capOf]
      exact cmp_drop0 rfl
    · simp (disch := omega) only [h0, h1, h5, hg, Nat.mul_one, he, ↓SXd, SXu, slBounds, ↓sop, ↓aop, ↓reduceIte, LV.cells, AOp.dst, LV.I, LV.B, LV.U, LV.S, LV.nil, Nat.reduceEqDiff, Nat.reduceAdd, Nat.reduceMul, Nat.reduceSub, Nat.reduceLeDiff, Nat.reduceBEq, Nat.reduceDiv, Nat.reduceMod, Int.reduceToNat, Int.reduceLT, Int.reduceLE, Int.reduceAdd, Int.reduceSub, Int.reduceMul, Int.reduceEq, Int.reduceNeg, reduceCtorEq, resV, resAll, ARes.ev, LV.flat, ite_true, ite_false, exists_eq_left', exists_eq_left, keyOf, implies_true, fillC, capOf]
      refine ⟨m - 1, by omega, k + 1, by omega, rfl, h0, h1, eqI (natI _), fun hin => ?_⟩
      rw [List.take_succ, List.getElem?_eq_getElem (show k < l.length by omega), List.mem_append] at hin
      rcases hin with hin | hin
      · exact hno hin
      · simp only [Option.toList, List.mem_singleton] at hin
        exact he (by rw [hin]; simp [show k < l.length by omega])
  · rw [List.take_of_length_le (by omega)] at hno
    exact absurd hm hno
end Go.Ab

/- The abstract code of some functions (written by a program of mine from the translation, by way of prepF). -/
namespace Go.Ab.C
open Go.Ab
def impl_MirrorHeap : AFn :=
  ⟨2, 20, [.cellN 4 4, .tmp 5],
    .seq (.ops [(none, .box 2 (.t 0)),
       (none, .box 3 (.t 1)),
       (none, .alloc 4 [(.I 0), (.I 0), (.I 0), .nil]),
       (none, .mv 5 (.c (.B false)))])
    (.seq (.seq (.ops [(none, .loadN 6 4 (.t 2)),
         (none, .call (some 7) F.impl_IsHeap [(.t 6)]),
         (none, .un 8 .not (.t 7)),
         (none, .mv 9 (.t 8)),
         (some (9, false), .load1 10 (.t 3)),
         (some (9, false), .call (some 11) F.impl_isDirection [(.t 10)]),
         (some (9, false), .un 12 .not (.t 11)),
         (none, .pick 13 (.t 9) (.c (.B true)) (.t 12))])
      (.cond (.t 13) (.seq (.ops [(none, .build 14 [(.I 0), (.I 0), (.I 0), .nil] []),
           (none, .store 4 (.t 4) (.t 14)),
           (none, .mv 5 (.c (.B false)))])
        (.ret))
       (.skip)))
     (.seq (.draw [⟨(none, .loadN 15 4 (.t 2)), [], []⟩,
         ⟨(none, .loadN 16 4 (.t 2)), [], []⟩,
         ⟨(none, .mkf 18 F.impl_MirrorHeap_1 [(.t 2), (.t 3)]), [], []⟩,
         ⟨(none, .call (some 17) F.impl_Heap_box [(.t 16)]), [], [0, 2]⟩,
         ⟨(none, .call (some 19) F.impl_Heap_moved [(.t 15), (.t 17), (.t 18)]), [], []⟩,
         ⟨(none, .store 4 (.t 4) (.t 19)), [], []⟩,
         ⟨(none, .mv 5 (.c (.B true))), [], []⟩])
      (.ret)))⟩
def impl_MirrorHeap_1 : AFn :=
  ⟨3, 10, [.cellN 4 3],
    .seq (.ops [(none, .box 3 (.t 0)),
       (none, .alloc 4 [(.I 0), (.I 0), (.I 0)])])
    (.seq (.draw [⟨(none, .loadN 5 4 (.t 1)), [], []⟩,
        ⟨(none, .loadN 7 3 (.t 3)), [], []⟩,
        ⟨(none, .load1 8 (.t 2)), [], []⟩,
        ⟨(none, .call (some 6) F.impl_Heap_box [(.t 5)]), [], [1, 2]⟩,
        ⟨(none, .call (some 9) F.impl_box_mirror [(.t 6), (.t 7), (.t 8)]), [], []⟩,
        ⟨(none, .store 3 (.t 4) (.t 9)), [], []⟩])
     (.ret))⟩
def impl_box_mirror : AFn :=
  ⟨3, 18, [.cellN 6 3],
    .seq (.ops [(none, .box 3 (.t 0)),
       (none, .box 4 (.t 1)),
       (none, .alloc 6 [(.I 0), (.I 0), (.I 0)])])
    (.seq (.draw [⟨(none, .mv 7 (.t 2)), [], []⟩,
        ⟨(none, .mv 8 (.t 2)), [], []⟩,
        ⟨(none, .idxA 9 3 1 (.t 3) (.t 8)), [], []⟩,
        ⟨(none, .load1 10 (.t 9)), [], []⟩,
        ⟨(none, .bin 11 .sub (.t 10) (.c (.I 1))), [], []⟩,
        ⟨(none, .mv 12 (.t 2)), [], []⟩,
        ⟨(none, .idxA 13 3 1 (.t 4) (.t 12)), [], []⟩,
        ⟨(none, .load1 14 (.t 13)), [], []⟩,
        ⟨(none, .bin 15 .sub (.t 11) (.t 14)), [], []⟩,
        ⟨(none, .idxA 16 3 1 (.t 4) (.t 7)), [], []⟩,
        ⟨(none, .store 1 (.t 16) (.t 15)), [], []⟩])
     (.seq (.ops [(none, .loadN 17 3 (.t 4)),
         (none, .store 3 (.t 6) (.t 17))])
      (.ret)))⟩
def impl_isDirection : AFn :=
  ⟨1, 5, [.tmp 2],
    .seq (.ops [(none, .mv 2 (.c (.B false)))])
    (.seq (.ops [(none, .mv 3 (.t 0)),
        (none, .call (some 4) F.impl_within [(.t 3), (.c (.I 0)), (.c (.I 2))]),
        (none, .mv 2 (.t 4))])
     (.ret))⟩
def impl_Heap_handed : AFn :=
  ⟨1, 16, [.tmp 2],
    .seq (.ops [(none, .box 1 (.t 0)),
       (none, .mv 2 (.c (.B false)))])
    (.seq (.ops [(none, .loadN 6 4 (.t 1)),
        (none, .call (some 7) F.impl_MirrorHeap [(.t 6), (.c (.I 0))]),
        (none, .mv 5 (.t 7)),
        (none, .extract 8 (.t 5) 0),
        (none, .extract 9 (.t 5) 1),
        (none, .alloc 3 [(.I 0), (.I 0), (.I 0), .nil]),
        (none, .store 4 (.t 3) (.t 8)),
        (none, .mv 4 (.t 9))])
     (.seq (.draw [⟨(none, .loadN 10 4 (.t 3)), [], []⟩,
         ⟨(none, .loadN 12 4 (.t 1)), [], []⟩,
         ⟨(none, .call (some 11) F.impl_Heap_form [(.t 10)]), [], [1]⟩,
         ⟨(none, .call (some 13) F.impl_Heap_form [(.t 12)]), [], []⟩,
         ⟨(none, .call (some 14) F.impl_Heap_same [(.t 11), (.t 13)]), [], []⟩,
         ⟨(none, .un 15 .not (.t 14)), [], []⟩,
         ⟨(none, .mv 2 (.t 15)), [], []⟩])
      (.ret)))⟩
def impl_IsHanded : AFn :=
  ⟨1, 9, [.tmp 2, .tmp 3],
    .seq (.ops [(none, .box 1 (.t 0)),
       (none, .mv 2 (.c (.B false))),
       (none, .mv 3 (.c (.B false)))])
    (.seq (.seq (.ops [(none, .loadN 4 4 (.t 1)),
         (none, .call (some 5) F.impl_isFilled [(.t 4)]),
         (none, .un 6 .not (.t 5))])
      (.cond (.t 6) (.seq (.ops [(none, .mv 2 (.c (.B false))),
           (none, .mv 3 (.c (.B false)))])
        (.ret))
       (.skip)))
     (.seq (.ops [(none, .loadN 7 4 (.t 1)),
         (none, .call (some 8) F.impl_Heap_handed [(.t 7)]),
         (none, .mv 2 (.t 8)),
         (none, .mv 3 (.c (.B true)))])
      (.ret)))⟩
end Go.Ab.C

/- That the program has this code. -/
namespace Go.Ab.K
open Go Go.Ab
theorem impl_MirrorHeap : prepF Go.Proofs.Tryz.prog F.impl_MirrorHeap = some C.impl_MirrorHeap := by kernel_rfl
theorem impl_MirrorHeap_1 : prepF Go.Proofs.Tryz.prog F.impl_MirrorHeap_1 = some C.impl_MirrorHeap_1 := by kernel_rfl
theorem impl_box_mirror : prepF Go.Proofs.Tryz.prog F.impl_box_mirror = some C.impl_box_mirror := by kernel_rfl
theorem impl_isDirection : prepF Go.Proofs.Tryz.prog F.impl_isDirection = some C.impl_isDirection := by kernel_rfl
theorem impl_Heap_handed : prepF Go.Proofs.Tryz.prog F.impl_Heap_handed = some C.impl_Heap_handed := by kernel_rfl
theorem impl_IsHanded : prepF Go.Proofs.Tryz.prog F.impl_IsHanded = some C.impl_IsHanded := by kernel_rfl
end Go.Ab.K

/- The abstract code of some functions (written by a program of mine from the translation, by way of prepF). -/
namespace Go.Ab.C
open Go.Ab
def impl_isFilled : AFn :=
  ⟨1, 11, [.tmp 2],
    .seq (.ops [(none, .box 1 (.t 0)),
       (none, .mv 2 (.c (.B false)))])
    (.seq (.ops [(none, .loadN 3 4 (.t 1)),
        (none, .call (some 4) F.impl_IsHeap [(.t 3)]),
        (none, .mv 5 (.t 4)),
        (some (5, true), .fieldAddr 6 (.t 1) 3),
        (some (5, true), .load1 7 (.t 6)),
        (some (5, true), .len 8 (.t 7)),
        (some (5, true), .bin 9 .gtr (.t 8) (.c (.I 0))),
        (none, .pick 10 (.t 5) (.t 9) (.c (.B false))),
        (none, .mv 2 (.t 10))])
     (.ret))⟩
def impl_FirstForm : AFn :=
  ⟨1, 10, [.cellN 2 4, .tmp 3],
    .seq (.ops [(none, .box 1 (.t 0)),
       (none, .alloc 2 [(.I 0), (.I 0), (.I 0), .nil]),
       (none, .mv 3 (.c (.B false)))])
    (.seq (.seq (.ops [(none, .loadN 4 4 (.t 1)),
         (none, .call (some 5) F.impl_isFilled [(.t 4)]),
         (none, .un 6 .not (.t 5))])
      (.cond (.t 6) (.seq (.ops [(none, .build 7 [(.I 0), (.I 0), (.I 0), .nil] []),
           (none, .store 4 (.t 2) (.t 7)),
           (none, .mv 3 (.c (.B false)))])
        (.ret))
       (.skip)))
     (.seq (.ops [(none, .loadN 8 4 (.t 1)),
         (none, .call (some 9) F.impl_Heap_form [(.t 8)]),
         (none, .store 4 (.t 2) (.t 9)),
         (none, .mv 3 (.c (.B true)))])
      (.ret)))⟩
def impl_SymmetriesOf : AFn :=
  ⟨1, 32, [.tmp 2, .tmp 3],
    .seq (.ops [(none, .box 1 (.t 0)),
       (none, .mv 2 (.c .nil)),
       (none, .mv 3 (.c (.B false)))])
    (.seq (.seq (.ops [(none, .loadN 8 4 (.t 1)),
         (none, .call (some 9) F.impl_isFilled [(.t 8)]),
         (none, .un 10 .not (.t 9))])
      (.cond (.t 10) (.seq (.ops [(none, .mv 2 (.c .nil)),
           (none, .mv 3 (.c (.B false)))])
        (.ret))
       (.skip)))
     (.seq (.ops [(none, .buildSl 11 0 1 [] []),
         (none, .loadN 12 4 (.t 1)),
         (none, .call (some 13) F.impl_Heap_positions [(.t 12)]),
         (none, .mv 4 (.t 11)),
         (none, .mv 5 (.t 13))])
      (.seq (.seq (.ops [(none, .mv 14 (.t 5)),
           (none, .len 15 (.t 14)),
           (none, .mv 16 (.c (.I 0)))])
        (.block 0 (.loop (.seq (.ops [(none, .bin 17 .lss (.t 16) (.t 15))])
           (.seq (.cond (.t 17) (.skip)
             (.exit 0))
            (.seq (.block 1 (.seq (.ops [(none, .mv 18 (.t 16)),
                  (none, .idxS 19 4 (.t 14) (.t 16)),
                  (none, .loadN 20 4 (.t 19)),
                  (none, .alloc 7 [(.I 0), (.I 0), (.I 0), .nil]),
                  (none, .mv 6 (.t 18)),
                  (none, .store 4 (.t 7) (.t 20))])
               (.seq (.draw [⟨(none, .loadN 21 4 (.t 7)), [], []⟩,
                   ⟨(none, .mv 22 (.t 5)), [], []⟩,
                   ⟨(none, .idxS 23 4 (.t 22) (.c (.I 0))), [], []⟩,
                   ⟨(none, .loadN 24 4 (.t 23)), [], []⟩,
                   ⟨(none, .call (some 25) F.impl_Heap_same [(.t 21), (.t 24)]), [], []⟩])
                (.cond (.t 25) (.ops [(none, .mv 26 (.t 4)),
                    (none, .mv 27 (.t 6)),
                    (none, .buildSl 28 1 1 [(.I 0)] [(0, 1, (.t 27))]),
                    (none, .append 29 1 8 (.t 26) (.t 28)),
                    (none, .mv 4 (.t 29))])
                 (.skip)))))
             (.ops [(none, .bin 30 .add (.t 16) (.c (.I 1))),
                (none, .mv 16 (.t 30))])))))))
       (.seq (.ops [(none, .mv 31 (.t 4)),
           (none, .mv 2 (.t 31)),
           (none, .mv 3 (.c (.B true)))])
        (.ret)))))⟩
end Go.Ab.C

/- That the program has this code. -/
namespace Go.Ab.K
open Go Go.Ab
theorem impl_isFilled : prepF Go.Proofs.Tryz.prog F.impl_isFilled = some C.impl_isFilled := by kernel_rfl
theorem impl_FirstForm : prepF Go.Proofs.Tryz.prog F.impl_FirstForm = some C.impl_FirstForm := by kernel_rfl
theorem impl_SymmetriesOf : prepF Go.Proofs.Tryz.prog F.impl_SymmetriesOf = some C.impl_SymmetriesOf := by kernel_rfl
end Go.Ab.K

/- The abstract code of some functions (written by a program of mine from the translation, by way of prepF). -/
namespace Go.Ab.C
open Go.Ab
def impl_Heap_positions : AFn :=
  ⟨1, 28, [.tmp 2],
    .seq (.ops [(none, .box 1 (.t 0)),
       (none, .mv 2 (.c .nil))])
    (.seq (.ops [(none, .buildSl 8 0 4 [] []),
        (none, .mv 3 (.t 8))])
     (.seq (.seq (.ops [(none, .call (some 9) F.impl_turnings []),
          (none, .len 10 (.t 9)),
          (none, .mv 11 (.c (.I 0)))])
       (.block 0 (.loop (.seq (.ops [(none, .bin 12 .lss (.t 11) (.t 10))])
          (.seq (.cond (.t 12) (.skip)
            (.exit 0))
           (.seq (.block 1 (.seq (.ops [(none, .idxS 13 6 (.t 9) (.t 11)),
                 (none, .loadN 14 6 (.t 13)),
                 (none, .alloc 5 [(.I 0), (.I 0), (.I 0), (.I 0), (.I 0), (.I 0)]),
                 (none, .store 6 (.t 5) (.t 14))])
              (.seq (.ops [(none, .loadN 16 6 (.t 5)),
                  (none, .loadN 17 4 (.t 1)),
                  (none, .call (some 18) F.impl_turning_of [(.t 16), (.t 17)]),
                  (none, .call (some 19) F.impl_CropHeap [(.t 18)]),
                  (none, .mv 15 (.t 19)),
                  (none, .extract 20 (.t 15) 0),
                  (none, .extract 21 (.t 15) 1),
                  (none, .alloc 6 [(.I 0), (.I 0), (.I 0), .nil]),
                  (none, .store 4 (.t 6) (.t 20)),
                  (none, .mv 7 (.t 21))])
               (.ops [(none, .mv 22 (.t 3)),
                  (none, .loadN 23 4 (.t 6)),
                  (none, .buildSl 24 1 4 [(.I 0), (.I 0), (.I 0), .nil] [(0, 4, (.t 23))]),
                  (none, .append 25 4 48 (.t 22) (.t 24)),
                  (none, .mv 3 (.t 25))]))))
            (.ops [(none, .bin 26 .add (.t 11) (.c (.I 1))),
               (none, .mv 11 (.t 26))])))))))
      (.seq (.ops [(none, .mv 27 (.t 3)),
          (none, .mv 2 (.t 27))])
       (.ret))))⟩
def slices_MinFunc_Simpl_Heap_impl_Heap : AFn :=
  ⟨2, 33, [.cellN 4 4],
    .seq (.ops [(none, .alloc 4 [(.I 0), (.I 0), (.I 0), .nil])])
    (.seq (.seq (.ops [(none, .mv 7 (.t 0)),
         (none, .len 8 (.t 7)),
         (none, .bin 9 .lss (.t 8) (.c (.I 1)))])
      (.cond (.t 9) (.ops [(none, .bad),
          (none, .bad)])
       (.skip)))
     (.seq (.ops [(none, .mv 11 (.t 0)),
         (none, .idxS 12 4 (.t 11) (.c (.I 0))),
         (none, .loadN 13 4 (.t 12)),
         (none, .alloc 5 [(.I 0), (.I 0), (.I 0), .nil]),
         (none, .store 4 (.t 5) (.t 13))])
      (.seq (.seq (.ops [(none, .mv 6 (.c (.I 1)))])
        (.block 0 (.loop (.seq (.seq (.ops [(none, .mv 14 (.t 6)),
               (none, .mv 15 (.t 0)),
               (none, .len 16 (.t 15)),
               (none, .bin 17 .lss (.t 14) (.t 16))])
            (.cond (.t 17) (.skip)
             (.exit 0)))
           (.seq (.block 1 (.seq (.draw [⟨(none, .mv 20 (.t 1)), [], []⟩,
                 ⟨(none, .mv 21 (.t 0)), [], []⟩,
                 ⟨(none, .mv 22 (.t 6)), [], []⟩,
                 ⟨(none, .idxS 23 4 (.t 21) (.t 22)), [], []⟩,
                 ⟨(none, .loadN 24 4 (.t 23)), [], []⟩,
                 ⟨(none, .loadN 25 4 (.t 5)), [], []⟩,
                 ⟨(none, .callV (some 26) (.t 20) [(.t 24), (.t 25)]), [], []⟩,
                 ⟨(none, .bin 27 .lss (.t 26) (.c (.I 0))), [], []⟩])
              (.cond (.t 27) (.ops [(none, .mv 28 (.t 0)),
                  (none, .mv 29 (.t 6)),
                  (none, .idxS 30 4 (.t 28) (.t 29)),
                  (none, .loadN 31 4 (.t 30)),
                  (none, .store 4 (.t 5) (.t 31))])
               (.skip))))
            (.ops [(none, .mv 18 (.t 6)),
               (none, .bin 19 .add (.t 18) (.c (.I 1))),
               (none, .mv 6 (.t 19))]))))))
       (.seq (.ops [(none, .loadN 32 4 (.t 5)),
           (none, .store 4 (.t 4) (.t 32))])
        (.ret)))))⟩
def impl_Heap_form : AFn :=
  ⟨1, 6, [.cellN 2 4],
    .seq (.ops [(none, .box 1 (.t 0)),
       (none, .alloc 2 [(.I 0), (.I 0), (.I 0), .nil])])
    (.seq (.ops [(none, .loadN 3 4 (.t 1)),
        (none, .call (some 4) F.impl_Heap_positions [(.t 3)]),
        (none, .call (some 5) F.slices_MinFunc_Simpl_Heap_impl_Heap [(.t 4), (.c (.clo F.impl_compareHeaps []))]),
        (none, .store 4 (.t 2) (.t 5))])
     (.ret))⟩
end Go.Ab.C

/- That the program has this code. -/
namespace Go.Ab.K
open Go Go.Ab
theorem impl_Heap_positions : prepF Go.Proofs.Tryz.prog F.impl_Heap_positions = some C.impl_Heap_positions := by kernel_rfl
theorem slices_MinFunc_Simpl_Heap_impl_Heap : prepF Go.Proofs.Tryz.prog F.slices_MinFunc_Simpl_Heap_impl_Heap = some C.slices_MinFunc_Simpl_Heap_impl_Heap := by kernel_rfl
theorem impl_Heap_form : prepF Go.Proofs.Tryz.prog F.impl_Heap_form = some C.impl_Heap_form := by kernel_rfl
end Go.Ab.K

/- The abstract code of some functions (written by a program of mine from the translation, by way of prepF). -/
namespace Go.Ab.C
open Go.Ab
def impl_compareHeaps : AFn :=
  ⟨2, 23, [.tmp 4],
    .seq (.ops [(none, .box 2 (.t 0)),
       (none, .box 3 (.t 1)),
       (none, .mv 4 (.c (.I 0)))])
    (.seq (.draw [⟨(none, .loadN 8 4 (.t 2)), [], []⟩,
        ⟨(none, .loadN 10 4 (.t 3)), [], []⟩,
        ⟨(none, .alloc 5 [(.I 0), (.I 0), (.I 0)]), [], []⟩,
        ⟨(none, .alloc 6 [(.I 0), (.I 0), (.I 0)]), [], []⟩,
        ⟨(none, .call (some 9) F.impl_Heap_box [(.t 8)]), [2, 3], [1]⟩,
        ⟨(none, .call (some 11) F.impl_Heap_box [(.t 10)]), [2, 3], []⟩,
        ⟨(none, .store 3 (.t 5) (.t 9)), [], []⟩,
        ⟨(none, .store 3 (.t 6) (.t 11)), [], []⟩])
     (.seq (.seq (.draw [⟨(none, .slA 12 3 1 (.t 5) none none), [], []⟩,
          ⟨(none, .slA 13 3 1 (.t 6) none none), [], []⟩,
          ⟨(none, .call (some 14) F.slices_Compare_Sint_int [(.t 12), (.t 13)]), [], []⟩,
          ⟨(none, .mv 7 (.t 14)), [], []⟩])
       (.seq (.ops [(none, .mv 15 (.t 7)),
           (none, .bin 16 .neq (.t 15) (.c (.I 0)))])
        (.cond (.t 16) (.seq (.ops [(none, .mv 17 (.t 7)),
             (none, .mv 4 (.t 17))])
          (.ret))
         (.skip))))
      (.seq (.ops [(none, .fieldAddr 18 (.t 2) 3),
          (none, .load1 19 (.t 18)),
          (none, .fieldAddr 20 (.t 3) 3),
          (none, .load1 21 (.t 20)),
          (none, .call (some 22) F.slices_CompareFunc_SA3int_SA3int_A3int_A3int [(.t 19), (.t 21), (.c (.clo F.impl_compareCells []))]),
          (none, .mv 4 (.t 22))])
       (.ret))))⟩
def slices_CompareFunc_SA3int_SA3int_A3int_A3int : AFn :=
  ⟨3, 39, [.tmp 6],
    .seq (.ops [(none, .mv 6 (.c (.I 0)))])
    (.seq (.seq (.ops [(none, .mv 11 (.t 0)),
         (none, .len 12 (.t 11)),
         (none, .mv 13 (.c (.I 0)))])
      (.block 0 (.loop (.seq (.ops [(none, .bin 14 .lss (.t 13) (.t 12))])
         (.seq (.cond (.t 14) (.skip)
           (.exit 0))
          (.seq (.block 1 (.seq (.ops [(none, .mv 15 (.t 13)),
                (none, .idxS 16 3 (.t 11) (.t 13)),
                (none, .loadN 17 3 (.t 16)),
                (none, .alloc 8 [(.I 0), (.I 0), (.I 0)]),
                (none, .mv 7 (.t 15)),
                (none, .store 3 (.t 8) (.t 17))])
             (.seq (.seq (.ops [(none, .mv 18 (.t 7)),
                  (none, .mv 19 (.t 1)),
                  (none, .len 20 (.t 19)),
                  (none, .bin 21 .geq (.t 18) (.t 20))])
               (.cond (.t 21) (.seq (.ops [(none, .mv 6 (.c (.I 1)))])
                 (.ret))
                (.skip)))
              (.seq (.ops [(none, .mv 22 (.t 1)),
                  (none, .mv 23 (.t 7)),
                  (none, .idxS 24 3 (.t 22) (.t 23)),
                  (none, .loadN 25 3 (.t 24)),
                  (none, .alloc 9 [(.I 0), (.I 0), (.I 0)]),
                  (none, .store 3 (.t 9) (.t 25))])
               (.seq (.ops [(none, .mv 26 (.t 2)),
                   (none, .loadN 27 3 (.t 8)),
                   (none, .loadN 28 3 (.t 9)),
                   (none, .callV (some 29) (.t 26) [(.t 27), (.t 28)]),
                   (none, .mv 10 (.t 29))])
                (.seq (.ops [(none, .mv 30 (.t 10)),
                    (none, .bin 31 .neq (.t 30) (.c (.I 0)))])
                 (.cond (.t 31) (.seq (.ops [(none, .mv 32 (.t 10)),
                      (none, .mv 6 (.t 32))])
                   (.ret))
                  (.skip))))))))
           (.ops [(none, .bin 33 .add (.t 13) (.c (.I 1))),
              (none, .mv 13 (.t 33))])))))))
     (.seq (.seq (.ops [(none, .mv 34 (.t 0)),
          (none, .len 35 (.t 34)),
          (none, .mv 36 (.t 1)),
          (none, .len 37 (.t 36)),
          (none, .bin 38 .lss (.t 35) (.t 37))])
       (.cond (.t 38) (.seq (.ops [(none, .mv 6 (.c (.I (-1))))])
         (.ret))
        (.skip)))
      (.seq (.ops [(none, .mv 6 (.c (.I 0)))])
       (.ret))))⟩
def impl_Heap_same : AFn :=
  ⟨2, 17, [.tmp 4],
    .seq (.ops [(none, .box 2 (.t 0)),
       (none, .box 3 (.t 1)),
       (none, .mv 4 (.c (.B false)))])
    (.seq (.draw [⟨(none, .loadN 5 4 (.t 2)), [], []⟩,
        ⟨(none, .loadN 7 4 (.t 3)), [], []⟩,
        ⟨(none, .call (some 6) F.impl_Heap_box [(.t 5)]), [], [1]⟩,
        ⟨(none, .call (some 8) F.impl_Heap_box [(.t 7)]), [], []⟩,
        ⟨(none, .eqs 9 false 3 (.t 6) (.t 8)), [], []⟩,
        ⟨(none, .mv 10 (.t 9)), [], []⟩,
        ⟨(some (10, true), .fieldAddr 11 (.t 2) 3), [], []⟩,
        ⟨(some (10, true), .load1 12 (.t 11)), [], []⟩,
        ⟨(some (10, true), .fieldAddr 13 (.t 3) 3), [], []⟩,
        ⟨(some (10, true), .load1 14 (.t 13)), [], []⟩,
        ⟨(some (10, true), .call (some 15) F.slices_Equal_SA3int_A3int [(.t 12), (.t 14)]), [], []⟩,
        ⟨(none, .pick 16 (.t 10) (.t 15) (.c (.B false))), [], []⟩,
        ⟨(none, .mv 4 (.t 16)), [], []⟩])
     (.ret))⟩
def slices_Equal_SA3int_A3int : AFn :=
  ⟨2, 26, [.tmp 4],
    .seq (.ops [(none, .mv 4 (.c (.B false)))])
    (.seq (.seq (.ops [(none, .mv 6 (.t 0)),
         (none, .len 7 (.t 6)),
         (none, .mv 8 (.t 1)),
         (none, .len 9 (.t 8)),
         (none, .bin 10 .neq (.t 7) (.t 9))])
      (.cond (.t 10) (.seq (.ops [(none, .mv 4 (.c (.B false)))])
        (.ret))
       (.skip)))
     (.seq (.seq (.ops [(none, .mv 11 (.t 0)),
          (none, .len 12 (.t 11)),
          (none, .mv 13 (.c (.I 0)))])
       (.block 0 (.loop (.seq (.ops [(none, .bin 14 .lss (.t 13) (.t 12))])
          (.seq (.cond (.t 14) (.skip)
            (.exit 0))
           (.seq (.block 1 (.seq (.ops [(none, .mv 15 (.t 13)),
                 (none, .mv 5 (.t 15))])
              (.seq (.draw [⟨(none, .mv 16 (.t 0)), [], []⟩,
                  ⟨(none, .mv 17 (.t 5)), [], []⟩,
                  ⟨(none, .idxS 18 3 (.t 16) (.t 17)), [], []⟩,
                  ⟨(none, .loadN 19 3 (.t 18)), [], []⟩,
                  ⟨(none, .mv 20 (.t 1)), [], []⟩,
                  ⟨(none, .mv 21 (.t 5)), [], []⟩,
                  ⟨(none, .idxS 22 3 (.t 20) (.t 21)), [], []⟩,
                  ⟨(none, .loadN 23 3 (.t 22)), [], []⟩,
                  ⟨(none, .eqs 24 true 3 (.t 19) (.t 23)), [], []⟩])
               (.cond (.t 24) (.seq (.ops [(none, .mv 4 (.c (.B false)))])
                 (.ret))
                (.skip)))))
            (.ops [(none, .bin 25 .add (.t 13) (.c (.I 1))),
               (none, .mv 13 (.t 25))])))))))
      (.seq (.ops [(none, .mv 4 (.c (.B true)))])
       (.ret))))⟩
end Go.Ab.C

/- That the program has this code. -/
namespace Go.Ab.K
open Go Go.Ab
theorem impl_compareHeaps : prepF Go.Proofs.Tryz.prog F.impl_compareHeaps = some C.impl_compareHeaps := by kernel_rfl
theorem slices_CompareFunc_SA3int_SA3int_A3int_A3int : prepF Go.Proofs.Tryz.prog F.slices_CompareFunc_SA3int_SA3int_A3int_A3int = some C.slices_CompareFunc_SA3int_SA3int_A3int_A3int := by kernel_rfl
theorem impl_Heap_same : prepF Go.Proofs.Tryz.prog F.impl_Heap_same = some C.impl_Heap_same := by kernel_rfl
theorem slices_Equal_SA3int_A3int : prepF Go.Proofs.Tryz.prog F.slices_Equal_SA3int_A3int = some C.slices_Equal_SA3int_A3int := by kernel_rfl
end Go.Ab.K

/- Contracts: the program's order of heaps. -/
namespace Go.Ab
open Go
set_option linter.unusedSimpArgs false
set_option linter.unusedVariables false

def cmp3 (a b : Cell) : Int := cmpL [a.a, a.b, a.c] [b.a, b.b, b.c]
theorem cmp3_lt {a b : Cell} : cmp3 a b < 0 ↔ a.lt b := by
  have := cmpL_lt (a := a.a) (b := a.b) (c := a.c) (a' := b.a) (b' := b.b) (c' := b.c)
  rw [cell_eta, cell_eta] at this
  unfold cmp3
  refine ⟨fun h => Classical.byContradiction fun k => ?_, fun h => Int.not_le.1 fun k => this.1 k h⟩
  have := this.2 k
  omega
theorem cmp3_eq {a b : Cell} : cmp3 a b = 0 ↔ a = b := by
  rw [cell_eq]
  unfold cmp3 
  simp only [cmpL, cmpI]
  split <;> (try split) <;> (try split) <;> (try split) <;> (try split) <;> (try split) <;> omega
def cmpC : List Cell → List Cell → Int
  | [], [] => 0
  | [], _ :: _ => -1
  | _ :: _, [] => 1
  | a :: l, b :: m => if cmp3 a b ≠ 0 then cmp3 a b else cmpC l m
theorem cmpC_lt : ∀ {l m : List Cell}, cmpC l m < 0 ↔ lexC l m = true
  | [], [] => by simp [cmpC, lexC]
  | [], _ :: _ => by simp [cmpC, lexC]
  | _ :: _, [] => by simp [cmpC, lexC]
  | a :: l, b :: m => by
    simp only [cmpC, lexC]
    by_cases h : a = b
    · rw [if_pos h, if_neg (fun k => k (cmp3_eq.2 h))]
      exact cmpC_lt
    · rw [if_neg h, if_pos (fun k => h (cmp3_eq.1 k)), cmp3_lt, decide_eq_true_iff]
def cmpH (g h : Hp) : Int := if cmp3 g.dims h.dims ≠ 0 then cmp3 g.dims h.dims else cmpC g.cs h.cs
theorem cmpH_lt {g h : Hp} : cmpH g h < 0 ↔ lessHp g h = true := by
  unfold cmpH lessHp
  by_cases e : g.dims = h.dims
  · rw [if_pos e, if_neg (fun k => k (cmp3_eq.2 e))]
    exact cmpC_lt
  · rw [if_neg e, if_pos (fun k => e (cmp3_eq.1 k)), cmp3_lt, decide_eq_true_iff]

theorem g_cmpC {l m : List Cell} {t o t' o' : Nat} {M : Mem} (hg : Tri M t o l) (hh : Tri M t' o' m) (hn : l.length ≤ 1000000) (hn' : m.length ≤ 1000000) :
    CallsTo PG F.slices_CompareFunc_SA3int_SA3int_A3int_A3int [.ref t o l.length, .ref t' o' m.length, .clo F.impl_compareCells []] M (.I (cmpC l m)) M := by
  refine calls_run K.slices_CompareFunc_SA3int_SA3int_A3int_A3int rfl ?_
  simp (disch := omega) only [C.slices_CompareFunc_SA3int_SA3int_A3int_A3int, ↓SXd, SXu, slBounds, ↓sop, ↓aop, ↓reduceIte, LV.cells, AOp.dst, LV.I, LV.B, LV.U, LV.S, LV.nil, Nat.reduceEqDiff, Nat.reduceAdd, Nat.reduceMul, Nat.reduceSub, Nat.reduceLeDiff, Nat.reduceBEq, Nat.reduceDiv, Nat.reduceMod, Int.reduceToNat, Int.reduceLT, Int.reduceLE, Int.reduceAdd, Int.reduceSub, Int.reduceMul, Int.reduceEq, Int.reduceNeg, reduceCtorEq, resV, resAll, ARes.ev, LV.flat, ite_true, ite_false, exists_eq_left', exists_eq_left, keyOf, implies_true, fillC, capOf]
  refine ev_loop (fun n fr M' => ∃ k : Nat, k + n = l.length ∧ k ≤ m.length ∧ Pre M M' ∧ cmpC (l.drop k) (m.drop k) = cmpC l m ∧ fr 0 = .ref t o l.length ∧ fr 1 = .ref t' o' m.length ∧ fr 2 = .clo F.impl_compareCells [] ∧ fr 11 = .ref t o l.length ∧ fr 12 = .I l.length ∧ fr 13 = .I k) l.length
    ⟨0, by omega, by omega, Pre.refl _, rfl, rfl, rfl, rfl, rfl, rfl, rfl⟩ ?_
  rintro n fr M' ⟨k, hk, hkm, hpre, hcm, f0, f1, f2, f11, f12, f13⟩
  simp (disch := omega) only [f0, f1, f2, f11, f12, f13, ↓SXd, SXu, slBounds, ↓sop, ↓aop, ↓reduceIte, LV.cells, AOp.dst, LV.I, LV.B, LV.U, LV.S, LV.nil, Nat.reduceEqDiff, Nat.reduceAdd, Nat.reduceMul, Nat.reduceSub, Nat.reduceLeDiff, Nat.reduceBEq, Nat.reduceDiv, Nat.reduceMod, Int.reduceToNat, Int.reduceLT, Int.reduceLE, Int.reduceAdd, Int.reduceSub, Int.reduceMul, Int.reduceEq, Int.reduceNeg, reduceCtorEq, resV, resAll, ARes.ev, LV.flat, ite_true, ite_false, exists_eq_left', exists_eq_left, keyOf, implies_true, fillC, capOf]
  refine condC_dec (fun h1 => ?_) (fun h1 => ?_)
  · have hk1 : k < l.length := by omega
    have g1 := Tri.get (hg.pre hpre) hk1
    have ht1 := (hg.pre hpre).lt
    have ht2 := (hh.pre hpre).lt
    by_cases h2 : (m.length : Int) ≤ k
    · simp (disch := omega) only [f0, f1, f2, f11, f12, f13, g1, h2, Cell.row, splice, ↓SXd, SXu, slBounds, ↓sop, ↓aop, ↓reduceIte, LV.cells, AOp.dst, LV.I, LV.B, LV.U, LV.S, LV.nil, Nat.reduceEqDiff, Nat.reduceAdd, Nat.reduceMul, Nat.reduceSub, Nat.reduceLeDiff, Nat.reduceBEq, Nat.reduceDiv, Nat.reduceMod, Int.reduceToNat, Int.reduceLT, Int.reduceLE, Int.reduceAdd, Int.reduceSub, Int.reduceMul, Int.reduceEq, Int.reduceNeg, reduceCtorEq, resV, resAll, ARes.ev, LV.flat, ite_true, ite_false, exists_eq_left', exists_eq_left, keyOf, implies_true, fillC, capOf]
      have hk2 : k = m.length := by omega
      have : cmpC (l.drop k) (m.drop k) = 1 := by
        rw [show m.drop k = [] from List.drop_eq_nil_of_le (by omega), List.drop_eq_getElem_cons hk1]; rfl
      rw [← hcm, this]
      exact cmp_pre (hpre.trans (Pre.app _ _)) rfl
    · have hk2 : k < m.length := by omega
      have g2 := Tri.get (hh.pre hpre) hk2
      rw [List.drop_eq_getElem_cons hk1, List.drop_eq_getElem_cons hk2] at hcm
      have e1 : l.getD k default = l[k] := by simp [hk1]
      have e2 : m.getD k default = m[k] := by simp [hk2]
      rw [← e1, ← e2] at hcm
      generalize l.getD k default = c at g1 hcm
      generalize m.getD k default = d at g2 hcm
      simp (disch := omega) only [f0, f1, f2, f11, f12, f13, g1, h2, Cell.row, splice, (getCells_app ht2), g2, List.map_nil, List.append_nil, ↓SXd, SXu, slBounds, ↓sop, ↓aop, ↓reduceIte, LV.cells, AOp.dst, LV.I, LV.B, LV.U, LV.S, LV.nil, Nat.reduceEqDiff, Nat.reduceAdd, Nat.reduceMul, Nat.reduceSub, Nat.reduceLeDiff, Nat.reduceBEq, Nat.reduceDiv, Nat.reduceMod, Int.reduceToNat, Int.reduceLT, Int.reduceLE, Int.reduceAdd, Int.reduceSub, Int.reduceMul, Int.reduceEq, Int.reduceNeg, reduceCtorEq, resV, resAll, ARes.ev, LV.flat, ite_true, ite_false, exists_eq_left', exists_eq_left, keyOf, implies_true, fillC, capOf]
      refine callK_of (g_compareCells) ?_
      simp (disch := omega) only [f0, f1, f2, f11, f12, f13, ↓SXd, SXu, slBounds, ↓sop, ↓aop, ↓reduceIte, LV.cells, AOp.dst, LV.I, LV.B, LV.U, LV.S, LV.nil, Nat.reduceEqDiff, Nat.reduceAdd, Nat.reduceMul, Nat.reduceSub, Nat.reduceLeDiff, Nat.reduceBEq, Nat.reduceDiv, Nat.reduceMod, Int.reduceToNat, Int.reduceLT, Int.reduceLE, Int.reduceAdd, Int.reduceSub, Int.reduceMul, Int.reduceEq, Int.reduceNeg, reduceCtorEq, resV, resAll, ARes.ev, LV.flat, ite_true, ite_false, exists_eq_left', exists_eq_left, keyOf, implies_true, fillC, capOf]
      rw [show cmpL [c.a, c.b, c.c] [d.a, d.b, d.c] = cmp3 c d from rfl]
      simp only [cmpC] at hcm
      by_cases hz : cmp3 c d = 0
      · rw [if_neg (fun h => h hz)] at hcm
        simp (disch := omega) only [f0, f1, f2, f11, f12, f13, hz, ↓SXd, SXu, slBounds, ↓sop, ↓aop, ↓reduceIte, LV.cells, AOp.dst, LV.I, LV.B, LV.U, LV.S, LV.nil, Nat.reduceEqDiff, Nat.reduceAdd, Nat.reduceMul, Nat.reduceSub, Nat.reduceLeDiff, Nat.reduceBEq, Nat.reduceDiv, Nat.reduceMod, Int.reduceToNat, Int.reduceLT, Int.reduceLE, Int.reduceAdd, Int.reduceSub, Int.reduceMul, Int.reduceEq, Int.reduceNeg, reduceCtorEq, resV, resAll, ARes.ev, LV.flat, ite_true, ite_false, exists_eq_left', exists_eq_left, keyOf, implies_true, fillC, capOf]
        exact ⟨n - 1, by omega, k + 1, by omega, by omega, hpre.trans (Pre.app _ _), hcm, f0, f1, f2, f11, f12, eqI (natI _)⟩
      · rw [if_pos hz] at hcm
        simp (disch := omega) only [f0, f1, f2, f11, f12, f13, hz, ↓SXd, SXu, slBounds, ↓sop, ↓aop, ↓reduceIte, LV.cells, AOp.dst, LV.I, LV.B, LV.U, LV.S, LV.nil, Nat.reduceEqDiff, Nat.reduceAdd, Nat.reduceMul, Nat.reduceSub, Nat.reduceLeDiff, Nat.reduceBEq, Nat.reduceDiv, Nat.reduceMod, Int.reduceToNat, Int.reduceLT, Int.reduceLE, Int.reduceAdd, Int.reduceSub, Int.reduceMul, Int.reduceEq, Int.reduceNeg, reduceCtorEq, resV, resAll, ARes.ev, LV.flat, ite_true, ite_false, exists_eq_left', exists_eq_left, keyOf, implies_true, fillC, capOf]
        rw [← hcm]
        exact cmp_pre (hpre.trans (Pre.app _ _)) rfl
  · have hkl : k = l.length := by omega
    by_cases h2 : (l.length : Int) < m.length
    · simp (disch := omega) only [f0, f1, f2, f11, f12, f13, h2, ↓SXd, SXu, slBounds, ↓sop, ↓aop, ↓reduceIte, LV.cells, AOp.dst, LV.I, LV.B, LV.U, LV.S, LV.nil, Nat.reduceEqDiff, Nat.reduceAdd, Nat.reduceMul, Nat.reduceSub, Nat.reduceLeDiff, Nat.reduceBEq, Nat.reduceDiv, Nat.reduceMod, Int.reduceToNat, Int.reduceLT, Int.reduceLE, Int.reduceAdd, Int.reduceSub, Int.reduceMul, Int.reduceEq, Int.reduceNeg, reduceCtorEq, resV, resAll, ARes.ev, LV.flat, ite_true, ite_false, exists_eq_left', exists_eq_left, keyOf, implies_true, fillC, capOf]
      have : cmpC (l.drop k) (m.drop k) = -1 := by
        rw [show l.drop k = [] from List.drop_eq_nil_of_le (by omega), List.drop_eq_getElem_cons (show k < m.length by omega)]; rfl
      rw [← hcm, this]
      exact cmp_pre hpre rfl
    · simp (disch := omega) only [f0, f1, f2, f11, f12, f13, h2, ↓SXd, SXu, slBounds, ↓sop, ↓aop, ↓reduceIte, LV.cells, AOp.dst, LV.I, LV.B, LV.U, LV.S, LV.nil, Nat.reduceEqDiff, Nat.reduceAdd, Nat.reduceMul, Nat.reduceSub, Nat.reduceLeDiff, Nat.reduceBEq, Nat.reduceDiv, Nat.reduceMod, Int.reduceToNat, Int.reduceLT, Int.reduceLE, Int.reduceAdd, Int.reduceSub, Int.reduceMul, Int.reduceEq, Int.reduceNeg, reduceCtorEq, resV, resAll, ARes.ev, LV.flat, ite_true, ite_false, exists_eq_left', exists_eq_left, keyOf, implies_true, fillC, capOf]
      have : cmpC (l.drop k) (m.drop k) = 0 := by
        rw [show l.drop k = [] from List.drop_eq_nil_of_le (by omega), show m.drop k = [] from List.drop_eq_nil_of_le (by omega)]; rfl
      rw [← hcm, this]
      exact cmp_pre hpre rfl

theorem g_compareHeaps {g h : Hp} {t o t' o' : Nat} {M : Mem} (hg : Tri M t o g.cs) (hh : Tri M t' o' h.cs) (hn : g.cs.length ≤ 1000000) (hn' : h.cs.length ≤ 1000000) :
    CallsTo PG F.impl_compareHeaps [.agg [.I g.x, .I g.y, .I g.z, .ref t o g.cs.length], .agg [.I h.x, .I h.y, .I h.z, .ref t' o' h.cs.length]] M (.I (cmpH g h)) M := by
  have ht := hg.lt
  have ht' := hh.lt
  refine calls_run K.impl_compareHeaps rfl ?_
  simp (disch := omega) only [C.impl_compareHeaps, ↓SXd, SXu, slBounds, ↓sop, ↓aop, ↓reduceIte, LV.cells, AOp.dst, LV.I, LV.B, LV.U, LV.S, LV.nil, Nat.reduceEqDiff, Nat.reduceAdd, Nat.reduceMul, Nat.reduceSub, Nat.reduceLeDiff, Nat.reduceBEq, Nat.reduceDiv, Nat.reduceMod, Int.reduceToNat, Int.reduceLT, Int.reduceLE, Int.reduceAdd, Int.reduceSub, Int.reduceMul, Int.reduceEq, Int.reduceNeg, reduceCtorEq, resV, resAll, ARes.ev, LV.flat, ite_true, ite_false, exists_eq_left', exists_eq_left, keyOf, implies_true, fillC, capOf]
  refine callK_of (g_box) ?_
  simp (disch := omega) only [↓SXd, SXu, slBounds, ↓sop, ↓aop, ↓reduceIte, LV.cells, AOp.dst, LV.I, LV.B, LV.U, LV.S, LV.nil, Nat.reduceEqDiff, Nat.reduceAdd, Nat.reduceMul, Nat.reduceSub, Nat.reduceLeDiff, Nat.reduceBEq, Nat.reduceDiv, Nat.reduceMod, Int.reduceToNat, Int.reduceLT, Int.reduceLE, Int.reduceAdd, Int.reduceSub, Int.reduceMul, Int.reduceEq, Int.reduceNeg, reduceCtorEq, resV, resAll, ARes.ev, LV.flat, ite_true, ite_false, exists_eq_left', exists_eq_left, keyOf, implies_true, fillC, capOf]
  refine callK_of (g_box) ?_
  simp (disch := omega) only [splice, slBounds, Option.isSome_some, and_self, if_true, ↓SXd, SXu, slBounds, ↓sop, ↓aop, ↓reduceIte, LV.cells, AOp.dst, LV.I, LV.B, LV.U, LV.S, LV.nil, Nat.reduceEqDiff, Nat.reduceAdd, Nat.reduceMul, Nat.reduceSub, Nat.reduceLeDiff, Nat.reduceBEq, Nat.reduceDiv, Nat.reduceMod, Int.reduceToNat, Int.reduceLT, Int.reduceLE, Int.reduceAdd, Int.reduceSub, Int.reduceMul, Int.reduceEq, Int.reduceNeg, reduceCtorEq, resV, resAll, ARes.ev, LV.flat, ite_true, ite_false, exists_eq_left', exists_eq_left, keyOf, implies_true, fillC, capOf]
  refine callK_of (g_compare (xs := [g.x, g.y, g.z]) (ys := [h.x, h.y, h.z]) (o := 0) (o' := 0) (Live.newj (j := 2) (b := .row (intL [g.x, g.y, g.z]) true 0) rfl).has (Live.newj (j := 3) (b := .row (intL [h.x, h.y, h.z]) true 0) rfl).has (by simp) (by simp)) ?_
  rw [show cmpL [g.x, g.y, g.z] [h.x, h.y, h.z] = cmp3 g.dims h.dims from rfl]
  unfold cmpH
  by_cases hz : cmp3 g.dims h.dims = 0
  · rw [if_neg (fun k => k hz)]
    simp (disch := omega) only [hz, ↓SXd, SXu, slBounds, ↓sop, ↓aop, ↓reduceIte, LV.cells, AOp.dst, LV.I, LV.B, LV.U, LV.S, LV.nil, Nat.reduceEqDiff, Nat.reduceAdd, Nat.reduceMul, Nat.reduceSub, Nat.reduceLeDiff, Nat.reduceBEq, Nat.reduceDiv, Nat.reduceMod, Int.reduceToNat, Int.reduceLT, Int.reduceLE, Int.reduceAdd, Int.reduceSub, Int.reduceMul, Int.reduceEq, Int.reduceNeg, reduceCtorEq, resV, resAll, ARes.ev, LV.flat, ite_true, ite_false, exists_eq_left', exists_eq_left, keyOf, implies_true, fillC, capOf]
    refine callK_of (g_cmpC hg.app hh.app hn hn') ?_
    simp (disch := omega) only [↓SXd, SXu, slBounds, ↓sop, ↓aop, ↓reduceIte, LV.cells, AOp.dst, LV.I, LV.B, LV.U, LV.S, LV.nil, Nat.reduceEqDiff, Nat.reduceAdd, Nat.reduceMul, Nat.reduceSub, Nat.reduceLeDiff, Nat.reduceBEq, Nat.reduceDiv, Nat.reduceMod, Int.reduceToNat, Int.reduceLT, Int.reduceLE, Int.reduceAdd, Int.reduceSub, Int.reduceMul, Int.reduceEq, Int.reduceNeg, reduceCtorEq, resV, resAll, ARes.ev, LV.flat, ite_true, ite_false, exists_eq_left', exists_eq_left, keyOf, implies_true, fillC, capOf]
    exact cmp_drop rfl
  · rw [if_pos hz]
    simp (disch := omega) only [hz, ↓SXd, SXu, slBounds, ↓sop, ↓aop, ↓reduceIte, LV.cells, AOp.dst, LV.I, LV.B, LV.U, LV.S, LV.nil, Nat.reduceEqDiff, Nat.reduceAdd, Nat.reduceMul, Nat.reduceSub, Nat.reduceLeDiff, Nat.reduceBEq, Nat.reduceDiv, Nat.reduceMod, Int.reduceToNat, Int.reduceLT, Int.reduceLE, Int.reduceAdd, Int.reduceSub, Int.reduceMul, Int.reduceEq, Int.reduceNeg, reduceCtorEq, resV, resAll, ARes.ev, LV.flat, ite_true, ite_false, exists_eq_left', exists_eq_left, keyOf, implies_true, fillC, capOf]
    exact cmp_drop rfl

theorem g_equalC {l m : List Cell} {t o t' o' : Nat} {M : Mem} (hg : Tri M t o l) (hh : Tri M t' o' m) (hn : l.length ≤ 1000000) (hn' : m.length ≤ 1000000) :
    CallsTo PG F.slices_Equal_SA3int_A3int [.ref t o l.length, .ref t' o' m.length] M (.B (decide (l = m))) M := by
  refine calls_run K.slices_Equal_SA3int_A3int rfl ?_
  simp (disch := omega) only [C.slices_Equal_SA3int_A3int, ↓SXd, SXu, slBounds, ↓sop, ↓aop, ↓reduceIte, LV.cells, AOp.dst, LV.I, LV.B, LV.U, LV.S, LV.nil, Nat.reduceEqDiff, Nat.reduceAdd, Nat.reduceMul, Nat.reduceSub, Nat.reduceLeDiff, Nat.reduceBEq, Nat.reduceDiv, Nat.reduceMod, Int.reduceToNat, Int.reduceLT, Int.reduceLE, Int.reduceAdd, Int.reduceSub, Int.reduceMul, Int.reduceEq, Int.reduceNeg, reduceCtorEq, resV, resAll, ARes.ev, LV.flat, ite_true, ite_false, exists_eq_left', exists_eq_left, keyOf, implies_true, fillC, capOf]
  by_cases hl : (l.length : Int) = m.length
  · simp (disch := omega) only [hl, ↓SXd, SXu, slBounds, ↓sop, ↓aop, ↓reduceIte, LV.cells, AOp.dst, LV.I, LV.B, LV.U, LV.S, LV.nil, Nat.reduceEqDiff, Nat.reduceAdd, Nat.reduceMul, Nat.reduceSub, Nat.reduceLeDiff, Nat.reduceBEq, Nat.reduceDiv, Nat.reduceMod, Int.reduceToNat, Int.reduceLT, Int.reduceLE, Int.reduceAdd, Int.reduceSub, Int.reduceMul, Int.reduceEq, Int.reduceNeg, reduceCtorEq, resV, resAll, ARes.ev, LV.flat, ite_true, ite_false, exists_eq_left', exists_eq_left, keyOf, implies_true, fillC, capOf]
    have hl' : l.length = m.length := by omega
    refine ev_loop (fun n fr M' => ∃ k : Nat, k + n = l.length ∧ M' = M ∧ (∀ j, j < k → l.getD j default = m.getD j default) ∧ fr 0 = .ref t o l.length ∧ fr 1 = .ref t' o' m.length ∧ fr 12 = .I l.length ∧ fr 13 = .I k) l.length
      ⟨0, by omega, rfl, by omega, rfl, rfl, by rw [hl']; rfl, rfl⟩ ?_
    rintro n fr M' ⟨k, hk, rfl, hj, f0, f1, f12, f13⟩
    simp (disch := omega) only [f0, f1, f12, f13, ↓SXd, SXu, slBounds, ↓sop, ↓aop, ↓reduceIte, LV.cells, AOp.dst, LV.I, LV.B, LV.U, LV.S, LV.nil, Nat.reduceEqDiff, Nat.reduceAdd, Nat.reduceMul, Nat.reduceSub, Nat.reduceLeDiff, Nat.reduceBEq, Nat.reduceDiv, Nat.reduceMod, Int.reduceToNat, Int.reduceLT, Int.reduceLE, Int.reduceAdd, Int.reduceSub, Int.reduceMul, Int.reduceEq, Int.reduceNeg, reduceCtorEq, resV, resAll, ARes.ev, LV.flat, ite_true, ite_false, exists_eq_left', exists_eq_left, keyOf, implies_true, fillC, capOf]
    refine condC_dec (fun h1 => ?_) (fun h1 => ?_)
    · have hk1 : k < l.length := by omega
      have g1 := Tri.get hg hk1
      have g2 := Tri.get hh (show k < m.length by omega)
      simp (disch := omega) only [f0, f1, f12, f13, g1, g2, Cell.row, eqV, eqC, if_true, ite_true, Bool.and_true, ↓SXd, SXu, slBounds, ↓sop, ↓aop, ↓reduceIte, LV.cells, AOp.dst, LV.I, LV.B, LV.U, LV.S, LV.nil, Nat.reduceEqDiff, Nat.reduceAdd, Nat.reduceMul, Nat.reduceSub, Nat.reduceLeDiff, Nat.reduceBEq, Nat.reduceDiv, Nat.reduceMod, Int.reduceToNat, Int.reduceLT, Int.reduceLE, Int.reduceAdd, Int.reduceSub, Int.reduceMul, Int.reduceEq, Int.reduceNeg, reduceCtorEq, resV, resAll, ARes.ev, LV.flat, ite_true, ite_false, exists_eq_left', exists_eq_left, keyOf, implies_true, fillC, capOf]
      rw [beq3]
      by_cases he : l.getD k default = m.getD k default
      · simp (disch := omega) only [f0, f1, f12, f13, he, ↓SXd, SXu, slBounds, ↓sop, ↓aop, ↓reduceIte, LV.cells, AOp.dst, LV.I, LV.B, LV.U, LV.S, LV.nil, Nat.reduceEqDiff, Nat.reduceAdd, Nat.reduceMul, Nat.reduceSub, Nat.reduceLeDiff, Nat.reduceBEq, Nat.reduceDiv, Nat.reduceMod, Int.reduceToNat, Int.reduceLT, Int.reduceLE, Int.reduceAdd, Int.reduceSub, Int.reduceMul, Int.reduceEq, Int.reduceNeg, reduceCtorEq, resV, resAll, ARes.ev, LV.flat, ite_true, ite_false, exists_eq_left', exists_eq_left, keyOf, implies_true, fillC, capOf]
        exact ⟨n - 1, by omega, k + 1, by omega, rfl, fun j hj' => by
          rcases Nat.lt_or_ge j k with h2 | h2
          · exact hj j h2
          · rw [show j = k by omega]; exact he, f0, f1, f12, eqI (natI _)⟩
      · simp (disch := omega) only [f0, f1, f12, f13, he, ↓SXd, SXu, slBounds, ↓sop, ↓aop, ↓reduceIte, LV.cells, AOp.dst, LV.I, LV.B, LV.U, LV.S, LV.nil, Nat.reduceEqDiff, Nat.reduceAdd, Nat.reduceMul, Nat.reduceSub, Nat.reduceLeDiff, Nat.reduceBEq, Nat.reduceDiv, Nat.reduceMod, Int.reduceToNat, Int.reduceLT, Int.reduceLE, Int.reduceAdd, Int.reduceSub, Int.reduceMul, Int.reduceEq, Int.reduceNeg, reduceCtorEq, resV, resAll, ARes.ev, LV.flat, ite_true, ite_false, exists_eq_left', exists_eq_left, keyOf, implies_true, fillC, capOf]
        rw [decide_eq_false (fun e => he (by rw [e]))]
        exact cmp_drop0 rfl
    · simp (disch := omega) only [f0, f1, f12, f13, ↓SXd, SXu, slBounds, ↓sop, ↓aop, ↓reduceIte, LV.cells, AOp.dst, LV.I, LV.B, LV.U, LV.S, LV.nil, Nat.reduceEqDiff, Nat.reduceAdd, Nat.reduceMul, Nat.reduceSub, Nat.reduceLeDiff, Nat.reduceBEq, Nat.reduceDiv, Nat.reduceMod, Int.reduceToNat, Int.reduceLT, Int.reduceLE, Int.reduceAdd, Int.reduceSub, Int.reduceMul, Int.reduceEq, Int.reduceNeg, reduceCtorEq, resV, resAll, ARes.ev, LV.flat, ite_true, ite_false, exists_eq_left', exists_eq_left, keyOf, implies_true, fillC, capOf]
      rw [decide_eq_true (by
        apply List.ext_getElem hl'
        intro i h2 h3
        have := hj i (by omega)
        simpa [h2, h3] using this)]
      exact cmp_drop0 rfl
  · simp (disch := omega) only [hl, ↓SXd, SXu, slBounds, ↓sop, ↓aop, ↓reduceIte, LV.cells, AOp.dst, LV.I, LV.B, LV.U, LV.S, LV.nil, Nat.reduceEqDiff, Nat.reduceAdd, Nat.reduceMul, Nat.reduceSub, Nat.reduceLeDiff, Nat.reduceBEq, Nat.reduceDiv, Nat.reduceMod, Int.reduceToNat, Int.reduceLT, Int.reduceLE, Int.reduceAdd, Int.reduceSub, Int.reduceMul, Int.reduceEq, Int.reduceNeg, reduceCtorEq, resV, resAll, ARes.ev, LV.flat, ite_true, ite_false, exists_eq_left', exists_eq_left, keyOf, implies_true, fillC, capOf]
    rw [decide_eq_false (fun e => hl (by rw [e]))]
    exact cmp_drop0 rfl

theorem g_same {g h : Hp} {t o t' o' : Nat} {M : Mem} (hg : Tri M t o g.cs) (hh : Tri M t' o' h.cs) (hn : g.cs.length ≤ 1000000) (hn' : h.cs.length ≤ 1000000) :
    CallsTo PG F.impl_Heap_same [.agg [.I g.x, .I g.y, .I g.z, .ref t o g.cs.length], .agg [.I h.x, .I h.y, .I h.z, .ref t' o' h.cs.length]] M (.B (decide (g.dims = h.dims ∧ g.cs = h.cs))) M := by
  refine calls_run K.impl_Heap_same rfl ?_
  simp (disch := omega) only [C.impl_Heap_same, ↓SXd, SXu, slBounds, ↓sop, ↓aop, ↓reduceIte, LV.cells, AOp.dst, LV.I, LV.B, LV.U, LV.S, LV.nil, Nat.reduceEqDiff, Nat.reduceAdd, Nat.reduceMul, Nat.reduceSub, Nat.reduceLeDiff, Nat.reduceBEq, Nat.reduceDiv, Nat.reduceMod, Int.reduceToNat, Int.reduceLT, Int.reduceLE, Int.reduceAdd, Int.reduceSub, Int.reduceMul, Int.reduceEq, Int.reduceNeg, reduceCtorEq, resV, resAll, ARes.ev, LV.flat, ite_true, ite_false, exists_eq_left', exists_eq_left, keyOf, implies_true, fillC, capOf]
  refine callK_of (g_box) ?_
  simp (disch := omega) only [↓SXd, SXu, slBounds, ↓sop, ↓aop, ↓reduceIte, LV.cells, AOp.dst, LV.I, LV.B, LV.U, LV.S, LV.nil, Nat.reduceEqDiff, Nat.reduceAdd, Nat.reduceMul, Nat.reduceSub, Nat.reduceLeDiff, Nat.reduceBEq, Nat.reduceDiv, Nat.reduceMod, Int.reduceToNat, Int.reduceLT, Int.reduceLE, Int.reduceAdd, Int.reduceSub, Int.reduceMul, Int.reduceEq, Int.reduceNeg, reduceCtorEq, resV, resAll, ARes.ev, LV.flat, ite_true, ite_false, exists_eq_left', exists_eq_left, keyOf, implies_true, fillC, capOf]
  refine callK_of (g_box) ?_
  simp (disch := omega) only [eqV, eqC, if_true, ite_true, Bool.and_true, ↓SXd, SXu, slBounds, ↓sop, ↓aop, ↓reduceIte, LV.cells, AOp.dst, LV.I, LV.B, LV.U, LV.S, LV.nil, Nat.reduceEqDiff, Nat.reduceAdd, Nat.reduceMul, Nat.reduceSub, Nat.reduceLeDiff, Nat.reduceBEq, Nat.reduceDiv, Nat.reduceMod, Int.reduceToNat, Int.reduceLT, Int.reduceLE, Int.reduceAdd, Int.reduceSub, Int.reduceMul, Int.reduceEq, Int.reduceNeg, reduceCtorEq, resV, resAll, ARes.ev, LV.flat, ite_true, ite_false, exists_eq_left', exists_eq_left, keyOf, implies_true, fillC, capOf]
  rw [show (g.x == h.x && (g.y == h.y && g.z == h.z)) = decide (g.dims = h.dims) from beq3 (a := g.dims) (b := h.dims)]
  by_cases hd : g.dims = h.dims
  · simp (disch := omega) only [hd, ↓SXd, SXu, slBounds, ↓sop, ↓aop, ↓reduceIte, LV.cells, AOp.dst, LV.I, LV.B, LV.U, LV.S, LV.nil, Nat.reduceEqDiff, Nat.reduceAdd, Nat.reduceMul, Nat.reduceSub, Nat.reduceLeDiff, Nat.reduceBEq, Nat.reduceDiv, Nat.reduceMod, Int.reduceToNat, Int.reduceLT, Int.reduceLE, Int.reduceAdd, Int.reduceSub, Int.reduceMul, Int.reduceEq, Int.reduceNeg, reduceCtorEq, resV, resAll, ARes.ev, LV.flat, ite_true, ite_false, exists_eq_left', exists_eq_left, keyOf, implies_true, fillC, capOf]
    refine callK_of (g_equalC hg.app hh.app hn hn') ?_
    simp (disch := omega) only [true_and, ↓SXd, SXu, slBounds, ↓sop, ↓aop, ↓reduceIte, LV.cells, AOp.dst, LV.I, LV.B, LV.U, LV.S, LV.nil, Nat.reduceEqDiff, Nat.reduceAdd, Nat.reduceMul, Nat.reduceSub, Nat.reduceLeDiff, Nat.reduceBEq, Nat.reduceDiv, Nat.reduceMod, Int.reduceToNat, Int.reduceLT, Int.reduceLE, Int.reduceAdd, Int.reduceSub, Int.reduceMul, Int.reduceEq, Int.reduceNeg, reduceCtorEq, resV, resAll, ARes.ev, LV.flat, ite_true, ite_false, exists_eq_left', exists_eq_left, keyOf, implies_true, fillC, capOf]
    exact cmp_drop rfl
  · simp (disch := omega) only [hd, false_and, ↓SXd, SXu, slBounds, ↓sop, ↓aop, ↓reduceIte, LV.cells, AOp.dst, LV.I, LV.B, LV.U, LV.S, LV.nil, Nat.reduceEqDiff, Nat.reduceAdd, Nat.reduceMul, Nat.reduceSub, Nat.reduceLeDiff, Nat.reduceBEq, Nat.reduceDiv, Nat.reduceMod, Int.reduceToNat, Int.reduceLT, Int.reduceLE, Int.reduceAdd, Int.reduceSub, Int.reduceMul, Int.reduceEq, Int.reduceNeg, reduceCtorEq, resV, resAll, ARes.ev, LV.flat, ite_true, ite_false, exists_eq_left', exists_eq_left, keyOf, implies_true, fillC, capOf]
    exact cmp_drop rfl
theorem same_iff {g h : Hp} : decide (g.dims = h.dims ∧ g.cs = h.cs) = (!lessHp g h && !lessHp h g) := by
  rw [Bool.eq_iff_iff, sameHp, decide_eq_true_iff]
  obtain ⟨a, b, c, l⟩ := g
  obtain ⟨a', b', c', l'⟩ := h
  simp only [Hp.dims, Cell.mk.injEq, Hp.mk.injEq, and_assoc]
end Go.Ab
