/- Parts of the proof of FnExactFirstAlikeSaid: Ch C_Ji K_Ji C_Jh K_Jh Jh C_Hk K_Hk C_Tq K_Tq Tq C_Tz K_Tz Tz Hk Ji Cj LFirstAlike. -/
import Derived.Test.YtggnfklcgopflaaA9
import Derived.Test.YtggnfklcgopflaaA4
import Derived.Test.YtggnfklcgopflaaA5
import Derived.Test.YtggnfklcgopflaaA3
import Derived.Test.YtggnfklcgopflaaProg
import Derived.KernelRfl
import Derived.Test.YtggnfklcgopflaaA8
import Derived.Test.YtggnfklcgopflaaA6
import Derived.Test.YtggnfklcgopflaaA7
set_option linter.all false
/- The heap whose layers are the first tables: the reference's contract. -/
namespace Go.Ab
open Go
set_option linter.unusedSimpArgs false
set_option linter.unusedVariables false
set_option maxRecDepth 20000

noncomputable def alikeOf (x y z : Int) (cs : List Cell) (a b : Int) : Option Hp := if TwoOK x y z cs a b then some ⟨x, y, z, alikeCs x y z cs a b⟩ else none
theorem alikeOf_len {x y z a b : Int} {cs : List Cell} : ((alikeOf x y z cs a b).getD Hp.none).cs.length ≤ 1000000000 := by
  unfold alikeOf
  split
  · rename_i h
    have := pick_len h.1.1 (alikeB x y z (3 - a - b).toNat cs)
    show (alikeCs x y z cs a b).length ≤ _
    unfold alikeCs
    omega
  · simp [Hp.none]
theorem h_sFirstAlike {x y z a b : Int} {t : Nat} {w : Bool} {cs : List Cell} {M : Mem} (h : Live M t (.row (triL cs) w 3)) (hn : cs.length ≤ 1000000000) :
    CallsR PG F.spec_FirstAlike [.agg [.I x, .I y, .I z, .ref t 0 cs.length], .I a, .I b] M (HeapRes M (alikeOf x y z cs a b) []) := by
  have hTri : Tri M t 0 cs := h.has
  refine callsR_run K.spec_FirstAlike rfl ?_
  simp (disch := omega) only [C.spec_FirstAlike, ↓SXd, SXu, slBounds, ↓sop, ↓aop, ↓reduceIte, LV.cells, AOp.dst, LV.I, LV.B, LV.U, LV.S, LV.nil, Nat.reduceEqDiff, Nat.reduceAdd, Nat.reduceMul, Nat.reduceSub, Nat.reduceLeDiff, Nat.reduceBEq, Nat.reduceDiv, Nat.reduceMod, Int.reduceToNat, Int.reduceLT, Int.reduceLE, Int.reduceAdd, Int.reduceSub, Int.reduceMul, Int.reduceEq, Int.reduceNeg, reduceCtorEq, resV, resAll, ARes.ev, LV.flat, ite_true, ite_false, exists_eq_left', exists_eq_left, keyOf, implies_true, fillC, capOf]
  refine callK_of (h_l4Two (Has.app h.has) hn) ?_
  simp (disch := omega) only [↓SXd, SXu, slBounds, ↓sop, ↓aop, ↓reduceIte, LV.cells, AOp.dst, LV.I, LV.B, LV.U, LV.S, LV.nil, Nat.reduceEqDiff, Nat.reduceAdd, Nat.reduceMul, Nat.reduceSub, Nat.reduceLeDiff, Nat.reduceBEq, Nat.reduceDiv, Nat.reduceMod, Int.reduceToNat, Int.reduceLT, Int.reduceLE, Int.reduceAdd, Int.reduceSub, Int.reduceMul, Int.reduceEq, Int.reduceNeg, reduceCtorEq, resV, resAll, ARes.ev, LV.flat, ite_true, ite_false, exists_eq_left', exists_eq_left, keyOf, implies_true, fillC, capOf]
  unfold alikeOf
  by_cases hTw : TwoOK x y z cs a b
  · rw [if_pos hTw, decide_eq_true hTw]
    obtain ⟨hH, ha, hb, hab⟩ := id hTw
    have hS := hH.1
    simp (disch := omega) only [↓SXd, SXu, slBounds, ↓sop, ↓aop, ↓reduceIte, LV.cells, AOp.dst, LV.I, LV.B, LV.U, LV.S, LV.nil, Nat.reduceEqDiff, Nat.reduceAdd, Nat.reduceMul, Nat.reduceSub, Nat.reduceLeDiff, Nat.reduceBEq, Nat.reduceDiv, Nat.reduceMod, Int.reduceToNat, Int.reduceLT, Int.reduceLE, Int.reduceAdd, Int.reduceSub, Int.reduceMul, Int.reduceEq, Int.reduceNeg, reduceCtorEq, resV, resAll, ARes.ev, LV.flat, ite_true, ite_false, exists_eq_left', exists_eq_left, keyOf, implies_true, fillC, capOf]
    refine callK_of (h_l4Third ha hb) ?_
    simp (disch := omega) only [↓SXd, SXu, slBounds, ↓sop, ↓aop, ↓reduceIte, LV.cells, AOp.dst, LV.I, LV.B, LV.U, LV.S, LV.nil, Nat.reduceEqDiff, Nat.reduceAdd, Nat.reduceMul, Nat.reduceSub, Nat.reduceLeDiff, Nat.reduceBEq, Nat.reduceDiv, Nat.reduceMod, Int.reduceToNat, Int.reduceLT, Int.reduceLE, Int.reduceAdd, Int.reduceSub, Int.reduceMul, Int.reduceEq, Int.reduceNeg, reduceCtorEq, resV, resAll, ARes.ev, LV.flat, ite_true, ite_false, exists_eq_left', exists_eq_left, keyOf, implies_true, fillC, capOf]
    refine callK_of (h_l2Empty) ?_
    simp (disch := omega) only [splice, ↓SXd, SXu, slBounds, ↓sop, ↓aop, ↓reduceIte, LV.cells, AOp.dst, LV.I, LV.B, LV.U, LV.S, LV.nil, Nat.reduceEqDiff, Nat.reduceAdd, Nat.reduceMul, Nat.reduceSub, Nat.reduceLeDiff, Nat.reduceBEq, Nat.reduceDiv, Nat.reduceMod, Int.reduceToNat, Int.reduceLT, Int.reduceLE, Int.reduceAdd, Int.reduceSub, Int.reduceMul, Int.reduceEq, Int.reduceNeg, reduceCtorEq, resV, resAll, ARes.ev, LV.flat, ite_true, ite_false, exists_eq_left', exists_eq_left, keyOf, implies_true, fillC, capOf]
    obtain ⟨d, hd0⟩ : ∃ d : Nat, d = (3 - a - b).toNat := ⟨_, rfl⟩
    have hde : 3 - a - b = ((d : Nat) : Int) := by omega
    have hd : d < 3 := by omega
    have hal : alikeCs x y z cs a b = pick x y z (alikeB x y z d cs) := by unfold alikeCs; rw [hd0]
    rw [hal, hde]
    clear hal hde hd0 ha hb hab hTw
    have hda : Dir (dirA d) := by unfold dirA Dir; split <;> omega
    have hdb : Dir (dirB d) := by unfold dirB Dir; split <;> omega
    have hdd : Dir (d : Nat) := by unfold Dir; omega
    have hrA : 0 ≤ dirA d ∧ dirA d < 3 := by unfold dirA; split <;> omega
    have hrB : 0 ≤ dirB d ∧ dirB d < 3 := by unfold dirB; split <;> omega
    have sA := sideOf_in hS (dirA d)
    have sB := sideOf_in hS (dirB d)
    have sD := sideOf_in hS (d : Nat)
    refine callK_of (h_l2Others hd) ?_
    change putK _ _ _ (.tup [.I (dirA d), .I (dirB d)]) _
    have hp0 : pick x y z (fun _ => false) = [] := by simp [pick]
    simp (disch := omega) only [↓SXd, SXu, slBounds, ↓sop, ↓aop, ↓reduceIte, LV.cells, AOp.dst, LV.I, LV.B, LV.U, LV.S, LV.nil, Nat.reduceEqDiff, Nat.reduceAdd, Nat.reduceMul, Nat.reduceSub, Nat.reduceLeDiff, Nat.reduceBEq, Nat.reduceDiv, Nat.reduceMod, Int.reduceToNat, Int.reduceLT, Int.reduceLE, Int.reduceAdd, Int.reduceSub, Int.reduceMul, Int.reduceEq, Int.reduceNeg, reduceCtorEq, resV, resAll, ARes.ev, LV.flat, ite_true, ite_false, exists_eq_left', exists_eq_left, keyOf, implies_true, fillC, capOf]
    refine ev_loop (fun m fr M' => ∃ (k v : Nat) (P : Cell → Bool), k + m = (sideOf x y z (d : Nat)).toNat ∧ Pre M M' ∧ Live M' M.length (.row [.I x, .I y, .I z, .ref t 0 cs.length] true 0) ∧ Live M' (M.length + 1) (.row [.I 0, .I 0, .I 0, .nil] true 0) ∧
      Live M' (M.length + 2) (.row [.I x, .I y, .I z, .ref v 0 (pick x y z P).length] true 0) ∧ Live M' v (.row (triL (pick x y z P)) true 3) ∧ M.length ≤ v ∧ (∀ c : Cell, c.inBox x y z → (P c = true ↔ alikeB x y z d cs c = true ∧ Ahead d k 0 0 c)) ∧
      fr 3 = .ptr M.length 0 ∧ fr 6 = .ptr (M.length + 1) 0 ∧ fr 8 = .I (d : Nat) ∧ fr 9 = .ptr (M.length + 2) 0 ∧ fr 10 = .I (dirA d) ∧ fr 11 = .I (dirB d) ∧ fr 12 = .I k) (sideOf x y z (d : Nat)).toNat
      ⟨0, M.length + 3, fun _ => false, by omega, Pre.app _ _, Live.new, Live.newj rfl, by rw [hp0]; exact Live.newj rfl, by rw [hp0]; exact Live.newj rfl, by omega, fun c hc => ⟨fun e => (by cases e), fun e => absurd e.2 (ahead_zero hS hd hc)⟩, rfl, rfl, rfl, rfl, rfl, rfl, rfl⟩ ?_
    rintro m fr M' ⟨k, v, P, hk, hpre, b3, b6, b9, bv, hv, hP, f3, f6, f8, f9, f10, f11, f12⟩
    simp (disch := omega) only [f3, f6, f8, f9, f10, f11, f12, b3.cells, ↓SXd, SXu, slBounds, ↓sop, ↓aop, ↓reduceIte, LV.cells, AOp.dst, LV.I, LV.B, LV.U, LV.S, LV.nil, Nat.reduceEqDiff, Nat.reduceAdd, Nat.reduceMul, Nat.reduceSub, Nat.reduceLeDiff, Nat.reduceBEq, Nat.reduceDiv, Nat.reduceMod, Int.reduceToNat, Int.reduceLT, Int.reduceLE, Int.reduceAdd, Int.reduceSub, Int.reduceMul, Int.reduceEq, Int.reduceNeg, reduceCtorEq, resV, resAll, ARes.ev, LV.flat, ite_true, ite_false, exists_eq_left', exists_eq_left, keyOf, implies_true, fillC, capOf]
    refine callK_of (h_l2Long hdd) ?_
    simp (disch := omega) only [f3, f6, f8, f9, f10, f11, f12, ↓SXd, SXu, slBounds, ↓sop, ↓aop, ↓reduceIte, LV.cells, AOp.dst, LV.I, LV.B, LV.U, LV.S, LV.nil, Nat.reduceEqDiff, Nat.reduceAdd, Nat.reduceMul, Nat.reduceSub, Nat.reduceLeDiff, Nat.reduceBEq, Nat.reduceDiv, Nat.reduceMod, Int.reduceToNat, Int.reduceLT, Int.reduceLE, Int.reduceAdd, Int.reduceSub, Int.reduceMul, Int.reduceEq, Int.reduceNeg, reduceCtorEq, resV, resAll, ARes.ev, LV.flat, ite_true, ite_false, exists_eq_left', exists_eq_left, keyOf, implies_true, fillC, capOf]
    refine condC_dec (fun hlt => ?_) (fun hlt => ?_)
    rotate_left
    · have hks : (k : Int) = sideOf x y z (d : Nat) := by omega
      have hpe : pick x y z P = pick x y z (alikeB x y z d cs) := pick_congr hS fun c hc => by
        rw [Bool.eq_iff_iff, hP c hc, hks]
        exact ⟨fun e => e.1, fun e => ⟨e, ahead_all hS hd hc⟩⟩
      rw [hpe] at b9 bv
      simp (disch := omega) only [f3, f6, f8, f9, f10, f11, f12, b9.cells, ↓SXd, SXu, slBounds, ↓sop, ↓aop, ↓reduceIte, LV.cells, AOp.dst, LV.I, LV.B, LV.U, LV.S, LV.nil, Nat.reduceEqDiff, Nat.reduceAdd, Nat.reduceMul, Nat.reduceSub, Nat.reduceLeDiff, Nat.reduceBEq, Nat.reduceDiv, Nat.reduceMod, Int.reduceToNat, Int.reduceLT, Int.reduceLE, Int.reduceAdd, Int.reduceSub, Int.reduceMul, Int.reduceEq, Int.reduceNeg, reduceCtorEq, resV, resAll, ARes.ev, LV.flat, ite_true, ite_false, exists_eq_left', exists_eq_left, keyOf, implies_true, fillC, capOf]
      refine memK_box b6 (by simp) fun N3 k1 k2 k3 => ?_
      have hvl := bv.lt
      simp (disch := omega) only [f3, f6, f8, f9, f10, f11, f12, k2.cells, ↓SXd, SXu, slBounds, ↓sop, ↓aop, ↓reduceIte, LV.cells, AOp.dst, LV.I, LV.B, LV.U, LV.S, LV.nil, Nat.reduceEqDiff, Nat.reduceAdd, Nat.reduceMul, Nat.reduceSub, Nat.reduceLeDiff, Nat.reduceBEq, Nat.reduceDiv, Nat.reduceMod, Int.reduceToNat, Int.reduceLT, Int.reduceLE, Int.reduceAdd, Int.reduceSub, Int.reduceMul, Int.reduceEq, Int.reduceNeg, reduceCtorEq, resV, resAll, ARes.ev, LV.flat, ite_true, ite_false, exists_eq_left', exists_eq_left, keyOf, implies_true, fillC, capOf]
      exact ⟨_, rfl, SlC.of (live_step bv (bv.ne_esz b6 (by decide)) k3), Newer.of hv, pre_step hpre (by omega) (j := 0) k1 k3⟩
    have hks : 0 ≤ (k : Int) ∧ (k : Int) < sideOf x y z (d : Nat) := by omega
    simp (disch := omega) only [f3, f6, f8, f9, f10, f11, f12, b3.cells, ↓SXd, SXu, slBounds, ↓sop, ↓aop, ↓reduceIte, LV.cells, AOp.dst, LV.I, LV.B, LV.U, LV.S, LV.nil, Nat.reduceEqDiff, Nat.reduceAdd, Nat.reduceMul, Nat.reduceSub, Nat.reduceLeDiff, Nat.reduceBEq, Nat.reduceDiv, Nat.reduceMod, Int.reduceToNat, Int.reduceLT, Int.reduceLE, Int.reduceAdd, Int.reduceSub, Int.reduceMul, Int.reduceEq, Int.reduceNeg, reduceCtorEq, resV, resAll, ARes.ev, LV.flat, ite_true, ite_false, exists_eq_left', exists_eq_left, keyOf, implies_true, fillC, capOf]
    refine callR_of (h_l2Layer (hTri.pre hpre) hH hd hks) ?_
    rintro _ N1 ⟨u, rfl, hTV, hp1⟩
    change TabV N1 (.ref u 0 (layT x y z d cs k).length) (layT x y z d cs k) at hTV
    change putK _ _ _ (.ref u 0 (layT x y z d cs k).length) _
    have hLl := layT_len (x := x) (y := y) (z := z) (d := d) (cs := cs) (k := k)
    have hL01 := layT_01 (x := x) (y := y) (z := z) (d := d) (cs := cs) (k := k)
    have hF := firstF_01 (x := x) (y := y) (z := z) (d := d) (cs := cs) (k := k)
    have hFm := firstF_mem (x := x) (y := y) (z := z) (d := d) (cs := cs) (k := k)
    simp (disch := omega) only [↓SXd, SXu, slBounds, ↓sop, ↓aop, ↓reduceIte, LV.cells, AOp.dst, LV.I, LV.B, LV.U, LV.S, LV.nil, Nat.reduceEqDiff, Nat.reduceAdd, Nat.reduceMul, Nat.reduceSub, Nat.reduceLeDiff, Nat.reduceBEq, Nat.reduceDiv, Nat.reduceMod, Int.reduceToNat, Int.reduceLT, Int.reduceLE, Int.reduceAdd, Int.reduceSub, Int.reduceMul, Int.reduceEq, Int.reduceNeg, reduceCtorEq, resV, resAll, ARes.ev, LV.flat, ite_true, ite_false, exists_eq_left', exists_eq_left, keyOf, implies_true, fillC, capOf]
    refine callR_of (h_l4Sums hTV hL01 (by omega) (by omega) (by unfold layN; omega)) ?_
    rintro _ N2 ⟨ur, uc, rfl, hp2, bR, bC⟩
    have htb := h_l4Tables ((layT x y z d cs k).map litSum) (R0 := (layT x y z d cs k).map litSum) (cols := colsE (layN x y z d) (layT x y z d cs k)) (tr := ur) (o := 0) (tc := uc) (M := N2) (by rw [List.length_map]; omega) (by rw [colsE_len]; unfold layN; omega) (fun a ha => by have := colsE_bound hL01 a ha; omega) (fun r hr => by
      obtain ⟨row, h1, rfl⟩ := List.mem_map.1 hr
      have h2 := litSum_bits (hL01 row h1).2
      have h3 := (hL01 row h1).1
      unfold layN at h3
      omega) bR rfl bC.has
    rw [List.length_map, colsE_len] at htb
    simp (disch := omega) only [↓SXd, SXu, slBounds, ↓sop, ↓aop, ↓reduceIte, LV.cells, AOp.dst, LV.I, LV.B, LV.U, LV.S, LV.nil, Nat.reduceEqDiff, Nat.reduceAdd, Nat.reduceMul, Nat.reduceSub, Nat.reduceLeDiff, Nat.reduceBEq, Nat.reduceDiv, Nat.reduceMod, Int.reduceToNat, Int.reduceLT, Int.reduceLE, Int.reduceAdd, Int.reduceSub, Int.reduceMul, Int.reduceEq, Int.reduceNeg, reduceCtorEq, resV, resAll, ARes.ev, LV.flat, ite_true, ite_false, exists_eq_left', exists_eq_left, keyOf, implies_true, fillC, capOf]
    refine callR_of htb ?_
    rintro _ N3 ⟨ut, rfl, hp3, hut, hT3⟩
    have hpl := hpre.1
    have hp1l := hp1.1
    have hp2l := hp2.1
    have hp3l := hp3.1
    have hb9l := b9.lt
    have hT3' := hT3 [M.length + 2] (by simp; omega)
    change Tab3 N3 ut (tabsOf x y z d cs k) _ at hT3'
    change putK _ _ _ (.ref ut 0 (tabsOf x y z d cs k).length) _
    have h0l : 0 < (tabsOf x y z d cs k).length := List.length_pos_of_mem hFm
    obtain ⟨tt, hgt, hTt⟩ := hT3'.at h0l
    change getCell N3 ut 0 = some (.ref tt 0 (firstF x y z d cs k).length) at hgt
    change TabR N3 tt (firstF x y z d cs k) _ at hTt
    have hTt := hTt.less (av' := [M.length + 2]) (by simp)
    have hp13 : Pre M' N3 := (hp1.trans hp2).trans hp3
    have h0l' : (0 : Int) < ((tabsOf x y z d cs k).length : Nat) := by omega
    simp (disch := omega) only [f3, f6, f8, f9, f10, f11, f12, hgt, h0l', ↓SXd, SXu, slBounds, ↓sop, ↓aop, ↓reduceIte, LV.cells, AOp.dst, LV.I, LV.B, LV.U, LV.S, LV.nil, Nat.reduceEqDiff, Nat.reduceAdd, Nat.reduceMul, Nat.reduceSub, Nat.reduceLeDiff, Nat.reduceBEq, Nat.reduceDiv, Nat.reduceMod, Int.reduceToNat, Int.reduceLT, Int.reduceLE, Int.reduceAdd, Int.reduceSub, Int.reduceMul, Int.reduceEq, Int.reduceNeg, reduceCtorEq, resV, resAll, ARes.ev, LV.flat, ite_true, ite_false, exists_eq_left', exists_eq_left, keyOf, implies_true, fillC, capOf]
    have hpre3 := hpre.trans hp13
    have b3 := b3.pre hp13
    have b6 := b6.pre hp13
    have b9 := b9.pre hp13
    have bv := bv.pre hp13
    refine ev_loop (fun m2 fr M4 => ∃ (i v : Nat) (P : Cell → Bool), i + m2 = (sideOf x y z (dirA d)).toNat ∧ Pre M M4 ∧ Live M4 M.length (.row [.I x, .I y, .I z, .ref t 0 cs.length] true 0) ∧ Live M4 (M.length + 1) (.row [.I 0, .I 0, .I 0, .nil] true 0) ∧
      Live M4 (M.length + 2) (.row [.I x, .I y, .I z, .ref v 0 (pick x y z P).length] true 0) ∧ Live M4 v (.row (triL (pick x y z P)) true 3) ∧ M.length ≤ v ∧ (∀ c : Cell, c.inBox x y z → (P c = true ↔ alikeB x y z d cs c = true ∧ Ahead d k i 0 c)) ∧ TabR M4 tt (firstF x y z d cs k) [M.length + 2] ∧
      fr 3 = .ptr M.length 0 ∧ fr 6 = .ptr (M.length + 1) 0 ∧ fr 8 = .I (d : Nat) ∧ fr 9 = .ptr (M.length + 2) 0 ∧ fr 10 = .I (dirA d) ∧ fr 11 = .I (dirB d) ∧ fr 12 = .I k ∧ fr 15 = .ref tt 0 (firstF x y z d cs k).length ∧ fr 16 = .I i) (sideOf x y z (dirA d)).toNat
      ⟨0, v, P, by omega, hpre3, b3, b6, b9, bv, hv, hP, hTt, f3, f6, f8, f9, f10, f11, f12, rfl, rfl⟩ ?_
    clear f3 f6 f8 f9 f10 f11 f12 b3 b6 b9 bv hv hP hTt hgt hT3' hT3 htb bR bC hTV hp1 hp2 hp3 hp13 hpre hpre3 hb9l hpl hp1l hp2l hp3l hut hlt
    rintro m2 fr M4 ⟨i, v, P, hi, hpre, b3, b6, b9, bv, hv, hP, hTt, f3, f6, f8, f9, f10, f11, f12, f15, f16⟩
    simp (disch := omega) only [f3, f6, f8, f9, f10, f11, f12, f15, f16, ↓SXd, SXu, slBounds, ↓sop, ↓aop, ↓reduceIte, LV.cells, AOp.dst, LV.I, LV.B, LV.U, LV.S, LV.nil, Nat.reduceEqDiff, Nat.reduceAdd, Nat.reduceMul, Nat.reduceSub, Nat.reduceLeDiff, Nat.reduceBEq, Nat.reduceDiv, Nat.reduceMod, Int.reduceToNat, Int.reduceLT, Int.reduceLE, Int.reduceAdd, Int.reduceSub, Int.reduceMul, Int.reduceEq, Int.reduceNeg, reduceCtorEq, resV, resAll, ARes.ev, LV.flat, ite_true, ite_false, exists_eq_left', exists_eq_left, keyOf, implies_true, fillC, capOf]
    refine condC_dec (fun hlt => ?_) (fun hlt => ?_)
    rotate_left
    · have his : (i : Int) = sideOf x y z (dirA d) := by omega
      simp (disch := omega) only [f3, f6, f8, f9, f10, f11, f12, f15, f16, ↓SXd, SXu, slBounds, ↓sop, ↓aop, ↓reduceIte, LV.cells, AOp.dst, LV.I, LV.B, LV.U, LV.S, LV.nil, Nat.reduceEqDiff, Nat.reduceAdd, Nat.reduceMul, Nat.reduceSub, Nat.reduceLeDiff, Nat.reduceBEq, Nat.reduceDiv, Nat.reduceMod, Int.reduceToNat, Int.reduceLT, Int.reduceLE, Int.reduceAdd, Int.reduceSub, Int.reduceMul, Int.reduceEq, Int.reduceNeg, reduceCtorEq, resV, resAll, ARes.ev, LV.flat, ite_true, ite_false, exists_eq_left', exists_eq_left, keyOf, implies_true, fillC, capOf]
      refine ⟨m - 1, by omega, k + 1, v, P, by omega, hpre, b3, b6, b9, bv, hv, fun c hc => ?_, f3, f6, f8, f9, f10, f11, eqI (natI _)⟩
      rw [hP c hc, his, ahead_lay hS hd hc]
      exact Iff.rfl
    have hil : i < (firstF x y z d cs k).length := by omega
    have hrow := hF.2 _ (getD_mem' (d := []) hil)
    simp (disch := omega) only [f3, f6, f8, f9, f10, f11, f12, f15, f16, ↓SXd, SXu, slBounds, ↓sop, ↓aop, ↓reduceIte, LV.cells, AOp.dst, LV.I, LV.B, LV.U, LV.S, LV.nil, Nat.reduceEqDiff, Nat.reduceAdd, Nat.reduceMul, Nat.reduceSub, Nat.reduceLeDiff, Nat.reduceBEq, Nat.reduceDiv, Nat.reduceMod, Int.reduceToNat, Int.reduceLT, Int.reduceLE, Int.reduceAdd, Int.reduceSub, Int.reduceMul, Int.reduceEq, Int.reduceNeg, reduceCtorEq, resV, resAll, ARes.ev, LV.flat, ite_true, ite_false, exists_eq_left', exists_eq_left, keyOf, implies_true, fillC, capOf]
    refine ev_loop (fun m3 fr M5 => ∃ (j v : Nat) (P : Cell → Bool), j + m3 = (sideOf x y z (dirB d)).toNat ∧ Pre M M5 ∧ Live M5 M.length (.row [.I x, .I y, .I z, .ref t 0 cs.length] true 0) ∧ Live M5 (M.length + 1) (.row [.I 0, .I 0, .I 0, .nil] true 0) ∧
      Live M5 (M.length + 2) (.row [.I x, .I y, .I z, .ref v 0 (pick x y z P).length] true 0) ∧ Live M5 v (.row (triL (pick x y z P)) true 3) ∧ M.length ≤ v ∧ (∀ c : Cell, c.inBox x y z → (P c = true ↔ alikeB x y z d cs c = true ∧ Ahead d k i j c)) ∧ TabR M5 tt (firstF x y z d cs k) [M.length + 2] ∧
      fr 3 = .ptr M.length 0 ∧ fr 6 = .ptr (M.length + 1) 0 ∧ fr 8 = .I (d : Nat) ∧ fr 9 = .ptr (M.length + 2) 0 ∧ fr 10 = .I (dirA d) ∧ fr 11 = .I (dirB d) ∧ fr 12 = .I k ∧ fr 15 = .ref tt 0 (firstF x y z d cs k).length ∧ fr 16 = .I i ∧ fr 17 = .I j) (sideOf x y z (dirB d)).toNat
      ⟨0, v, P, by omega, hpre, b3, b6, b9, bv, hv, hP, hTt, f3, f6, f8, f9, f10, f11, f12, f15, f16, rfl⟩ ?_
    clear f3 f6 f8 f9 f10 f11 f12 f15 f16 b3 b6 b9 bv hv hP hTt hpre hlt
    rintro m3 fr M5 ⟨j, v, P, hj, hpre, b3, b6, b9, bv, hv, hP, hTt, f3, f6, f8, f9, f10, f11, f12, f15, f16, f17⟩
    obtain ⟨w, hgw, hIw, hwn⟩ := TabR.atX (P := fun av => av = []) (uo := M.length + 2) (fun av hav => by rw [hav]; exact hTt) rfl hil
    have hwn := hwn [] rfl
    rw [List.mem_singleton] at hwn
    have hrl := hrow.1
    unfold layN at hrl
    have hil' : (i : Int) < ((firstF x y z d cs k).length : Nat) := by omega
    simp (disch := omega) only [f3, f6, f8, f9, f10, f11, f12, f15, f16, f17, hgw, hil', ↓SXd, SXu, slBounds, ↓sop, ↓aop, ↓reduceIte, LV.cells, AOp.dst, LV.I, LV.B, LV.U, LV.S, LV.nil, Nat.reduceEqDiff, Nat.reduceAdd, Nat.reduceMul, Nat.reduceSub, Nat.reduceLeDiff, Nat.reduceBEq, Nat.reduceDiv, Nat.reduceMod, Int.reduceToNat, Int.reduceLT, Int.reduceLE, Int.reduceAdd, Int.reduceSub, Int.reduceMul, Int.reduceEq, Int.reduceNeg, reduceCtorEq, resV, resAll, ARes.ev, LV.flat, ite_true, ite_false, exists_eq_left', exists_eq_left, keyOf, implies_true, fillC, capOf]
    refine condC_dec (fun hlt => ?_) (fun hlt => ?_)
    rotate_left
    · have hjs : (j : Int) = sideOf x y z (dirB d) := by omega
      simp (disch := omega) only [f3, f6, f8, f9, f10, f11, f12, f15, f16, f17, ↓SXd, SXu, slBounds, ↓sop, ↓aop, ↓reduceIte, LV.cells, AOp.dst, LV.I, LV.B, LV.U, LV.S, LV.nil, Nat.reduceEqDiff, Nat.reduceAdd, Nat.reduceMul, Nat.reduceSub, Nat.reduceLeDiff, Nat.reduceBEq, Nat.reduceDiv, Nat.reduceMod, Int.reduceToNat, Int.reduceLT, Int.reduceLE, Int.reduceAdd, Int.reduceSub, Int.reduceMul, Int.reduceEq, Int.reduceNeg, reduceCtorEq, resV, resAll, ARes.ev, LV.flat, ite_true, ite_false, exists_eq_left', exists_eq_left, keyOf, implies_true, fillC, capOf]
      refine ⟨m2 - 1, by omega, i + 1, v, P, by omega, hpre, b3, b6, b9, bv, hv, fun c hc => ?_, hTt, f3, f6, f8, f9, f10, f11, f12, f15, eqI (natI _)⟩
      rw [hP c hc, hjs, ahead_row hS hd hc]
      exact Iff.rfl
    simp (disch := omega) only [f3, f6, f9, f10, f11, f12, f15, f16, f17, splice, ↓SXd, SXu, slBounds, ↓sop, ↓aop, ↓reduceIte, LV.cells, AOp.dst, LV.I, LV.B, LV.U, LV.S, LV.nil, Nat.reduceEqDiff, Nat.reduceAdd, Nat.reduceMul, Nat.reduceSub, Nat.reduceLeDiff, Nat.reduceBEq, Nat.reduceDiv, Nat.reduceMod, Int.reduceToNat, Int.reduceLT, Int.reduceLE, Int.reduceAdd, Int.reduceSub, Int.reduceMul, Int.reduceEq, Int.reduceNeg, reduceCtorEq, resV, resAll, ARes.ev, LV.flat, ite_true, ite_false, exists_eq_left', exists_eq_left, keyOf, implies_true, fillC, capOf]
    have hjl : j < ((firstF x y z d cs k).getD i []).length := by omega
    have e18 : Live (M5 ++ [some (.row [.I 0, .I 0, .I 0] true 0)]) M5.length (.row [.I 0, .I 0, .I 0] true 0) := Live.new
    have hpN : Pre M5 (M5 ++ [some (.row [.I 0, .I 0, .I 0] true 0)]) := Pre.app _ _
    generalize hN1 : M5 ++ [some (Blk.row [.I 0, .I 0, .I 0] true 0)] = N1 at e18 hpN ⊢
    clear hN1
    have hNl := hpN.1
    have hpl := hpre.1
    have hlr := lyr_row (k := (k : Int)) (i := (i : Int)) (j := (j : Int)) hd
    simp (disch := omega) only [f3, f6, f9, f10, f11, f12, f15, f16, f17, f8, ↓SXd, SXu, slBounds, ↓sop, ↓aop, ↓reduceIte, LV.cells, AOp.dst, LV.I, LV.B, LV.U, LV.S, LV.nil, Nat.reduceEqDiff, Nat.reduceAdd, Nat.reduceMul, Nat.reduceSub, Nat.reduceLeDiff, Nat.reduceBEq, Nat.reduceDiv, Nat.reduceMod, Int.reduceToNat, Int.reduceLT, Int.reduceLE, Int.reduceAdd, Int.reduceSub, Int.reduceMul, Int.reduceEq, Int.reduceNeg, reduceCtorEq, resV, resAll, ARes.ev, LV.flat, ite_true, ite_false, exists_eq_left', exists_eq_left, keyOf, implies_true, fillC, capOf]
    refine memK_at e18 (show d < 3 by omega) fun N2 k1 k2 k3 => ?_
    have hP2 := pre_step hpN (Nat.le_refl _) (j := 0) k1 k3
    clear e18 hpN k3
    simp (disch := omega) only [f3, f6, f9, f10, f11, f12, f15, f16, f17, ↓SXd, SXu, slBounds, ↓sop, ↓aop, ↓reduceIte, LV.cells, AOp.dst, LV.I, LV.B, LV.U, LV.S, LV.nil, Nat.reduceEqDiff, Nat.reduceAdd, Nat.reduceMul, Nat.reduceSub, Nat.reduceLeDiff, Nat.reduceBEq, Nat.reduceDiv, Nat.reduceMod, Int.reduceToNat, Int.reduceLT, Int.reduceLE, Int.reduceAdd, Int.reduceSub, Int.reduceMul, Int.reduceEq, Int.reduceNeg, reduceCtorEq, resV, resAll, ARes.ev, LV.flat, ite_true, ite_false, exists_eq_left', exists_eq_left, keyOf, implies_true, fillC, capOf]
    refine memK_at k2 (show (dirA d).toNat < ([LV.I 0, .I 0, .I 0].set d (.I k)).length by simp; omega) fun N3 q1 q2 q3 => ?_
    have hP3 := pre_step hP2 (Nat.le_refl _) (j := 0) q1 q3
    clear k2 q3 hP2
    simp (disch := omega) only [f3, f6, f9, f10, f11, f12, f15, f16, f17, ↓SXd, SXu, slBounds, ↓sop, ↓aop, ↓reduceIte, LV.cells, AOp.dst, LV.I, LV.B, LV.U, LV.S, LV.nil, Nat.reduceEqDiff, Nat.reduceAdd, Nat.reduceMul, Nat.reduceSub, Nat.reduceLeDiff, Nat.reduceBEq, Nat.reduceDiv, Nat.reduceMod, Int.reduceToNat, Int.reduceLT, Int.reduceLE, Int.reduceAdd, Int.reduceSub, Int.reduceMul, Int.reduceEq, Int.reduceNeg, reduceCtorEq, resV, resAll, ARes.ev, LV.flat, ite_true, ite_false, exists_eq_left', exists_eq_left, keyOf, implies_true, fillC, capOf]
    refine memK_at q2 (show (dirB d).toNat < (([LV.I 0, .I 0, .I 0].set d (.I k)).set (dirA d).toNat (.I i)).length by simp; omega) fun N4 w1 w2 w3 => ?_
    have hP4 := pre_step hP3 (Nat.le_refl _) (j := 0) w1 w3
    rw [hlr] at w2
    clear q2 w3 hP3
    have hgw4 : getCell N4 tt i = some (.ref w 0 ((firstF x y z d cs k).getD i []).length) := by
      have htl := hTt.lt
      unfold getCell getRow at hgw ⊢
      rw [hP4.2 tt htl]; exact hgw
    have hgf := Ints.get (hIw.pre hP4) hjl
    rw [Nat.zero_add] at hgf
    have hjl' : (j : Int) < (((firstF x y z d cs k).getD i []).length : Nat) := by omega
    have hbox : (lyrC d k i j).inBox x y z := ((lyr_in hS hd hks).2 ⟨i, j, ⟨by omega, by omega⟩, rfl⟩).1
    have hnx := fun (c : Cell) => ahead_next (d := d) (k := k) (i := i) (j := j) hd (c := c)
    have hat := lyr_at (k := (k : Int)) (i := (i : Int)) (j := (j : Int)) hd
    have hali : alikeB x y z d cs (lyrC d k i j) = decide (((firstF x y z d cs k).getD i []).getD j 0 = 1) := by
      unfold alikeB
      rw [hat.1, hat.2.1, hat.2.2, Int.toNat_natCast, Int.toNat_natCast]
    have hrw := hrow.2 _ (getD_mem' (d := 0) hjl)
    have d3 := b3.pre hP4
    have d6 := b6.pre hP4
    have d9 := b9.pre hP4
    have dv := bv.pre hP4
    have hT4 := hTt.pre hP4
    have hpq := hpre.trans hP4
    generalize hfv : ((firstF x y z d cs k).getD i []).getD j 0 = fv at hgf hali hrw
    simp (disch := omega) only [f3, f6, f9, f10, f11, f12, f15, f16, f17, f8, hgw4, hgf, hil', hjl', Nat.mul_one, Nat.zero_add, ↓SXd, SXu, slBounds, ↓sop, ↓aop, ↓reduceIte, LV.cells, AOp.dst, LV.I, LV.B, LV.U, LV.S, LV.nil, Nat.reduceEqDiff, Nat.reduceAdd, Nat.reduceMul, Nat.reduceSub, Nat.reduceLeDiff, Nat.reduceBEq, Nat.reduceDiv, Nat.reduceMod, Int.reduceToNat, Int.reduceLT, Int.reduceLE, Int.reduceAdd, Int.reduceSub, Int.reduceMul, Int.reduceEq, Int.reduceNeg, reduceCtorEq, resV, resAll, ARes.ev, LV.flat, ite_true, ite_false, exists_eq_left', exists_eq_left, keyOf, implies_true, fillC, capOf]
    by_cases hf1 : fv = 1
    · have hal1 : alikeB x y z d cs (lyrC d k i j) = true := by rw [hali, decide_eq_true hf1]
      simp (disch := omega) only [f3, f6, f9, f10, f11, f12, f15, f16, f17, hf1, d9.cells, w2.cells, ↓SXd, SXu, slBounds, ↓sop, ↓aop, ↓reduceIte, LV.cells, AOp.dst, LV.I, LV.B, LV.U, LV.S, LV.nil, Nat.reduceEqDiff, Nat.reduceAdd, Nat.reduceMul, Nat.reduceSub, Nat.reduceLeDiff, Nat.reduceBEq, Nat.reduceDiv, Nat.reduceMod, Int.reduceToNat, Int.reduceLT, Int.reduceLE, Int.reduceAdd, Int.reduceSub, Int.reduceMul, Int.reduceEq, Int.reduceNeg, reduceCtorEq, resV, resAll, ARes.ev, LV.flat, ite_true, ite_false, exists_eq_left', exists_eq_left, keyOf, implies_true, fillC, capOf]
      refine callK_of (h_l2With dv (pick_ok hS P) hbox) ?_
      simp (disch := omega) only [f3, f6, f9, f10, f11, f12, f15, f16, f17, ↓SXd, SXu, slBounds, ↓sop, ↓aop, ↓reduceIte, LV.cells, AOp.dst, LV.I, LV.B, LV.U, LV.S, LV.nil, Nat.reduceEqDiff, Nat.reduceAdd, Nat.reduceMul, Nat.reduceSub, Nat.reduceLeDiff, Nat.reduceBEq, Nat.reduceDiv, Nat.reduceMod, Int.reduceToNat, Int.reduceLT, Int.reduceLE, Int.reduceAdd, Int.reduceSub, Int.reduceMul, Int.reduceEq, Int.reduceNeg, reduceCtorEq, resV, resAll, ARes.ev, LV.flat, ite_true, ite_false, exists_eq_left', exists_eq_left, keyOf, implies_true, fillC, capOf]
      have h4l := hP4.1
      have hb9l := b9.lt
      obtain ⟨Q, hQ⟩ : ∃ Q : Cell → Bool, Q = fun e => decide (e ∈ pick x y z P) || decide (e = lyrC d (k : Int) (i : Int) (j : Int)) := ⟨_, rfl⟩
      rw [← hQ]
      refine memK_box (d9.app) (by simp) fun N6 l1 l2 l3 => ?_
      simp only [List.length_append, List.length_singleton] at l1
      have hk6 : ∀ q, q ≠ M.length + 2 → q < N4.length → N6[q]? = N4[q]? := fun q q1 q2 => by rw [l3 q q1 (by simp; omega), List.getElem?_append_left q2]
      simp (disch := omega) only [f3, f6, f9, f10, f11, f12, f15, f16, f17, ↓SXd, SXu, slBounds, ↓sop, ↓aop, ↓reduceIte, LV.cells, AOp.dst, LV.I, LV.B, LV.U, LV.S, LV.nil, Nat.reduceEqDiff, Nat.reduceAdd, Nat.reduceMul, Nat.reduceSub, Nat.reduceLeDiff, Nat.reduceBEq, Nat.reduceDiv, Nat.reduceMod, Int.reduceToNat, Int.reduceLT, Int.reduceLE, Int.reduceAdd, Int.reduceSub, Int.reduceMul, Int.reduceEq, Int.reduceNeg, reduceCtorEq, resV, resAll, ARes.ev, LV.flat, ite_true, ite_false, exists_eq_left', exists_eq_left, keyOf, implies_true, fillC, capOf]
      refine ⟨m3 - 1, by omega, j + 1, N4.length, Q, by omega, ⟨by omega, fun q hq => by rw [hk6 q (by omega) (by omega)]; exact hpq.2 q hq⟩, Live.at d3 (hk6 _ (by omega) d3.lt), Live.at d6 (hk6 _ (by omega) d6.lt), l2, live_step Live.new (by omega) l3, by omega, fun c hc => ?_, hT4.keep (fun q q1 q2 => hk6 q (by simpa using q1) q2) (fun q hq => .inl hq), f3, f6, f8, f9, f10, f11, f12, f15, f16, eqI (natI _)⟩
      rw [show ((j + 1 : Nat) : Int) = (j : Int) + 1 by omega, hnx, hQ]
      simp only [Bool.or_eq_true, decide_eq_true_eq, mem_pick hS]
      constructor
      · rintro (⟨e1, e2⟩ | rfl)
        · have := (hP c hc).1 e2
          exact ⟨this.1, .inl this.2⟩
        · exact ⟨hal1, .inr rfl⟩
      · rintro ⟨e1, e2 | e2⟩
        · exact .inl ⟨hc, (hP c hc).2 ⟨e1, e2⟩⟩
        · exact .inr e2
    · have hal0 : alikeB x y z d cs (lyrC d k i j) = false := by rw [hali, decide_eq_false hf1]
      simp (disch := omega) only [f3, f6, f9, f10, f11, f12, f15, f16, f17, hf1, ↓SXd, SXu, slBounds, ↓sop, ↓aop, ↓reduceIte, LV.cells, AOp.dst, LV.I, LV.B, LV.U, LV.S, LV.nil, Nat.reduceEqDiff, Nat.reduceAdd, Nat.reduceMul, Nat.reduceSub, Nat.reduceLeDiff, Nat.reduceBEq, Nat.reduceDiv, Nat.reduceMod, Int.reduceToNat, Int.reduceLT, Int.reduceLE, Int.reduceAdd, Int.reduceSub, Int.reduceMul, Int.reduceEq, Int.reduceNeg, reduceCtorEq, resV, resAll, ARes.ev, LV.flat, ite_true, ite_false, exists_eq_left', exists_eq_left, keyOf, implies_true, fillC, capOf]
      refine ⟨m3 - 1, by omega, j + 1, v, P, by omega, hpq, d3, d6, d9, dv, hv, fun c hc => ?_, hT4, f3, f6, f8, f9, f10, f11, f12, f15, f16, eqI (natI _)⟩
      rw [hP c hc, show ((j + 1 : Nat) : Int) = (j : Int) + 1 by omega, hnx]
      constructor
      · exact fun e => ⟨e.1, .inl e.2⟩
      · rintro ⟨e1, e2 | rfl⟩
        · exact ⟨e1, e2⟩
        · rw [hal0] at e1; cases e1
  · rw [if_neg hTw, decide_eq_false hTw]
    simp (disch := omega) only [fillC, splice, ↓SXd, SXu, slBounds, ↓sop, ↓aop, ↓reduceIte, LV.cells, AOp.dst, LV.I, LV.B, LV.U, LV.S, LV.nil, Nat.reduceEqDiff, Nat.reduceAdd, Nat.reduceMul, Nat.reduceSub, Nat.reduceLeDiff, Nat.reduceBEq, Nat.reduceDiv, Nat.reduceMod, Int.reduceToNat, Int.reduceLT, Int.reduceLE, Int.reduceAdd, Int.reduceSub, Int.reduceMul, Int.reduceEq, Int.reduceNeg, reduceCtorEq, resV, resAll, ARes.ev, LV.flat, ite_true, ite_false, exists_eq_left', exists_eq_left, keyOf, implies_true, fillC, capOf]
    exact ⟨_, rfl, SlC.nil, Newer.nil, Pre.app _ _⟩
end Go.Ab

/- The abstract code of some functions (written by a program of mine from the translation, by way of prepF). -/
namespace Go.Ab.C
open Go.Ab
end Go.Ab.C

/- That the program has this code. -/
namespace Go.Ab.K
open Go Go.Ab
end Go.Ab.K

/- The abstract code of some functions (written by a program of mine from the translation, by way of prepF). -/
namespace Go.Ab.C
open Go.Ab
end Go.Ab.C

/- That the program has this code. -/
namespace Go.Ab.K
open Go Go.Ab
end Go.Ab.K

/- Contracts: the reference's joined, common and swapped heaps. -/
namespace Go.Ab
open Go
set_option linter.unusedSimpArgs false
set_option linter.unusedVariables false
set_option maxRecDepth 20000

section
variable {x y z x' y' z' : Int} {t t' : Nat} {w w' : Bool} {cs ds : List Cell} {M : Mem} (h : Live M t (.row (triL cs) w 3)) (hn : cs.length ≤ 1000000000) (h' : Live M t' (.row (triL ds) w' 3)) (hn' : ds.length ≤ 1000000000)
include h hn h' hn'
end
section
variable {x y z a b : Int} {t : Nat} {w : Bool} {cs : List Cell} {M : Mem} (h : Live M t (.row (triL cs) w 3))
include h
end
end Go.Ab

/- The abstract code of some functions (written by a program of mine from the translation, by way of prepF). -/
namespace Go.Ab.C
open Go.Ab
end Go.Ab.C

/- That the program has this code. -/
namespace Go.Ab.K
open Go Go.Ab
end Go.Ab.K

/- The abstract code of some functions (written by a program of mine from the translation, by way of prepF). -/
namespace Go.Ab.C
open Go.Ab
end Go.Ab.C

/- That the program has this code. -/
namespace Go.Ab.K
open Go Go.Ab
end Go.Ab.K

/- Contracts: the program's PositionsOf, AreSameForm, IsHanded. -/
namespace Go.Ab
open Go
set_option linter.unusedSimpArgs false
set_option linter.unusedVariables false

theorem SlI.lenV {N : Mem} {v : LV} {l : List Int} (h : SlI N v l) : lenV v = some (l.length : Int) := by
  rcases h with ⟨rfl, rfl⟩ | ⟨t, ex, rfl, _⟩ <;> rfl
end Go.Ab

/- The abstract code of some functions (written by a program of mine from the translation, by way of prepF). -/
namespace Go.Ab.C
open Go.Ab
end Go.Ab.C

/- That the program has this code. -/
namespace Go.Ab.K
open Go Go.Ab
end Go.Ab.K

/- Contracts: whether a number is one of a turn. -/
namespace Go.Ab
open Go
set_option linter.unusedSimpArgs false

def In24 (k : Int) : Prop := 0 ≤ k ∧ k ≤ 23
instance (k : Int) : Decidable (In24 k) := by unfold In24; exact inferInstance
end Go.Ab

/- Contracts: the laws' helpers that compare cells and heaps; the program's turned, mirrored, cropped heaps and forms, exactly. -/
namespace Go.Ab
open Go
set_option linter.unusedSimpArgs false
set_option linter.unusedVariables false
set_option maxRecDepth 20000

section
variable {x y z : Int} {t : Nat} {w : Bool} {cs : List Cell} {M : Mem} (h : Live M t (.row (triL cs) w 3)) (hH : HeapOK x y z cs)
include h hH
end
end Go.Ab

/- Contracts: the program's mirrored, other, joined, common, swapped, shifted, cropped and widened heaps. -/
namespace Go.Ab
open Go
set_option linter.unusedSimpArgs false
set_option linter.unusedVariables false
set_option maxRecDepth 20000

theorem g_isDirectionB {d : Int} {M : Mem} : CallsTo PG F.impl_isDirection [.I d] M (.B (decide (0 ≤ d ∧ d ≤ 2))) M := by
  refine calls_run K.impl_isDirection rfl ?_
  simp (disch := omega) only [C.impl_isDirection, ↓SXd, SXu, slBounds, ↓sop, ↓aop, ↓reduceIte, LV.cells, AOp.dst, LV.I, LV.B, LV.U, LV.S, LV.nil, Nat.reduceEqDiff, Nat.reduceAdd, Nat.reduceMul, Nat.reduceSub, Nat.reduceLeDiff, Nat.reduceBEq, Nat.reduceDiv, Nat.reduceMod, Int.reduceToNat, Int.reduceLT, Int.reduceLE, Int.reduceAdd, Int.reduceSub, Int.reduceMul, Int.reduceEq, Int.reduceNeg, reduceCtorEq, resV, resAll, ARes.ev, LV.flat, ite_true, ite_false, exists_eq_left', exists_eq_left, keyOf, implies_true, fillC, capOf]
  refine callK_of (g_within) ?_
  simp (disch := omega) only [↓SXd, SXu, slBounds, ↓sop, ↓aop, ↓reduceIte, LV.cells, AOp.dst, LV.I, LV.B, LV.U, LV.S, LV.nil, Nat.reduceEqDiff, Nat.reduceAdd, Nat.reduceMul, Nat.reduceSub, Nat.reduceLeDiff, Nat.reduceBEq, Nat.reduceDiv, Nat.reduceMod, Int.reduceToNat, Int.reduceLT, Int.reduceLE, Int.reduceAdd, Int.reduceSub, Int.reduceMul, Int.reduceEq, Int.reduceNeg, reduceCtorEq, resV, resAll, ARes.ev, LV.flat, ite_true, ite_false, exists_eq_left', exists_eq_left, keyOf, implies_true, fillC, capOf]
  exact cmp_drop0 rfl
section
variable {x y z : Int} {t : Nat} {w : Bool} {cs : List Cell} {M : Mem} (h : Live M t (.row (triL cs) w 3)) (hn : cs.length ≤ 1000000000)
include h hn
end
section
variable {x y z x' y' z' : Int} {t t' : Nat} {w w' : Bool} {cs ds : List Cell} {M : Mem} (h : Live M t (.row (triL cs) w 3)) (hn : cs.length ≤ 1000000000) (h' : Live M t' (.row (triL ds) w' 3)) (hn' : ds.length ≤ 1000000000)
include h hn h' hn'
end
end Go.Ab

/- The heap whose layers are the first tables: the program's contract. -/
namespace Go.Ab
open Go
set_option linter.unusedSimpArgs false
set_option linter.unusedVariables false
set_option maxRecDepth 20000

theorem flat_at {n : Nat} : ∀ {L : List (List Int)} {i j : Nat}, (∀ row ∈ L, row.length = n) → i < L.length → j < n → L.flatten.getD (i * n + j) 0 = (L.getD i []).getD j 0
  | [], i, j, _, hi, _ => by simp at hi
  | row :: L, 0, j, h, _, hj => by
    have := h row (by simp)
    rw [List.flatten_cons, Nat.zero_mul, Nat.zero_add]
    simp only [List.getD_eq_getElem?_getD]
    rw [List.getElem?_append_left (by omega)]
    rfl
  | row :: L, i + 1, j, h, hi, hj => by
    have h1 := h row (by simp)
    have ih := flat_at (L := L) (i := i) (j := j) (fun q hq => h q (List.mem_cons_of_mem _ hq)) (by simpa using hi) hj
    rw [List.flatten_cons]
    simp only [List.getD_eq_getElem?_getD] at ih ⊢
    rw [List.getElem?_append_right (by rw [h1, Nat.add_mul]; omega), h1, show (i + 1) * n + j - n = i * n + j by rw [Nat.add_mul]; omega, ih]
    rfl
theorem flat_len {n : Nat} : ∀ {L : List (List Int)}, (∀ row ∈ L, row.length = n) → L.flatten.length = L.length * n
  | [], _ => by simp
  | row :: L, h => by
    rw [List.flatten_cons, List.length_append, h row (by simp), flat_len fun q hq => h q (List.mem_cons_of_mem _ hq), List.length_cons, Nat.add_mul]
    omega
section
variable {x y z : Int} {d : Nat} {cs : List Cell} {k : Int}
theorem firstW_eq (hS : Sides x y z) : firstW (fillK (layN x y z d) (rowsV x y z d cs k) 0 0 (colsV x y z d cs k)) = setT (firstF x y z d cs k).flatten := by
  have h01 := layT_01 (x := x) (y := y) (z := z) (d := d) (cs := cs) (k := k)
  unfold rowsV colsV
  rw [fill_tabs (by rw [colsE_len]) (fun b hb => (colsE_bound h01 b hb).1) fun r hr => by
    obtain ⟨row, r1, rfl⟩ := List.mem_map.1 hr
    exact (litSum_bits (h01 row r1).2).1]
  have hm := firstF_mem (x := x) (y := y) (z := z) (d := d) (cs := cs) (k := k)
  show firstW ((tabsOf x y z d cs k).map List.flatten) = _
  unfold firstF
  cases h : tabsOf x y z d cs k with
  | nil => rw [h] at hm; simp at hm
  | cons T Ts => rfl
theorem firstBit (hS : Sides x y z) (hd : d < 3) {c : Cell} (hc : c.inBox x y z) (hk : c.at d = k) : (setT (firstF x y z d cs k).flatten).getLsbD (c.at (dirA d) * sideOf x y z (dirB d) + c.at (dirB d)).toNat = alikeB x y z d cs c := by
  obtain ⟨l0, l1, l2⟩ := lyr_box hS hd hc
  have sA := sideOf_in hS (dirA d)
  have sB := sideOf_in hS (dirB d)
  have hF := firstF_01 (x := x) (y := y) (z := z) (d := d) (cs := cs) (k := k)
  unfold alikeB
  rw [hk]
  obtain ⟨i, hi⟩ : ∃ i : Nat, c.at (dirA d) = i := ⟨(c.at (dirA d)).toNat, by omega⟩
  obtain ⟨j, hj⟩ : ∃ j : Nat, c.at (dirB d) = j := ⟨(c.at (dirB d)).toNat, by omega⟩
  obtain ⟨n, hn⟩ : ∃ n : Nat, sideOf x y z (dirB d) = n := ⟨(sideOf x y z (dirB d)).toNat, by omega⟩
  have hN : layN x y z d = n := by unfold layN; omega
  rw [hN] at hF
  have hfl := flat_len fun row hr => (hF.2 row hr).1
  rw [hi] at l1
  rw [hj, hn] at l2
  rw [hn] at sB
  rw [hi, hj, hn]
  have e : ((i : Int) * (n : Int) + (j : Int)).toNat = i * n + j := by
    rw [show (i : Int) * (n : Int) + (j : Int) = ((i * n + j : Nat) : Int) by push_cast; rfl, Int.toNat_natCast]
  have hlt : i * n + j < (firstF x y z d cs k).length * n := by
    have : (i + 1) * n ≤ (firstF x y z d cs k).length * n := Nat.mul_le_mul_right _ (by omega)
    rw [Nat.add_mul] at this
    omega
  have hle : (firstF x y z d cs k).length * n ≤ 4 * 4 := Nat.mul_le_mul (by omega) (by omega)
  rw [e, setT_bit (by omega), flat_at (fun row hr => (hF.2 row hr).1) (by omega) (by omega), hfl, decide_eq_true hlt, Bool.true_and, Int.toNat_natCast, Int.toNat_natCast]
end
theorem g_third {a b : Int} {M : Mem} (ha : 0 ≤ a ∧ a ≤ 2) (hb : 0 ≤ b ∧ b ≤ 2) : CallsTo PG F.impl_third [.I a, .I b] M (.I (3 - a - b)) M := by
  refine calls_run K.impl_third rfl ?_
  simp (disch := omega) only [C.impl_third, ↓SXd, SXu, slBounds, ↓sop, ↓aop, ↓reduceIte, LV.cells, AOp.dst, LV.I, LV.B, LV.U, LV.S, LV.nil, Nat.reduceEqDiff, Nat.reduceAdd, Nat.reduceMul, Nat.reduceSub, Nat.reduceLeDiff, Nat.reduceBEq, Nat.reduceDiv, Nat.reduceMod, Int.reduceToNat, Int.reduceLT, Int.reduceLE, Int.reduceAdd, Int.reduceSub, Int.reduceMul, Int.reduceEq, Int.reduceNeg, reduceCtorEq, resV, resAll, ARes.ev, LV.flat, ite_true, ite_false, exists_eq_left', exists_eq_left, keyOf, implies_true, fillC, capOf]
  exact cmp_drop0 rfl
theorem g_areDirections {a b : Int} {M : Mem} : CallsTo PG F.impl_areDirections [.I a, .I b] M (.B (decide ((0 ≤ a ∧ a ≤ 2) ∧ (0 ≤ b ∧ b ≤ 2) ∧ ¬ a = b))) M := by
  refine calls_run K.impl_areDirections rfl ?_
  simp (disch := omega) only [C.impl_areDirections, ↓SXd, SXu, slBounds, ↓sop, ↓aop, ↓reduceIte, LV.cells, AOp.dst, LV.I, LV.B, LV.U, LV.S, LV.nil, Nat.reduceEqDiff, Nat.reduceAdd, Nat.reduceMul, Nat.reduceSub, Nat.reduceLeDiff, Nat.reduceBEq, Nat.reduceDiv, Nat.reduceMod, Int.reduceToNat, Int.reduceLT, Int.reduceLE, Int.reduceAdd, Int.reduceSub, Int.reduceMul, Int.reduceEq, Int.reduceNeg, reduceCtorEq, resV, resAll, ARes.ev, LV.flat, ite_true, ite_false, exists_eq_left', exists_eq_left, keyOf, implies_true, fillC, capOf]
  refine callK_of (g_isDirectionB) ?_
  simp (disch := omega) only [↓SXd, SXu, slBounds, ↓sop, ↓aop, ↓reduceIte, LV.cells, AOp.dst, LV.I, LV.B, LV.U, LV.S, LV.nil, Nat.reduceEqDiff, Nat.reduceAdd, Nat.reduceMul, Nat.reduceSub, Nat.reduceLeDiff, Nat.reduceBEq, Nat.reduceDiv, Nat.reduceMod, Int.reduceToNat, Int.reduceLT, Int.reduceLE, Int.reduceAdd, Int.reduceSub, Int.reduceMul, Int.reduceEq, Int.reduceNeg, reduceCtorEq, resV, resAll, ARes.ev, LV.flat, ite_true, ite_false, exists_eq_left', exists_eq_left, keyOf, implies_true, fillC, capOf]
  by_cases ha : 0 ≤ a ∧ a ≤ 2
  · rw [decide_eq_true ha]
    simp (disch := omega) only [↓SXd, SXu, slBounds, ↓sop, ↓aop, ↓reduceIte, LV.cells, AOp.dst, LV.I, LV.B, LV.U, LV.S, LV.nil, Nat.reduceEqDiff, Nat.reduceAdd, Nat.reduceMul, Nat.reduceSub, Nat.reduceLeDiff, Nat.reduceBEq, Nat.reduceDiv, Nat.reduceMod, Int.reduceToNat, Int.reduceLT, Int.reduceLE, Int.reduceAdd, Int.reduceSub, Int.reduceMul, Int.reduceEq, Int.reduceNeg, reduceCtorEq, resV, resAll, ARes.ev, LV.flat, ite_true, ite_false, exists_eq_left', exists_eq_left, keyOf, implies_true, fillC, capOf]
    refine callK_of (g_isDirectionB) ?_
    simp (disch := omega) only [↓SXd, SXu, slBounds, ↓sop, ↓aop, ↓reduceIte, LV.cells, AOp.dst, LV.I, LV.B, LV.U, LV.S, LV.nil, Nat.reduceEqDiff, Nat.reduceAdd, Nat.reduceMul, Nat.reduceSub, Nat.reduceLeDiff, Nat.reduceBEq, Nat.reduceDiv, Nat.reduceMod, Int.reduceToNat, Int.reduceLT, Int.reduceLE, Int.reduceAdd, Int.reduceSub, Int.reduceMul, Int.reduceEq, Int.reduceNeg, reduceCtorEq, resV, resAll, ARes.ev, LV.flat, ite_true, ite_false, exists_eq_left', exists_eq_left, keyOf, implies_true, fillC, capOf]
    by_cases hb : 0 ≤ b ∧ b ≤ 2
    · rw [decide_eq_true hb]
      simp (disch := omega) only [↓SXd, SXu, slBounds, ↓sop, ↓aop, ↓reduceIte, LV.cells, AOp.dst, LV.I, LV.B, LV.U, LV.S, LV.nil, Nat.reduceEqDiff, Nat.reduceAdd, Nat.reduceMul, Nat.reduceSub, Nat.reduceLeDiff, Nat.reduceBEq, Nat.reduceDiv, Nat.reduceMod, Int.reduceToNat, Int.reduceLT, Int.reduceLE, Int.reduceAdd, Int.reduceSub, Int.reduceMul, Int.reduceEq, Int.reduceNeg, reduceCtorEq, resV, resAll, ARes.ev, LV.flat, ite_true, ite_false, exists_eq_left', exists_eq_left, keyOf, implies_true, fillC, capOf]
      rw [show decide ((0 ≤ a ∧ a ≤ 2) ∧ (0 ≤ b ∧ b ≤ 2) ∧ ¬ a = b) = !decide (a = b) by simp [ha, hb]]
      exact cmp_drop0 rfl
    · rw [decide_eq_false hb]
      simp (disch := omega) only [↓SXd, SXu, slBounds, ↓sop, ↓aop, ↓reduceIte, LV.cells, AOp.dst, LV.I, LV.B, LV.U, LV.S, LV.nil, Nat.reduceEqDiff, Nat.reduceAdd, Nat.reduceMul, Nat.reduceSub, Nat.reduceLeDiff, Nat.reduceBEq, Nat.reduceDiv, Nat.reduceMod, Int.reduceToNat, Int.reduceLT, Int.reduceLE, Int.reduceAdd, Int.reduceSub, Int.reduceMul, Int.reduceEq, Int.reduceNeg, reduceCtorEq, resV, resAll, ARes.ev, LV.flat, ite_true, ite_false, exists_eq_left', exists_eq_left, keyOf, implies_true, fillC, capOf]
      rw [show decide ((0 ≤ a ∧ a ≤ 2) ∧ (0 ≤ b ∧ b ≤ 2) ∧ ¬ a = b) = false by simp only [decide_eq_false_iff_not]; exact fun h => hb h.2.1]
      exact cmp_drop0 rfl
  · rw [decide_eq_false ha]
    simp (disch := omega) only [↓SXd, SXu, slBounds, ↓sop, ↓aop, ↓reduceIte, LV.cells, AOp.dst, LV.I, LV.B, LV.U, LV.S, LV.nil, Nat.reduceEqDiff, Nat.reduceAdd, Nat.reduceMul, Nat.reduceSub, Nat.reduceLeDiff, Nat.reduceBEq, Nat.reduceDiv, Nat.reduceMod, Int.reduceToNat, Int.reduceLT, Int.reduceLE, Int.reduceAdd, Int.reduceSub, Int.reduceMul, Int.reduceEq, Int.reduceNeg, reduceCtorEq, resV, resAll, ARes.ev, LV.flat, ite_true, ite_false, exists_eq_left', exists_eq_left, keyOf, implies_true, fillC, capOf]
    rw [show decide ((0 ≤ a ∧ a ≤ 2) ∧ (0 ≤ b ∧ b ≤ 2) ∧ ¬ a = b) = false by simp only [decide_eq_false_iff_not]; exact fun h => ha h.1]
    exact cmp_drop0 rfl
theorem g_alike1 {x y z : Int} {d bd bk bt b1 bs2 b2 : Nat} {k : Int} {tb : BitVec 64} {c : Cell} {M : Mem} (hS : Sides x y z) (hd : d < 3) (hc : c.inBox x y z)
    (hD : Live M bd (.row [.I d] true 0)) (hK : Live M bk (.row [.I k] true 0)) (hT : Live M bt (.row [.W tb] true 0)) (h1 : Live M b1 (.row [.I (dirA d)] true 0)) (h2 : Live M bs2 (.row [.I x, .I y, .I z] true 0)) (h3 : Live M b2 (.row [.I (dirB d)] true 0)) :
    CallsTo PG F.impl_FirstAlike_1 ([.agg [.I c.a, .I c.b, .I c.c]] ++ [(bd, 0), (bk, 0), (bt, 0), (b1, 0), (bs2, 0), (b2, 0)].map fun p => .ptr p.1 p.2) M (.B (decide (c.at d = k) && tb.getLsbD (c.at (dirA d) * sideOf x y z (dirB d) + c.at (dirB d)).toNat)) M := by
  have hda : Dir (dirA d) := by unfold dirA Dir; split <;> omega
  have hdb : Dir (dirB d) := by unfold dirB Dir; split <;> omega
  have hdd : Dir (d : Nat) := by unfold Dir; omega
  have hrA : 0 ≤ dirA d ∧ dirA d < 3 := by unfold dirA; split <;> omega
  have hrB : 0 ≤ dirB d ∧ dirB d < 3 := by unfold dirB; split <;> omega
  have sB := sideOf_in hS (dirB d)
  have sA := sideOf_in hS (dirA d)
  obtain ⟨l0, l1, l2⟩ := lyr_box hS hd hc
  have hcD := cellC_row (c := c) hdd
  have hcA := cellC_row (c := c) hda
  have hcB := cellC_row (c := c) hdb
  have hsB := sideB_row (x := x) (y := y) (z := z) hdb
  rw [Int.toNat_natCast] at hcD
  have hmul : 0 ≤ c.at (dirA d) * sideOf x y z (dirB d) ∧ c.at (dirA d) * sideOf x y z (dirB d) ≤ 16 := by
    refine ⟨Int.mul_nonneg (by omega) (by omega), ?_⟩
    have h1 : c.at (dirA d) * sideOf x y z (dirB d) ≤ 4 * sideOf x y z (dirB d) := Int.mul_le_mul_of_nonneg_right (by omega) (by omega)
    omega
  have hb1 := hD.lt
  have hb2 := hK.lt
  have hb3 := hT.lt
  have hb4 := h1.lt
  have hb5 := h2.lt
  have hb6 := h3.lt
  refine calls_run K.impl_FirstAlike_1 rfl ?_
  by_cases hk : c.at (d : Nat) = k
  · simp (disch := omega) only [C.impl_FirstAlike_1, hD.app.cell, hK.app.cell, hT.app.cell, h1.app.cell, h2.app.cell, h3.app.cell, hcD, hcA, hcB, hsB, hk, splice, ↓SXd, SXu, slBounds, ↓sop, ↓aop, ↓reduceIte, LV.cells, AOp.dst, LV.I, LV.B, LV.U, LV.S, LV.nil, Nat.reduceEqDiff, Nat.reduceAdd, Nat.reduceMul, Nat.reduceSub, Nat.reduceLeDiff, Nat.reduceBEq, Nat.reduceDiv, Nat.reduceMod, Int.reduceToNat, Int.reduceLT, Int.reduceLE, Int.reduceAdd, Int.reduceSub, Int.reduceMul, Int.reduceEq, Int.reduceNeg, reduceCtorEq, resV, resAll, ARes.ev, LV.flat, ite_true, ite_false, exists_eq_left', exists_eq_left, keyOf, implies_true, fillC, capOf]
    refine callK_of (g_has_set (by omega)) ?_
    simp (disch := omega) only [↓SXd, SXu, slBounds, ↓sop, ↓aop, ↓reduceIte, LV.cells, AOp.dst, LV.I, LV.B, LV.U, LV.S, LV.nil, Nat.reduceEqDiff, Nat.reduceAdd, Nat.reduceMul, Nat.reduceSub, Nat.reduceLeDiff, Nat.reduceBEq, Nat.reduceDiv, Nat.reduceMod, Int.reduceToNat, Int.reduceLT, Int.reduceLE, Int.reduceAdd, Int.reduceSub, Int.reduceMul, Int.reduceEq, Int.reduceNeg, reduceCtorEq, resV, resAll, ARes.ev, LV.flat, ite_true, ite_false, exists_eq_left', exists_eq_left, keyOf, implies_true, fillC, capOf]
    rw [Bool.true_and]
    exact cmp_drop rfl
  · simp (disch := omega) only [C.impl_FirstAlike_1, hD.app.cell, hK.app.cell, hT.app.cell, h1.app.cell, h2.app.cell, h3.app.cell, hcD, hk, splice, ↓SXd, SXu, slBounds, ↓sop, ↓aop, ↓reduceIte, LV.cells, AOp.dst, LV.I, LV.B, LV.U, LV.S, LV.nil, Nat.reduceEqDiff, Nat.reduceAdd, Nat.reduceMul, Nat.reduceSub, Nat.reduceLeDiff, Nat.reduceBEq, Nat.reduceDiv, Nat.reduceMod, Int.reduceToNat, Int.reduceLT, Int.reduceLE, Int.reduceAdd, Int.reduceSub, Int.reduceMul, Int.reduceEq, Int.reduceNeg, reduceCtorEq, resV, resAll, ARes.ev, LV.flat, ite_true, ite_false, exists_eq_left', exists_eq_left, keyOf, implies_true, fillC, capOf]
    rw [Bool.false_and]
    exact cmp_drop rfl
theorem g_FirstAlike {x y z a b : Int} {t : Nat} {w : Bool} {cs : List Cell} {M : Mem} (h0 : Live M t (.row (triL cs) w 3)) (hn : cs.length ≤ 1000000000) :
    CallsR PG F.impl_FirstAlike [.agg [.I x, .I y, .I z, .ref t 0 cs.length], .I a, .I b] M (HeapRes M (alikeOf x y z cs a b) []) := by
  have h : Tri M t 0 cs := h0.has
  refine callsR_run K.impl_FirstAlike rfl ?_
  simp (disch := omega) only [C.impl_FirstAlike, ↓SXd, SXu, slBounds, ↓sop, ↓aop, ↓reduceIte, LV.cells, AOp.dst, LV.I, LV.B, LV.U, LV.S, LV.nil, Nat.reduceEqDiff, Nat.reduceAdd, Nat.reduceMul, Nat.reduceSub, Nat.reduceLeDiff, Nat.reduceBEq, Nat.reduceDiv, Nat.reduceMod, Int.reduceToNat, Int.reduceLT, Int.reduceLE, Int.reduceAdd, Int.reduceSub, Int.reduceMul, Int.reduceEq, Int.reduceNeg, reduceCtorEq, resV, resAll, ARes.ev, LV.flat, ite_true, ite_false, exists_eq_left', exists_eq_left, keyOf, implies_true, fillC, capOf]
  refine callK_of (g_IsHeap h.app hn) ?_
  simp (disch := omega) only [↓SXd, SXu, slBounds, ↓sop, ↓aop, ↓reduceIte, LV.cells, AOp.dst, LV.I, LV.B, LV.U, LV.S, LV.nil, Nat.reduceEqDiff, Nat.reduceAdd, Nat.reduceMul, Nat.reduceSub, Nat.reduceLeDiff, Nat.reduceBEq, Nat.reduceDiv, Nat.reduceMod, Int.reduceToNat, Int.reduceLT, Int.reduceLE, Int.reduceAdd, Int.reduceSub, Int.reduceMul, Int.reduceEq, Int.reduceNeg, reduceCtorEq, resV, resAll, ARes.ev, LV.flat, ite_true, ite_false, exists_eq_left', exists_eq_left, keyOf, implies_true, fillC, capOf]
  unfold alikeOf
  by_cases hH : HeapOK x y z cs
  · rw [decide_eq_true hH]
    simp (disch := omega) only [↓SXd, SXu, slBounds, ↓sop, ↓aop, ↓reduceIte, LV.cells, AOp.dst, LV.I, LV.B, LV.U, LV.S, LV.nil, Nat.reduceEqDiff, Nat.reduceAdd, Nat.reduceMul, Nat.reduceSub, Nat.reduceLeDiff, Nat.reduceBEq, Nat.reduceDiv, Nat.reduceMod, Int.reduceToNat, Int.reduceLT, Int.reduceLE, Int.reduceAdd, Int.reduceSub, Int.reduceMul, Int.reduceEq, Int.reduceNeg, reduceCtorEq, resV, resAll, ARes.ev, LV.flat, ite_true, ite_false, exists_eq_left', exists_eq_left, keyOf, implies_true, fillC, capOf]
    refine callK_of (g_areDirections) ?_
    simp (disch := omega) only [↓SXd, SXu, slBounds, ↓sop, ↓aop, ↓reduceIte, LV.cells, AOp.dst, LV.I, LV.B, LV.U, LV.S, LV.nil, Nat.reduceEqDiff, Nat.reduceAdd, Nat.reduceMul, Nat.reduceSub, Nat.reduceLeDiff, Nat.reduceBEq, Nat.reduceDiv, Nat.reduceMod, Int.reduceToNat, Int.reduceLT, Int.reduceLE, Int.reduceAdd, Int.reduceSub, Int.reduceMul, Int.reduceEq, Int.reduceNeg, reduceCtorEq, resV, resAll, ARes.ev, LV.flat, ite_true, ite_false, exists_eq_left', exists_eq_left, keyOf, implies_true, fillC, capOf]
    by_cases hab : (0 ≤ a ∧ a ≤ 2) ∧ (0 ≤ b ∧ b ≤ 2) ∧ ¬ a = b
    · have hTw : TwoOK x y z cs a b := ⟨hH, hab⟩
      rw [if_pos hTw, decide_eq_true hab]
      have hS := hH.1
      obtain ⟨ha, hb, hne⟩ := hab
      simp (disch := omega) only [↓SXd, SXu, slBounds, ↓sop, ↓aop, ↓reduceIte, LV.cells, AOp.dst, LV.I, LV.B, LV.U, LV.S, LV.nil, Nat.reduceEqDiff, Nat.reduceAdd, Nat.reduceMul, Nat.reduceSub, Nat.reduceLeDiff, Nat.reduceBEq, Nat.reduceDiv, Nat.reduceMod, Int.reduceToNat, Int.reduceLT, Int.reduceLE, Int.reduceAdd, Int.reduceSub, Int.reduceMul, Int.reduceEq, Int.reduceNeg, reduceCtorEq, resV, resAll, ARes.ev, LV.flat, ite_true, ite_false, exists_eq_left', exists_eq_left, keyOf, implies_true, fillC, capOf]
      refine callK_of (g_third ha hb) ?_
      simp (disch := omega) only [↓SXd, SXu, slBounds, ↓sop, ↓aop, ↓reduceIte, LV.cells, AOp.dst, LV.I, LV.B, LV.U, LV.S, LV.nil, Nat.reduceEqDiff, Nat.reduceAdd, Nat.reduceMul, Nat.reduceSub, Nat.reduceLeDiff, Nat.reduceBEq, Nat.reduceDiv, Nat.reduceMod, Int.reduceToNat, Int.reduceLT, Int.reduceLE, Int.reduceAdd, Int.reduceSub, Int.reduceMul, Int.reduceEq, Int.reduceNeg, reduceCtorEq, resV, resAll, ARes.ev, LV.flat, ite_true, ite_false, exists_eq_left', exists_eq_left, keyOf, implies_true, fillC, capOf]
      refine callK_of (g_box) ?_
      simp (disch := omega) only [splice, ↓SXd, SXu, slBounds, ↓sop, ↓aop, ↓reduceIte, LV.cells, AOp.dst, LV.I, LV.B, LV.U, LV.S, LV.nil, Nat.reduceEqDiff, Nat.reduceAdd, Nat.reduceMul, Nat.reduceSub, Nat.reduceLeDiff, Nat.reduceBEq, Nat.reduceDiv, Nat.reduceMod, Int.reduceToNat, Int.reduceLT, Int.reduceLE, Int.reduceAdd, Int.reduceSub, Int.reduceMul, Int.reduceEq, Int.reduceNeg, reduceCtorEq, resV, resAll, ARes.ev, LV.flat, ite_true, ite_false, exists_eq_left', exists_eq_left, keyOf, implies_true, fillC, capOf]
      obtain ⟨d, hd0⟩ : ∃ d : Nat, d = (3 - a - b).toNat := ⟨_, rfl⟩
      have hde : 3 - a - b = ((d : Nat) : Int) := by omega
      have hd : d < 3 := by omega
      have hal : alikeCs x y z cs a b = pick x y z (alikeB x y z d cs) := by unfold alikeCs; rw [hd0]
      rw [hal, hde]
      clear hal hde hd0 ha hb hne hTw
      have hdd : Dir (d : Nat) := by unfold Dir; omega
      have sA := sideOf_in hS (dirA d)
      have sB := sideOf_in hS (dirB d)
      have sD := sideOf_in hS (d : Nat)
      refine callK_of (g_others hd) ?_
      change putK _ _ _ (.tup [.I (dirA d), .I (dirB d)]) _
      have hsD := sideB_row (x := x) (y := y) (z := z) hdd
      rw [Int.toNat_natCast] at hsD
      have hrep : (LV.val (.int .u64 0)) = LV.W (bs x y z fun _ => false) := by rw [← bs_none hS]; rfl
      simp (disch := omega) only [hsD, splice, ↓SXd, SXu, slBounds, ↓sop, ↓aop, ↓reduceIte, LV.cells, AOp.dst, LV.I, LV.B, LV.U, LV.S, LV.nil, Nat.reduceEqDiff, Nat.reduceAdd, Nat.reduceMul, Nat.reduceSub, Nat.reduceLeDiff, Nat.reduceBEq, Nat.reduceDiv, Nat.reduceMod, Int.reduceToNat, Int.reduceLT, Int.reduceLE, Int.reduceAdd, Int.reduceSub, Int.reduceMul, Int.reduceEq, Int.reduceNeg, reduceCtorEq, resV, resAll, ARes.ev, LV.flat, ite_true, ite_false, exists_eq_left', exists_eq_left, keyOf, implies_true, fillC, capOf]
      rw [hrep]
      refine ev_loop (fun m fr M' => ∃ (k : Nat) (P : Cell → Bool), k + m = (sideOf x y z (d : Nat)).toNat ∧ Pre M M' ∧ Live M' M.length (.row [.I x, .I y, .I z, .ref t 0 cs.length] true 0) ∧ Live M' (M.length + 1) (.row [.I 0, .I 0, .I 0, .nil] true 0) ∧ Live M' (M.length + 2) (.row [.I (d : Nat)] true 0) ∧ Live M' (M.length + 3) (.row [.I x, .I y, .I z] true 0) ∧ Live M' (M.length + 4) (.row [.I (dirA d)] true 0) ∧ Live M' (M.length + 5) (.row [.I (dirB d)] true 0) ∧
        (∀ c : Cell, c.inBox x y z → (P c = true ↔ alikeB x y z d cs c = true ∧ c.at (d : Nat) < k)) ∧
        fr 3 = .ptr M.length 0 ∧ fr 6 = .ptr (M.length + 1) 0 ∧ fr 8 = .ptr (M.length + 2) 0 ∧ fr 9 = .ptr (M.length + 3) 0 ∧ fr 10 = .ptr (M.length + 4) 0 ∧ fr 11 = .ptr (M.length + 5) 0 ∧ fr 12 = .W (bs x y z P) ∧ fr 41 = .I (sideOf x y z (d : Nat)) ∧ fr 42 = .I k) (sideOf x y z (d : Nat)).toNat
        ⟨0, fun _ => false, by omega, Pre.app _ _, Live.new, Live.newj (j := 1) rfl, Live.newj (j := 2) rfl, Live.newj (j := 3) rfl, Live.newj (j := 4) rfl, Live.newj (j := 5) rfl, fun c hc => ⟨fun e => (by cases e), fun e => by have := (lyr_box hS hd hc).1; omega⟩, rfl, rfl, rfl, rfl, rfl, rfl, rfl, rfl, rfl⟩ ?_
      rintro m fr M' ⟨k, P, hk, hpre, b3, b6, b8, b9, b10, b11, hP, f3, f6, f8, f9, f10, f11, f12, f41, f42⟩
      simp (disch := omega) only [f3, f6, f8, f9, f10, f11, f12, f41, f42, ↓SXd, SXu, slBounds, ↓sop, ↓aop, ↓reduceIte, LV.cells, AOp.dst, LV.I, LV.B, LV.U, LV.S, LV.nil, Nat.reduceEqDiff, Nat.reduceAdd, Nat.reduceMul, Nat.reduceSub, Nat.reduceLeDiff, Nat.reduceBEq, Nat.reduceDiv, Nat.reduceMod, Int.reduceToNat, Int.reduceLT, Int.reduceLE, Int.reduceAdd, Int.reduceSub, Int.reduceMul, Int.reduceEq, Int.reduceNeg, reduceCtorEq, resV, resAll, ARes.ev, LV.flat, ite_true, ite_false, exists_eq_left', exists_eq_left, keyOf, implies_true, fillC, capOf]
      refine condC_dec (fun hlt => ?_) (fun hlt => ?_)
      rotate_left
      · have hks : (k : Int) = sideOf x y z (d : Nat) := by omega
        have hpe : pick x y z P = pick x y z (alikeB x y z d cs) := pick_congr hS fun c hc => by
          rw [Bool.eq_iff_iff, hP c hc, hks]
          exact ⟨fun e => e.1, fun e => ⟨e, (lyr_box hS hd hc).1.2⟩⟩
        have hml := b11.lt
        simp (disch := omega) only [f3, f6, f8, f9, f10, f11, f12, f41, f42, b9.cells, ↓SXd, SXu, slBounds, ↓sop, ↓aop, ↓reduceIte, LV.cells, AOp.dst, LV.I, LV.B, LV.U, LV.S, LV.nil, Nat.reduceEqDiff, Nat.reduceAdd, Nat.reduceMul, Nat.reduceSub, Nat.reduceLeDiff, Nat.reduceBEq, Nat.reduceDiv, Nat.reduceMod, Int.reduceToNat, Int.reduceLT, Int.reduceLE, Int.reduceAdd, Int.reduceSub, Int.reduceMul, Int.reduceEq, Int.reduceNeg, reduceCtorEq, resV, resAll, ARes.ev, LV.flat, ite_true, ite_false, exists_eq_left', exists_eq_left, keyOf, implies_true, fillC, capOf]
        refine callH_of (g_heap hS) ?_
        intro tn N2 htn hp2 hnr
        simp (disch := omega) only [f3, f6, f8, f9, f10, f11, f12, f41, f42, ↓SXd, SXu, slBounds, ↓sop, ↓aop, ↓reduceIte, LV.cells, AOp.dst, LV.I, LV.B, LV.U, LV.S, LV.nil, Nat.reduceEqDiff, Nat.reduceAdd, Nat.reduceMul, Nat.reduceSub, Nat.reduceLeDiff, Nat.reduceBEq, Nat.reduceDiv, Nat.reduceMod, Int.reduceToNat, Int.reduceLT, Int.reduceLE, Int.reduceAdd, Int.reduceSub, Int.reduceMul, Int.reduceEq, Int.reduceNeg, reduceCtorEq, resV, resAll, ARes.ev, LV.flat, ite_true, ite_false, exists_eq_left', exists_eq_left, keyOf, implies_true, fillC, capOf]
        rw [hpe] at hnr ⊢
        refine memK_box (b6.pre hp2) (by simp) fun N3 k1 k2 k3 => ?_
        have hN2 := hp2.1
        simp (disch := omega) only [f3, f6, f8, f9, f10, f11, f12, f41, f42, k2.cells, ↓SXd, SXu, slBounds, ↓sop, ↓aop, ↓reduceIte, LV.cells, AOp.dst, LV.I, LV.B, LV.U, LV.S, LV.nil, Nat.reduceEqDiff, Nat.reduceAdd, Nat.reduceMul, Nat.reduceSub, Nat.reduceLeDiff, Nat.reduceBEq, Nat.reduceDiv, Nat.reduceMod, Int.reduceToNat, Int.reduceLT, Int.reduceLE, Int.reduceAdd, Int.reduceSub, Int.reduceMul, Int.reduceEq, Int.reduceNeg, reduceCtorEq, resV, resAll, ARes.ev, LV.flat, ite_true, ite_false, exists_eq_left', exists_eq_left, keyOf, implies_true, fillC, capOf]
        exact ⟨_, rfl, SlC.of (live_step hnr (by omega) k3), Newer.of (by omega), pre_step (hpre.trans hp2) (by omega) (j := 0) k1 k3⟩
      have hks : 0 ≤ (k : Int) ∧ (k : Int) < sideOf x y z (d : Nat) := by omega
      have hml := b11.lt
      simp (disch := omega) only [f3, f6, f8, f9, f10, f11, f12, f41, f42, b3.app.cells, b8.app.cell, ↓SXd, SXu, slBounds, ↓sop, ↓aop, ↓reduceIte, LV.cells, AOp.dst, LV.I, LV.B, LV.U, LV.S, LV.nil, Nat.reduceEqDiff, Nat.reduceAdd, Nat.reduceMul, Nat.reduceSub, Nat.reduceLeDiff, Nat.reduceBEq, Nat.reduceDiv, Nat.reduceMod, Int.reduceToNat, Int.reduceLT, Int.reduceLE, Int.reduceAdd, Int.reduceSub, Int.reduceMul, Int.reduceEq, Int.reduceNeg, reduceCtorEq, resV, resAll, ARes.ev, LV.flat, ite_true, ite_false, exists_eq_left', exists_eq_left, keyOf, implies_true, fillC, capOf]
      refine callR_of (g_layer (h.pre hpre).app hH hd hks) ?_
      rintro _ N1 ⟨s, ur, uc, rfl, hp1, bR, bC⟩
      have h01 := layT_01 (x := x) (y := y) (z := z) (d := d) (cs := cs) (k := k)
      have hRl := rowsV_len (x := x) (y := y) (z := z) (d := d) (cs := cs) (k := k)
      have hCl := colsV_len (x := x) (y := y) (z := z) (d := d) (cs := cs) (k := k)
      have hfl := firstW_eq (d := d) (cs := cs) (k := k) hS
      have hRb : ∀ r ∈ rowsV x y z d cs k, 0 ≤ r ∧ r ≤ 1000 := fun r hr => by
        obtain ⟨row, r1, rfl⟩ := List.mem_map.1 hr
        have r2 := h01 row r1
        have r3 := litSum_bits r2.2
        unfold layN at r2
        omega
      have hCb : ∀ r ∈ colsV x y z d cs k, 0 ≤ r ∧ r ≤ 1000 := fun r hr => by
        have r3 := colsE_bound h01 r hr
        rw [layT_len] at r3
        omega
      have hft := g_firstTable (n := (colsV x y z d cs k).length) (R := rowsV x y z d cs k) (cols := colsV x y z d cs k) (M := N1) (by omega) (by omega) hRb bR.has bC.has rfl hCb (by
        rw [fill_tabs rfl (fun b hb => (hCb b hb).1) fun r hr => (hRb r hr).1, List.length_map]
        have h1 := tabsL_count (n := (colsV x y z d cs k).length) (rs := rowsV x y z d cs k) (cols := colsV x y z d cs k) rfl
        have h2 : 2 ^ (colsV x y z d cs k).length ≤ 2 ^ 4 := Nat.pow_le_pow_right (by omega) (by omega)
        have h3 : (2 ^ (colsV x y z d cs k).length) ^ (rowsV x y z d cs k).length ≤ (2 ^ 4) ^ (rowsV x y z d cs k).length := Nat.pow_le_pow_left h2 _
        have h4 : (2 ^ 4) ^ (rowsV x y z d cs k).length ≤ (2 ^ 4) ^ 4 := Nat.pow_le_pow_right (by omega) (by omega)
        omega)
      have hcl2 : (colsV x y z d cs k).length = layN x y z d := hCl
      rw [hcl2, hfl] at hft
      simp (disch := omega) only [f3, f6, f8, f9, f10, f11, f12, f41, f42, ↓SXd, SXu, slBounds, ↓sop, ↓aop, ↓reduceIte, LV.cells, AOp.dst, LV.I, LV.B, LV.U, LV.S, LV.nil, Nat.reduceEqDiff, Nat.reduceAdd, Nat.reduceMul, Nat.reduceSub, Nat.reduceLeDiff, Nat.reduceBEq, Nat.reduceDiv, Nat.reduceMod, Int.reduceToNat, Int.reduceLT, Int.reduceLE, Int.reduceAdd, Int.reduceSub, Int.reduceMul, Int.reduceEq, Int.reduceNeg, reduceCtorEq, resV, resAll, ARes.ev, LV.flat, ite_true, ite_false, exists_eq_left', exists_eq_left, keyOf, implies_true, fillC, capOf]
      rw [hcl2]
      refine callR_of hft ?_
      rintro _ N2 ⟨rfl, hp2⟩
      have hpA : Pre M' N2 := ((Pre.app _ _).trans hp1).trans hp2
      have b13 : Live N2 M'.length (.row [.I (k : Nat)] true 0) := (Live.new.pre hp1).pre hp2
      have hAl := hpA.1
      have hb13 := b13.lt
      have c9 := b9.pre hpA
      simp (disch := omega) only [f3, f6, f8, f9, f10, f11, f12, f41, f42, c9.app.cells, ↓SXd, SXu, slBounds, ↓sop, ↓aop, ↓reduceIte, LV.cells, AOp.dst, LV.I, LV.B, LV.U, LV.S, LV.nil, Nat.reduceEqDiff, Nat.reduceAdd, Nat.reduceMul, Nat.reduceSub, Nat.reduceLeDiff, Nat.reduceBEq, Nat.reduceDiv, Nat.reduceMod, Int.reduceToNat, Int.reduceLT, Int.reduceLE, Int.reduceAdd, Int.reduceSub, Int.reduceMul, Int.reduceEq, Int.reduceNeg, reduceCtorEq, resV, resAll, ARes.ev, LV.flat, ite_true, ite_false, exists_eq_left', exists_eq_left, keyOf, implies_true, fillC, capOf]
      have hth := g_those hS (p := fun c => decide (c.at (d : Nat) = k) && (setT (firstF x y z d cs k).flatten).getLsbD (c.at (dirA d) * sideOf x y z (dirB d) + c.at (dirB d)).toNat) (f := F.impl_FirstAlike_1) (caps := [(M.length + 2, 0), (M'.length, 0), (N2.length, 0), (M.length + 4, 0), (M.length + 3, 0), (M.length + 5, 0)]) (M := N2 ++ [some (.row [.W (setT (firstF x y z d cs k).flatten)] true 0)]) fun Mx hpx i hi => by
        have hpy := (hpA.trans (Pre.app _ _)).trans hpx
        exact g_alike1 hS hd (cellAt_in hS (by omega) (by have := vol_cast hS; omega)).1 (b8.pre hpy) ((b13.app).pre hpx) (Live.new.pre hpx) (b10.pre hpy) (b9.pre hpy) (b11.pre hpy)
      refine callK_of hth ?_
      simp (disch := omega) only [f3, f6, f8, f9, f10, f11, f12, f41, f42, ↓SXd, SXu, slBounds, ↓sop, ↓aop, ↓reduceIte, LV.cells, AOp.dst, LV.I, LV.B, LV.U, LV.S, LV.nil, Nat.reduceEqDiff, Nat.reduceAdd, Nat.reduceMul, Nat.reduceSub, Nat.reduceLeDiff, Nat.reduceBEq, Nat.reduceDiv, Nat.reduceMod, Int.reduceToNat, Int.reduceLT, Int.reduceLE, Int.reduceAdd, Int.reduceSub, Int.reduceMul, Int.reduceEq, Int.reduceNeg, reduceCtorEq, resV, resAll, ARes.ev, LV.flat, ite_true, ite_false, exists_eq_left', exists_eq_left, keyOf, implies_true, fillC, capOf]
      rw [bs_or hS]
      refine ⟨m - 1, by omega, k + 1, _, by omega, (hpre.trans hpA).app', (b3.pre hpA).app, (b6.pre hpA).app, (b8.pre hpA).app, c9.app, (b10.pre hpA).app, (b11.pre hpA).app, fun c hc => ?_, f3, f6, f8, f9, f10, f11, rfl, f41, eqI (natI _)⟩
      show (P c || (decide (c.at (d : Nat) = k) && (setT (firstF x y z d cs k).flatten).getLsbD (c.at (dirA d) * sideOf x y z (dirB d) + c.at (dirB d)).toNat)) = true ↔ _
      rw [Bool.or_eq_true, hP c hc, Bool.and_eq_true, decide_eq_true_iff]
      constructor
      · rintro (e | ⟨e1, e2⟩)
        · exact ⟨e.1, by omega⟩
        · rw [firstBit hS hd hc e1] at e2
          exact ⟨e2, by omega⟩
      · rintro ⟨e1, e2⟩
        by_cases e3 : c.at (d : Nat) = k
        · exact .inr ⟨e3, by rw [firstBit hS hd hc e3]; exact e1⟩
        · exact .inl ⟨e1, by omega⟩
    · rw [if_neg fun h => hab h.2, decide_eq_false hab]
      simp (disch := omega) only [fillC, splice, ↓SXd, SXu, slBounds, ↓sop, ↓aop, ↓reduceIte, LV.cells, AOp.dst, LV.I, LV.B, LV.U, LV.S, LV.nil, Nat.reduceEqDiff, Nat.reduceAdd, Nat.reduceMul, Nat.reduceSub, Nat.reduceLeDiff, Nat.reduceBEq, Nat.reduceDiv, Nat.reduceMod, Int.reduceToNat, Int.reduceLT, Int.reduceLE, Int.reduceAdd, Int.reduceSub, Int.reduceMul, Int.reduceEq, Int.reduceNeg, reduceCtorEq, resV, resAll, ARes.ev, LV.flat, ite_true, ite_false, exists_eq_left', exists_eq_left, keyOf, implies_true, fillC, capOf]
      exact ⟨_, rfl, SlC.nil, Newer.nil, Pre.app _ _⟩
  · rw [if_neg fun h => hH h.1, decide_eq_false hH]
    simp (disch := omega) only [fillC, splice, ↓SXd, SXu, slBounds, ↓sop, ↓aop, ↓reduceIte, LV.cells, AOp.dst, LV.I, LV.B, LV.U, LV.S, LV.nil, Nat.reduceEqDiff, Nat.reduceAdd, Nat.reduceMul, Nat.reduceSub, Nat.reduceLeDiff, Nat.reduceBEq, Nat.reduceDiv, Nat.reduceMod, Int.reduceToNat, Int.reduceLT, Int.reduceLE, Int.reduceAdd, Int.reduceSub, Int.reduceMul, Int.reduceEq, Int.reduceNeg, reduceCtorEq, resV, resAll, ARes.ev, LV.flat, ite_true, ite_false, exists_eq_left', exists_eq_left, keyOf, implies_true, fillC, capOf]
    exact ⟨_, rfl, SlC.nil, Newer.nil, Pre.app _ _⟩
end Go.Ab

/- The law of FirstAlike. -/
namespace Go.Ab
open Go
set_option linter.unusedSimpArgs false
set_option linter.unusedVariables false
set_option maxRecDepth 20000

theorem l_FirstAlike {x y z a b : Int} {t o : Nat} {cs : List Cell} {M : Mem} (h : Tri M t o cs) (hn0 : cs.length ≤ 9223372036854775807) :
    CallsR PG F.laws_FnExactFirstAlike [.agg [.I x, .I y, .I z, .ref t o cs.length], .I a, .I b] M fun v _ => v = .B true := by
  have ht := h.lt
  refine callsR_run K.laws_FnExactFirstAlike rfl ?_
  simp (disch := omega) only [C.laws_FnExactFirstAlike, ↓SXd, SXu, slBounds, ↓sop, ↓aop, ↓reduceIte, LV.cells, AOp.dst, LV.I, LV.B, LV.U, LV.S, LV.nil, Nat.reduceEqDiff, Nat.reduceAdd, Nat.reduceMul, Nat.reduceSub, Nat.reduceLeDiff, Nat.reduceBEq, Nat.reduceDiv, Nat.reduceMod, Int.reduceToNat, Int.reduceLT, Int.reduceLE, Int.reduceAdd, Int.reduceSub, Int.reduceMul, Int.reduceEq, Int.reduceNeg, reduceCtorEq, resV, resAll, ARes.ev, LV.flat, ite_true, ite_false, exists_eq_left', exists_eq_left, keyOf, implies_true, fillC, capOf]
  refine callK_of (h_szHeap (by omega) (by omega) (by omega)) ?_
  simp (disch := omega) only [↓SXd, SXu, slBounds, ↓sop, ↓aop, ↓reduceIte, LV.cells, AOp.dst, LV.I, LV.B, LV.U, LV.S, LV.nil, Nat.reduceEqDiff, Nat.reduceAdd, Nat.reduceMul, Nat.reduceSub, Nat.reduceLeDiff, Nat.reduceBEq, Nat.reduceDiv, Nat.reduceMod, Int.reduceToNat, Int.reduceLT, Int.reduceLE, Int.reduceAdd, Int.reduceSub, Int.reduceMul, Int.reduceEq, Int.reduceNeg, reduceCtorEq, resV, resAll, ARes.ev, LV.flat, ite_true, ite_false, exists_eq_left', exists_eq_left, keyOf, implies_true, fillC, capOf]
  by_cases hl : (1048576 : Int) < (cs.length : Nat)
  · rw [if_pos hl]
    simp (disch := omega) only [Int.reduceLT, ↓SXd, SXu, slBounds, ↓sop, ↓aop, ↓reduceIte, LV.cells, AOp.dst, LV.I, LV.B, LV.U, LV.S, LV.nil, Nat.reduceEqDiff, Nat.reduceAdd, Nat.reduceMul, Nat.reduceSub, Nat.reduceLeDiff, Nat.reduceBEq, Nat.reduceDiv, Nat.reduceMod, Int.reduceToNat, Int.reduceLT, Int.reduceLE, Int.reduceAdd, Int.reduceSub, Int.reduceMul, Int.reduceEq, Int.reduceNeg, reduceCtorEq, resV, resAll, ARes.ev, LV.flat, ite_true, ite_false, exists_eq_left', exists_eq_left, keyOf, implies_true, fillC, capOf]
    rfl
  · rw [if_neg hl]
    have hn : cs.length ≤ 1000000000 := by omega
    have hrl := alikeOf_len (x := x) (y := y) (z := z) (cs := cs) (a := a) (b := b)
    have heqR : ∀ {v v' : LV} {M : Mem}, CellsV M v ((alikeOf x y z cs a b).getD Hp.none).cs → CellsV M v' ((alikeOf x y z cs a b).getD Hp.none).cs → CallsTo PG F.laws_eqHeap [.agg [.I ((alikeOf x y z cs a b).getD Hp.none).x, .I ((alikeOf x y z cs a b).getD Hp.none).y, .I ((alikeOf x y z cs a b).getD Hp.none).z, v], .agg [.I ((alikeOf x y z cs a b).getD Hp.none).x, .I ((alikeOf x y z cs a b).getD Hp.none).y, .I ((alikeOf x y z cs a b).getD Hp.none).z, v']] M (.B true) M := fun {v v' M} h1 h2 => by
      have := h_eqHeapV (x := ((alikeOf x y z cs a b).getD Hp.none).x) (y := ((alikeOf x y z cs a b).getD Hp.none).y) (z := ((alikeOf x y z cs a b).getD Hp.none).z) (x' := ((alikeOf x y z cs a b).getD Hp.none).x) (y' := ((alikeOf x y z cs a b).getD Hp.none).y) (z' := ((alikeOf x y z cs a b).getD Hp.none).z) h1 h2 hrl hrl
      rwa [decide_eq_true (by simp)] at this
    simp (disch := omega) only [↓SXd, SXu, slBounds, ↓sop, ↓aop, ↓reduceIte, LV.cells, AOp.dst, LV.I, LV.B, LV.U, LV.S, LV.nil, Nat.reduceEqDiff, Nat.reduceAdd, Nat.reduceMul, Nat.reduceSub, Nat.reduceLeDiff, Nat.reduceBEq, Nat.reduceDiv, Nat.reduceMod, Int.reduceToNat, Int.reduceLT, Int.reduceLE, Int.reduceAdd, Int.reduceSub, Int.reduceMul, Int.reduceEq, Int.reduceNeg, reduceCtorEq, resV, resAll, ARes.ev, LV.flat, ite_true, ite_false, exists_eq_left', exists_eq_left, keyOf, implies_true, fillC, capOf]
    refine callK_of (h_toHeap h.app hn) ?_
    simp (disch := omega) only [↓SXd, SXu, slBounds, ↓sop, ↓aop, ↓reduceIte, LV.cells, AOp.dst, LV.I, LV.B, LV.U, LV.S, LV.nil, Nat.reduceEqDiff, Nat.reduceAdd, Nat.reduceMul, Nat.reduceSub, Nat.reduceLeDiff, Nat.reduceBEq, Nat.reduceDiv, Nat.reduceMod, Int.reduceToNat, Int.reduceLT, Int.reduceLE, Int.reduceAdd, Int.reduceSub, Int.reduceMul, Int.reduceEq, Int.reduceNeg, reduceCtorEq, resV, resAll, ARes.ev, LV.flat, ite_true, ite_false, exists_eq_left', exists_eq_left, keyOf, implies_true, fillC, capOf]
    refine callR_of (h_sFirstAlike (Live.newj (j := 1) (b := .row (triL cs) true 3) rfl) hn) ?_
    rintro _ N1 ⟨w, rfl, hw, hwn, hp1⟩
    simp (disch := omega) only [↓SXd, SXu, slBounds, ↓sop, ↓aop, ↓reduceIte, LV.cells, AOp.dst, LV.I, LV.B, LV.U, LV.S, LV.nil, Nat.reduceEqDiff, Nat.reduceAdd, Nat.reduceMul, Nat.reduceSub, Nat.reduceLeDiff, Nat.reduceBEq, Nat.reduceDiv, Nat.reduceMod, Int.reduceToNat, Int.reduceLT, Int.reduceLE, Int.reduceAdd, Int.reduceSub, Int.reduceMul, Int.reduceEq, Int.reduceNeg, reduceCtorEq, resV, resAll, ARes.ev, LV.flat, ite_true, ite_false, exists_eq_left', exists_eq_left, keyOf, implies_true, fillC, capOf]
    have b1 : Live (N1 ++ [some (((alikeOf x y z cs a b).getD Hp.none).row w)]) M.length (.row [.I x, .I y, .I z, .ref t o cs.length] true 0) := (Live.new.pre hp1).app
    have w1 : Live (N1 ++ [some (((alikeOf x y z cs a b).getD Hp.none).row w)]) N1.length (((alikeOf x y z cs a b).getD Hp.none).row w) := Live.new
    have hl1 : M.length < N1.length := (Live.new.pre hp1 : Live N1 M.length (.row [.I x, .I y, .I z, .ref t o cs.length] true 0)).lt
    have hw1 := hw.pre (Pre.app N1 [some (((alikeOf x y z cs a b).getD Hp.none).row w)])
    have hM1 : Pre M (N1 ++ [some (((alikeOf x y z cs a b).getD Hp.none).row w)]) := ((Pre.app _ _).trans hp1).trans (Pre.app _ _)
    have hlW := w1.lt
    have how := hw.older
    clear hw hp1
    generalize hW : N1 ++ [some (((alikeOf x y z cs a b).getD Hp.none).row w)] = W at *
    simp (disch := omega) only [b1.cells, ↓SXd, SXu, slBounds, ↓sop, ↓aop, ↓reduceIte, LV.cells, AOp.dst, LV.I, LV.B, LV.U, LV.S, LV.nil, Nat.reduceEqDiff, Nat.reduceAdd, Nat.reduceMul, Nat.reduceSub, Nat.reduceLeDiff, Nat.reduceBEq, Nat.reduceDiv, Nat.reduceMod, Int.reduceToNat, Int.reduceLT, Int.reduceLE, Int.reduceAdd, Int.reduceSub, Int.reduceMul, Int.reduceEq, Int.reduceNeg, reduceCtorEq, resV, resAll, ARes.ev, LV.flat, ite_true, ite_false, exists_eq_left', exists_eq_left, keyOf, implies_true, fillC, capOf]
    refine callK_of (h_toHeap (h.pre hM1) hn) ?_
    simp (disch := omega) only [b1.cells, ↓SXd, SXu, slBounds, ↓sop, ↓aop, ↓reduceIte, LV.cells, AOp.dst, LV.I, LV.B, LV.U, LV.S, LV.nil, Nat.reduceEqDiff, Nat.reduceAdd, Nat.reduceMul, Nat.reduceSub, Nat.reduceLeDiff, Nat.reduceBEq, Nat.reduceDiv, Nat.reduceMod, Int.reduceToNat, Int.reduceLT, Int.reduceLE, Int.reduceAdd, Int.reduceSub, Int.reduceMul, Int.reduceEq, Int.reduceNeg, reduceCtorEq, resV, resAll, ARes.ev, LV.flat, ite_true, ite_false, exists_eq_left', exists_eq_left, keyOf, implies_true, fillC, capOf]
    refine callR_of (g_FirstAlike (Live.newj (M := W) (j := 0) (b := .row (triL cs) true 3) rfl) hn) ?_
    rintro _ N2 ⟨g, rfl, hg, hgn, hp2⟩
    simp (disch := omega) only [↓SXd, SXu, slBounds, ↓sop, ↓aop, ↓reduceIte, LV.cells, AOp.dst, LV.I, LV.B, LV.U, LV.S, LV.nil, Nat.reduceEqDiff, Nat.reduceAdd, Nat.reduceMul, Nat.reduceSub, Nat.reduceLeDiff, Nat.reduceBEq, Nat.reduceDiv, Nat.reduceMod, Int.reduceToNat, Int.reduceLT, Int.reduceLE, Int.reduceAdd, Int.reduceSub, Int.reduceMul, Int.reduceEq, Int.reduceNeg, reduceCtorEq, resV, resAll, ARes.ev, LV.flat, ite_true, ite_false, exists_eq_left', exists_eq_left, keyOf, implies_true, fillC, capOf]
    have hp12 : Pre W (N2 ++ [some (((alikeOf x y z cs a b).getD Hp.none).row g)]) := ((Pre.app _ _).trans hp2).trans (Pre.app _ _)
    have b2 := b1.pre hp12
    have w2 := w1.pre hp12
    have r2 : Live (N2 ++ [some (((alikeOf x y z cs a b).getD Hp.none).row g)]) W.length (.row (triL cs) true 3) := ((Live.newj (j := 0) rfl).pre hp2).app
    have x2 : Live (N2 ++ [some (((alikeOf x y z cs a b).getD Hp.none).row g)]) (W.length + 1) (.row [.I x, .I y, .I z, .ref W.length 0 cs.length] true 0) := ((Live.newj (j := 1) rfl).pre hp2).app
    have g2 : Live (N2 ++ [some (((alikeOf x y z cs a b).getD Hp.none).row g)]) N2.length (((alikeOf x y z cs a b).getD Hp.none).row g) := Live.new
    have hw2 := hw1.pre hp12
    have hg2 := hg.pre (Pre.app N2 [some (((alikeOf x y z cs a b).getD Hp.none).row g)])
    have hgo2 := hg.older
    have hl2 : W.length + 1 < N2.length := ((Live.newj (j := 1) rfl).pre hp2 : Live N2 (W.length + 1) (.row [.I x, .I y, .I z, .ref W.length 0 cs.length] true 0)).lt
    clear hg hp2
    generalize hG : N2 ++ [some (((alikeOf x y z cs a b).getD Hp.none).row g)] = G at *
    simp (disch := omega) only [g2.cells, w2.cells, ↓SXd, SXu, slBounds, ↓sop, ↓aop, ↓reduceIte, LV.cells, AOp.dst, LV.I, LV.B, LV.U, LV.S, LV.nil, Nat.reduceEqDiff, Nat.reduceAdd, Nat.reduceMul, Nat.reduceSub, Nat.reduceLeDiff, Nat.reduceBEq, Nat.reduceDiv, Nat.reduceMod, Int.reduceToNat, Int.reduceLT, Int.reduceLE, Int.reduceAdd, Int.reduceSub, Int.reduceMul, Int.reduceEq, Int.reduceNeg, reduceCtorEq, resV, resAll, ARes.ev, LV.flat, ite_true, ite_false, exists_eq_left', exists_eq_left, keyOf, implies_true, fillC, capOf]
    refine callK_of (heqR hg2.v hw2.v) ?_
    simp (disch := omega) only [b2.cells, x2.cells, ↓SXd, SXu, slBounds, ↓sop, ↓aop, ↓reduceIte, LV.cells, AOp.dst, LV.I, LV.B, LV.U, LV.S, LV.nil, Nat.reduceEqDiff, Nat.reduceAdd, Nat.reduceMul, Nat.reduceSub, Nat.reduceLeDiff, Nat.reduceBEq, Nat.reduceDiv, Nat.reduceMod, Int.reduceToNat, Int.reduceLT, Int.reduceLE, Int.reduceAdd, Int.reduceSub, Int.reduceMul, Int.reduceEq, Int.reduceNeg, reduceCtorEq, resV, resAll, ARes.ev, LV.flat, ite_true, ite_false, exists_eq_left', exists_eq_left, keyOf, implies_true, fillC, capOf]
    refine callK_of (h_toHeap (h.pre (hM1.trans hp12)) hn) ?_
    simp (disch := omega) only [b2.cells, x2.cells, ↓SXd, SXu, slBounds, ↓sop, ↓aop, ↓reduceIte, LV.cells, AOp.dst, LV.I, LV.B, LV.U, LV.S, LV.nil, Nat.reduceEqDiff, Nat.reduceAdd, Nat.reduceMul, Nat.reduceSub, Nat.reduceLeDiff, Nat.reduceBEq, Nat.reduceDiv, Nat.reduceMod, Int.reduceToNat, Int.reduceLT, Int.reduceLE, Int.reduceAdd, Int.reduceSub, Int.reduceMul, Int.reduceEq, Int.reduceNeg, reduceCtorEq, resV, resAll, ARes.ev, LV.flat, ite_true, ite_false, exists_eq_left', exists_eq_left, keyOf, implies_true, fillC, capOf]
    have he := h_eqHeap (x := x) (y := y) (z := z) (x' := x) (y' := y) (z' := z) (M := G ++ [some (.row (triL cs) true 3)]) (Live.app r2).has (Live.newj (M := G) (L := [some (.row (triL cs) true 3)]) (j := 0) rfl).has hn hn
    rw [decide_eq_true (by simp)] at he
    refine callK_of he ?_
    simp (disch := omega) only [x2.app.cells, ↓SXd, SXu, slBounds, ↓sop, ↓aop, ↓reduceIte, LV.cells, AOp.dst, LV.I, LV.B, LV.U, LV.S, LV.nil, Nat.reduceEqDiff, Nat.reduceAdd, Nat.reduceMul, Nat.reduceSub, Nat.reduceLeDiff, Nat.reduceBEq, Nat.reduceDiv, Nat.reduceMod, Int.reduceToNat, Int.reduceLT, Int.reduceLE, Int.reduceAdd, Int.reduceSub, Int.reduceMul, Int.reduceEq, Int.reduceNeg, reduceCtorEq, resV, resAll, ARes.ev, LV.flat, ite_true, ite_false, exists_eq_left', exists_eq_left, keyOf, implies_true, fillC, capOf]
    refine callR_of (h_markHeap (SlC.of r2.app) hn (by omega)) ?_
    rintro _ N4 ⟨rfl, _, hN4a, hN4b⟩
    have hp4 : PreV (.ref W.length 0 cs.length) (G ++ [some (.row (triL cs) true 3)]) N4 := ⟨hN4a, hN4b⟩
    have hgo : Apart (.ref W.length 0 cs.length) g := Apart.symm (Newer.apart (M := W ++ [some (.row (triL cs) true 3)]) (hgn.mono ((Pre.app _ _).trans (by rw [List.append_assoc]; exact Pre.refl _))) fun _ _ _ e => by cases e; simp)
    have hwo : Apart (.ref W.length 0 cs.length) w := Newer.apart (M := W) (Newer.of (Nat.le_refl _)) hw1.older
    have hg4 := hp4.slC (hg2.pre (Pre.app _ _)) hgo
    have hw4 := hp4.slC (hw2.pre (Pre.app _ _)) hwo
    have b4 := hp4.live b2.app (by show M.length ≠ W.length; omega)
    have w4 := hp4.live w2.app (by show N1.length ≠ W.length; omega)
    have g4 := hp4.live g2.app (by show N2.length ≠ W.length; omega)
    have hM4 : Pre M N4 := hp4.pre ((hM1.trans hp12).trans (Pre.app _ _)) (Newer.of (M := M) (t := W.length) (by omega))
    have hk : ¬ (1 + 3 * (cs.length : Int) < 0) := by omega
    simp (disch := omega) only [hk, g4.cells, w4.cells, ↓SXd, SXu, slBounds, ↓sop, ↓aop, ↓reduceIte, LV.cells, AOp.dst, LV.I, LV.B, LV.U, LV.S, LV.nil, Nat.reduceEqDiff, Nat.reduceAdd, Nat.reduceMul, Nat.reduceSub, Nat.reduceLeDiff, Nat.reduceBEq, Nat.reduceDiv, Nat.reduceMod, Int.reduceToNat, Int.reduceLT, Int.reduceLE, Int.reduceAdd, Int.reduceSub, Int.reduceMul, Int.reduceEq, Int.reduceNeg, reduceCtorEq, resV, resAll, ARes.ev, LV.flat, ite_true, ite_false, exists_eq_left', exists_eq_left, keyOf, implies_true, fillC, capOf]
    refine callK_of (heqR hg4.v hw4.v) ?_
    simp (disch := omega) only [g4.cells, ↓SXd, SXu, slBounds, ↓sop, ↓aop, ↓reduceIte, LV.cells, AOp.dst, LV.I, LV.B, LV.U, LV.S, LV.nil, Nat.reduceEqDiff, Nat.reduceAdd, Nat.reduceMul, Nat.reduceSub, Nat.reduceLeDiff, Nat.reduceBEq, Nat.reduceDiv, Nat.reduceMod, Int.reduceToNat, Int.reduceLT, Int.reduceLE, Int.reduceAdd, Int.reduceSub, Int.reduceMul, Int.reduceEq, Int.reduceNeg, reduceCtorEq, resV, resAll, ARes.ev, LV.flat, ite_true, ite_false, exists_eq_left', exists_eq_left, keyOf, implies_true, fillC, capOf]
    refine callR_of (h_markHeap hg4 hrl (by omega)) ?_
    rintro _ N5 ⟨rfl, hg5, hN5a, hN5b⟩
    have hp5 : PreV g N4 N5 := ⟨hN5a, hN5b⟩
    have hgW : Newer W g := hgn.mono (Pre.app _ _)
    have hgw : Apart g w := Newer.apart hgW hw1.older
    have hw5 := hp5.slC hw4 hgw
    have hgM : Newer M g := hgW.mono hM1
    have hM5 := hp5.pre hM4 hgM
    have b5 := hp5.live b4 (hgW _ (by omega))
    have w5 := hp5.live w4 (hgW _ (by omega))
    have g5 := hp5.live g4 (hgo2.off (Nat.le_refl _))
    have hk2 : ¬ (1 + 3 * (((alikeOf x y z cs a b).getD Hp.none).cs.length : Int) < 0) := by omega
    simp (disch := omega) only [g5.cells, ↓SXd, SXu, slBounds, ↓sop, ↓aop, ↓reduceIte, LV.cells, AOp.dst, LV.I, LV.B, LV.U, LV.S, LV.nil, Nat.reduceEqDiff, Nat.reduceAdd, Nat.reduceMul, Nat.reduceSub, Nat.reduceLeDiff, Nat.reduceBEq, Nat.reduceDiv, Nat.reduceMod, Int.reduceToNat, Int.reduceLT, Int.reduceLE, Int.reduceAdd, Int.reduceSub, Int.reduceMul, Int.reduceEq, Int.reduceNeg, reduceCtorEq, resV, resAll, ARes.ev, LV.flat, ite_true, ite_false, exists_eq_left', exists_eq_left, keyOf, implies_true, fillC, capOf]
    refine callK_of (h_heldHeap hg5.v hrl (by omega)) ?_
    simp (disch := omega) only [b5.cells, hk2, ↓SXd, SXu, slBounds, ↓sop, ↓aop, ↓reduceIte, LV.cells, AOp.dst, LV.I, LV.B, LV.U, LV.S, LV.nil, Nat.reduceEqDiff, Nat.reduceAdd, Nat.reduceMul, Nat.reduceSub, Nat.reduceLeDiff, Nat.reduceBEq, Nat.reduceDiv, Nat.reduceMod, Int.reduceToNat, Int.reduceLT, Int.reduceLE, Int.reduceAdd, Int.reduceSub, Int.reduceMul, Int.reduceEq, Int.reduceNeg, reduceCtorEq, resV, resAll, ARes.ev, LV.flat, ite_true, ite_false, exists_eq_left', exists_eq_left, keyOf, implies_true, fillC, capOf]
    refine callK_of (h_toHeap (h.pre hM5) hn) ?_
    simp (disch := omega) only [↓SXd, SXu, slBounds, ↓sop, ↓aop, ↓reduceIte, LV.cells, AOp.dst, LV.I, LV.B, LV.U, LV.S, LV.nil, Nat.reduceEqDiff, Nat.reduceAdd, Nat.reduceMul, Nat.reduceSub, Nat.reduceLeDiff, Nat.reduceBEq, Nat.reduceDiv, Nat.reduceMod, Int.reduceToNat, Int.reduceLT, Int.reduceLE, Int.reduceAdd, Int.reduceSub, Int.reduceMul, Int.reduceEq, Int.reduceNeg, reduceCtorEq, resV, resAll, ARes.ev, LV.flat, ite_true, ite_false, exists_eq_left', exists_eq_left, keyOf, implies_true, fillC, capOf]
    refine callR_of (g_FirstAlike (Live.newj (M := N5) (j := 0) (b := .row (triL cs) true 3) rfl) hn) ?_
    rintro _ N6 ⟨g6, rfl, hg6, hgn6, hp6⟩
    have hp56 : Pre N5 (N6 ++ [some (((alikeOf x y z cs a b).getD Hp.none).row g6)]) := ((Pre.app _ _).trans hp6).trans (Pre.app _ _)
    have w6 := w5.pre hp56
    have g6' := g5.pre hp56
    have hg6' := hg6.pre (Pre.app N6 [some (((alikeOf x y z cs a b).getD Hp.none).row g6)])
    simp (disch := omega) only [w6.cells, (Live.new (M := N6) (b := ((alikeOf x y z cs a b).getD Hp.none).row g6)).cells, ↓SXd, SXu, slBounds, ↓sop, ↓aop, ↓reduceIte, LV.cells, AOp.dst, LV.I, LV.B, LV.U, LV.S, LV.nil, Nat.reduceEqDiff, Nat.reduceAdd, Nat.reduceMul, Nat.reduceSub, Nat.reduceLeDiff, Nat.reduceBEq, Nat.reduceDiv, Nat.reduceMod, Int.reduceToNat, Int.reduceLT, Int.reduceLE, Int.reduceAdd, Int.reduceSub, Int.reduceMul, Int.reduceEq, Int.reduceNeg, reduceCtorEq, resV, resAll, ARes.ev, LV.flat, ite_true, ite_false, exists_eq_left', exists_eq_left, keyOf, implies_true, fillC, capOf]
    refine callK_of (heqR hg6'.v (hw5.pre hp56).v) ?_
    simp (disch := omega) only [g6'.cells, ↓SXd, SXu, slBounds, ↓sop, ↓aop, ↓reduceIte, LV.cells, AOp.dst, LV.I, LV.B, LV.U, LV.S, LV.nil, Nat.reduceEqDiff, Nat.reduceAdd, Nat.reduceMul, Nat.reduceSub, Nat.reduceLeDiff, Nat.reduceBEq, Nat.reduceDiv, Nat.reduceMod, Int.reduceToNat, Int.reduceLT, Int.reduceLE, Int.reduceAdd, Int.reduceSub, Int.reduceMul, Int.reduceEq, Int.reduceNeg, reduceCtorEq, resV, resAll, ARes.ev, LV.flat, ite_true, ite_false, exists_eq_left', exists_eq_left, keyOf, implies_true, fillC, capOf]
    refine callK_of (h_heldHeap (hg5.pre hp56).v hrl (by omega)) ?_
    simp (disch := omega) only [hk2, ↓SXd, SXu, slBounds, ↓sop, ↓aop, ↓reduceIte, LV.cells, AOp.dst, LV.I, LV.B, LV.U, LV.S, LV.nil, Nat.reduceEqDiff, Nat.reduceAdd, Nat.reduceMul, Nat.reduceSub, Nat.reduceLeDiff, Nat.reduceBEq, Nat.reduceDiv, Nat.reduceMod, Int.reduceToNat, Int.reduceLT, Int.reduceLE, Int.reduceAdd, Int.reduceSub, Int.reduceMul, Int.reduceEq, Int.reduceNeg, reduceCtorEq, resV, resAll, ARes.ev, LV.flat, ite_true, ite_false, exists_eq_left', exists_eq_left, keyOf, implies_true, fillC, capOf]
    rfl
end Go.Ab
