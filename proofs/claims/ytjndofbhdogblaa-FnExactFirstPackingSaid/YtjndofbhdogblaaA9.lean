/- Parts of the proof of FnExactFirstPackingSaid: Zg Zh Zi Zj Zk C_Zl K_Zl Zl Zm LFirstPacking. -/
import Derived.Test.YtjndofbhdogblaaA7
import Derived.Test.YtjndofbhdogblaaA4
import Derived.Test.YtjndofbhdogblaaA8
import Derived.Test.YtjndofbhdogblaaA3
import Derived.Test.YtjndofbhdogblaaProg
import Derived.KernelRfl
import Derived.Test.YtjndofbhdogblaaA5
set_option linter.all false
/- Contracts: the reference's search for packings. -/
namespace Go.Ab
open Go
set_option linter.unusedSimpArgs false
set_option linter.unusedVariables false
set_option maxRecDepth 20000

def FndRes (M : Mem) (q t1 : Nat) (P0 : List Int × Nat) (v : LV) (N : Mem) : Prop := ∃ t, v = .agg [.ref t 0 P0.1.length, .I P0.2] ∧ Live N t (.row (intL P0.1) true 1) ∧ (t = t1 ∨ t = q ∨ M.length ≤ t) ∧ Pre M N
section
variable {x y z : Int} {t o u : Nat} {cs : List Cell} {L : List (List Cell)} {once : Bool} (hA : AskOK x y z cs L)
include hA
theorem h_l9Search : ∀ (f : Nat) {S : List Nat} {xs : List Int} {q t1 : Nat} {P0 : List Int × Nat} {M : Mem}, S.length ≤ f → Lacks L.length xs S → xs.length = vol x y z → Tri M t o cs → Pcs M u L → Live M q (.row (intL xs) true 1) → Live M t1 (.row (intL P0.1) true 1) → (once = true → P0.2 = 0) → P0.2 + (packs x y z cs L f xs).length ≤ 1000000000 →
    CallsR PG F.spec_l9Search [.agg [.I x, .I y, .I z, .ref t o cs.length], .ref u 0 L.length, .ref q 0 xs.length, .B once, .agg [.ref t1 0 P0.1.length, .I P0.2]] M (FndRes M q t1 (fndP P0 (selP once (packs x y z cs L f xs)))) := by
  have hH := hA.2.1
  have hS := hH.1
  have hv := vol_cast hS
  have hcn := hH.len
  have hL8 := hA.2.2
  have hcl : (cellsOf x y z).length = vol x y z := by simp [cellsOf]
  have hce : ∀ i, i < vol x y z → (cellsOf x y z).getD i default = cellAt y z i := fun i hi => by simp [cellsOf, hi]
  intro f
  induction f using Nat.strongRecOn with
  | ind f ih =>
  intro S xs q t1 P0 M hSf hSl hxn h hP hq ht1 hz hb
  have ht := h.lt
  have hql := hq.lt
  have ht1l := ht1.lt
  rw [packs_eq] at hb ⊢
  refine callsR_run K.spec_l9Search rfl ?_
  simp (disch := omega) only [C.spec_l9Search, ↓SXd, SXu, slBounds, ↓sop, ↓aop, ↓reduceIte, LV.cells, AOp.dst, LV.I, LV.B, LV.U, LV.S, LV.nil, Nat.reduceEqDiff, Nat.reduceAdd, Nat.reduceMul, Nat.reduceSub, Nat.reduceLeDiff, Nat.reduceBEq, Nat.reduceDiv, Nat.reduceMod, Int.reduceToNat, Int.reduceLT, Int.reduceLE, Int.reduceAdd, Int.reduceSub, Int.reduceMul, Int.reduceEq, Int.reduceNeg, reduceCtorEq, resV, resAll, ARes.ev, LV.flat, ite_true, ite_false, exists_eq_left', exists_eq_left, keyOf, implies_true, fillC, capOf]
  refine ev_loop (fun m fr M' => ∃ i : Nat, i + m = xs.length ∧ M' = M ++ [some (.row [.I x, .I y, .I z, .ref t o cs.length] true 0), some (.row [.ref t1 0 P0.1.length, .I P0.2] true 0), some (.row [.val (.slice none 0 0), .I 0] true 0)] ∧ (∀ j, j < i → xs.getD j 0 ≠ -2) ∧
    fr 1 = .ref u 0 L.length ∧ fr 2 = .ref q 0 xs.length ∧ fr 3 = .B once ∧ fr 5 = .ptr M.length 0 ∧ fr 9 = .ptr (M.length + 1) 0 ∧ fr 10 = .ptr (M.length + 2) 0 ∧ fr 11 = .I i) xs.length
    ⟨0, by omega, rfl, by omega, rfl, rfl, rfl, rfl, rfl, rfl, rfl⟩ ?_
  rintro m fr M' ⟨i, hi, rfl, hbef, f1, f2, f3, f5, f9, f10, f11⟩
  by_cases hlt : i < xs.length
  · have hx : ∀ {L' : Mem}, getCell (M ++ L') q i = some (.I (xs.getD i 0)) := fun {L'} => by
      have := Ints.get (hq.has.app (L := L')) hlt
      rwa [Nat.zero_add] at this
    by_cases he : xs.getD i 0 = -2
    · have hho : hole xs = i := hole_of (by omega) hbef (fun _ => he)
      have hm2 : (-2 : Int) ∈ xs := hole_mem.2 (by omega)
      rw [if_pos hm2] at hb ⊢
      have hiv : i < vol x y z := by omega
      have hci := cellAt_in hS (i := (i : Int)) (by omega) (by omega)
      have hg0 := Live.tri0 (Live.newj (M := M) (L := [some (.row [.I x, .I y, .I z, .ref t o cs.length] true 0), some (.row [.ref t1 0 P0.1.length, .I P0.2] true 0), some (.row [.val (.slice none 0 0), .I 0] true 0), some (.row (triL (cellsOf x y z)) true 3)]) (j := 3) (b := .row (triL (cellsOf x y z)) true 3) rfl) (show i < (cellsOf x y z).length by omega)
      rw [hce i hiv] at hg0
      have hne : ¬ ((i : Int) = (xs.length : Int)) := by omega
      have hpl : ∀ j, placeAt y z L j (hole xs) = placeAt y z L j i := fun j => by rw [hho]
      have hbr : ∀ g j, brP x y z cs L g xs j = if (j : Int) ∈ xs then [] else if PutOK x y z cs (L.getD j []) (placeAt y z L j i) xs then g (putR x y z cs (L.getD j []) (placeAt y z L j i) xs j) else [] := fun g j => by unfold brP nextL; rw [hho]
      have hpla : ∀ j, placeAt y z L j i = shift (negC ((L.getD j []).getD 0 default)) (cellAt y z i) := fun j => rfl
      have hcb4 := box4 hS hci.1
      generalize cellAt y z (i : Int) = c at hg0 hcb4 hpla
      obtain ⟨⟨_, _⟩, ⟨_, _⟩, ⟨_, _⟩⟩ := id hcb4
      simp (disch := omega) only [f1, f2, f3, f5, f9, f10, f11, hlt, hx, he, Nat.mul_one, hne, ↓SXd, SXu, slBounds, ↓sop, ↓aop, ↓reduceIte, LV.cells, AOp.dst, LV.I, LV.B, LV.U, LV.S, LV.nil, Nat.reduceEqDiff, Nat.reduceAdd, Nat.reduceMul, Nat.reduceSub, Nat.reduceLeDiff, Nat.reduceBEq, Nat.reduceDiv, Nat.reduceMod, Int.reduceToNat, Int.reduceLT, Int.reduceLE, Int.reduceAdd, Int.reduceSub, Int.reduceMul, Int.reduceEq, Int.reduceNeg, reduceCtorEq, resV, resAll, ARes.ev, LV.flat, ite_true, ite_false, exists_eq_left', exists_eq_left, keyOf, implies_true, fillC, capOf]
      refine callK_of (h_l2All hS) ?_
      simp (disch := omega) only [f1, f2, f3, f5, f9, f10, f11, Nat.zero_add, hg0, Cell.row, splice, ↓SXd, SXu, slBounds, ↓sop, ↓aop, ↓reduceIte, LV.cells, AOp.dst, LV.I, LV.B, LV.U, LV.S, LV.nil, Nat.reduceEqDiff, Nat.reduceAdd, Nat.reduceMul, Nat.reduceSub, Nat.reduceLeDiff, Nat.reduceBEq, Nat.reduceDiv, Nat.reduceMod, Int.reduceToNat, Int.reduceLT, Int.reduceLE, Int.reduceAdd, Int.reduceSub, Int.reduceMul, Int.reduceEq, Int.reduceNeg, reduceCtorEq, resV, resAll, ARes.ev, LV.flat, ite_true, ite_false, exists_eq_left', exists_eq_left, keyOf, implies_true, fillC, capOf]
      clear f11 hg0
      refine ev_loop (fun m fr M' => ∃ (k : Nat) (P1 : List Int × Nat) (t2 : Nat), k + m = L.length ∧ Pre M M' ∧ Live M' M.length (.row [.I x, .I y, .I z, .ref t o cs.length] true 0) ∧ Live M' (M.length + 1) (.row [.ref t2 0 P1.1.length, .I P1.2] true 0) ∧ Live M' (M.length + 2) (.row [.val (.slice none 0 0), .I 0] true 0) ∧ Live M' (M.length + 4) (.row [.I c.a, .I c.b, .I c.c] true 0) ∧
        Live M' t2 (.row (intL P1.1) true 1) ∧ (t2 = t1 ∨ t2 = q ∨ M.length + 5 ≤ t2) ∧ P1 = fndP P0 (selP once ((List.range k).flatMap (brP x y z cs L (packsB x y z cs L f) xs))) ∧
        fr 1 = .ref u 0 L.length ∧ fr 2 = .ref q 0 xs.length ∧ fr 3 = .B once ∧ fr 5 = .ptr M.length 0 ∧ fr 9 = .ptr (M.length + 1) 0 ∧ fr 10 = .ptr (M.length + 2) 0 ∧ fr 13 = .ptr (M.length + 4) 0 ∧ fr 14 = .I k) L.length
        ⟨0, P0, t1, by omega, Pre.app _ _, Live.new, Live.newj rfl, Live.newj rfl, Live.newj rfl, ht1.app, .inl rfl, by rw [List.range_zero, List.flatMap_nil, fnd_nil], f1, f2, f3, f5, f9, f10, rfl, rfl⟩ ?_
      clear f1 f2 f3 f5 f9 f10
      rintro m fr M' ⟨k, P1, t2, hk, hpre, b5, b9, b10, b13, bt, htw, hP1, f1, f2, f3, f5, f9, f10, f13, f14⟩
      have hend : ∀ {N : Mem} {w : LV}, w = .agg [.ref t2 0 P1.1.length, .I P1.2] → Pre M N → Live N t2 (.row (intL P1.1) true 1) → fndP P0 (selP once ((List.range L.length).flatMap (brP x y z cs L (packsB x y z cs L f) xs))) = P1 → FndRes M q t1 (fndP P0 (selP once ((List.range L.length).flatMap (brP x y z cs L (packsB x y z cs L f) xs)))) w N := fun hw hN hb e => by
        rw [e]; exact ⟨t2, hw, hb, by omega, hN⟩
      have hb9l := b9.lt
      have hb10l := b10.lt
      have hb13l := b13.lt
      by_cases hkl : k < L.length
      · obtain ⟨T, hT⟩ := flat_le (f := brP x y z cs L (packsB x y z cs L f) xs) (Nat.le_of_lt hkl)
        by_cases hst : once = true ∧ 0 < P1.2
        · obtain ⟨rfl, hpos⟩ := hst
          have hpos' : ((P1.2 : Nat) : Int) > 0 := by omega
          have hfin := fnd_stop (F := P0) (once := true) (A := (List.range k).flatMap (brP x y z cs L (packsB x y z cs L f) xs)) (B := T) rfl (hz rfl) (by rw [← hP1]; exact hpos)
          rw [← hT, ← hP1] at hfin
          simp (disch := omega) only [f1, f2, f3, f5, f9, f10, f13, f14, hkl, b9.cell, b9.cells, hpos', ↓SXd, SXu, slBounds, ↓sop, ↓aop, ↓reduceIte, LV.cells, AOp.dst, LV.I, LV.B, LV.U, LV.S, LV.nil, Nat.reduceEqDiff, Nat.reduceAdd, Nat.reduceMul, Nat.reduceSub, Nat.reduceLeDiff, Nat.reduceBEq, Nat.reduceDiv, Nat.reduceMod, Int.reduceToNat, Int.reduceLT, Int.reduceLE, Int.reduceAdd, Int.reduceSub, Int.reduceMul, Int.reduceEq, Int.reduceNeg, reduceCtorEq, resV, resAll, ARes.ev, LV.flat, ite_true, ite_false, exists_eq_left', exists_eq_left, keyOf, implies_true, fillC, capOf]
          refine memK_box b10 (by simp) fun N k1 k2 k3 => ?_
          simp (disch := omega) only [f1, f2, f3, f5, f9, f10, f13, f14, k2.cells, ↓SXd, SXu, slBounds, ↓sop, ↓aop, ↓reduceIte, LV.cells, AOp.dst, LV.I, LV.B, LV.U, LV.S, LV.nil, Nat.reduceEqDiff, Nat.reduceAdd, Nat.reduceMul, Nat.reduceSub, Nat.reduceLeDiff, Nat.reduceBEq, Nat.reduceDiv, Nat.reduceMod, Int.reduceToNat, Int.reduceLT, Int.reduceLE, Int.reduceAdd, Int.reduceSub, Int.reduceMul, Int.reduceEq, Int.reduceNeg, reduceCtorEq, resV, resAll, ARes.ev, LV.flat, ite_true, ite_false, exists_eq_left', exists_eq_left, keyOf, implies_true, fillC, capOf]
          exact hend rfl (pre_step hpre (by omega) (j := 0) k1 k3) (live_step bt (by omega) k3) hfin
        · have hmg : once = true → P1.2 = 0 := fun e => by
            rcases Nat.eq_zero_or_pos P1.2 with h | h
            · exact h
            · exact absurd ⟨e, h⟩ hst
          obtain ⟨v, o', hg, hTr⟩ := (hP.pre hpre).get hkl
          have hPk := hA.1 _ (getD_mem' (d := []) hkl)
          have hp5 := hPk.1
          have hT0 := Tri.get hTr (k := 0) (by omega)
          have hd4 := hPk.2.1.mem (getD_mem' (d := default) (show 0 < (L.getD k []).length by omega))
          have hpk := hpla k
          have hbrk := hbr (packsB x y z cs L f) k
          have hsk := flat_succ (f := brP x y z cs L (packsB x y z cs L f) xs) (i := k)
          obtain ⟨T1, hT1⟩ := flat_le (f := brP x y z cs L (packsB x y z cs L f) xs) (show k + 1 ≤ L.length from hkl)
          have hcnt : P1.2 + (brP x y z cs L (packsB x y z cs L f) xs k).length ≤ 1000000000 := by
            have e1 : P1.2 = P0.2 + (selP once ((List.range k).flatMap (brP x y z cs L (packsB x y z cs L f) xs))).length := by rw [hP1]; rfl
            have e2 := selP_len (once := once) (P := (List.range k).flatMap (brP x y z cs L (packsB x y z cs L f) xs))
            rw [hT1, hsk, List.length_append, List.length_append] at hb
            omega
          have hfs := fnd_step (F := P0) (once := once) (A := (List.range k).flatMap (brP x y z cs L (packsB x y z cs L f) xs)) (B := brP x y z cs L (packsB x y z cs L f) xs k) (fun e => by rw [← hP1]; exact hmg e)
          rw [← hP1, ← hsk] at hfs
          generalize hdd : (L.getD k []).getD 0 default = d at hT0 hd4 hpk
          obtain ⟨⟨_, _⟩, ⟨_, _⟩, ⟨_, _⟩⟩ := id hd4
          have pa : (placeAt y z L k i).a = c.a - d.a := by rw [hpk]; unfold shift negC; simp only; omega
          have pb : (placeAt y z L k i).b = c.b - d.b := by rw [hpk]; unfold shift negC; simp only; omega
          have pc : (placeAt y z L k i).c = c.c - d.c := by rw [hpk]; unfold shift negC; simp only; omega
          have hsm : Small (placeAt y z L k i) := by unfold Small; rw [pa, pb, pc]; omega
          generalize hlk : L.getD k [] = l at hg hTr hPk hp5 hT0 hd4 hbrk hdd
          rw [Nat.zero_mul, Nat.add_zero] at hT0
          have hq2 := hq.pre hpre
          have hul := (hP.pre hpre).lt
          cases once
          all_goals
            first
              | (have hmg2 : ¬ (((P1.2 : Nat) : Int) > 0) := by have := hmg rfl; omega)
              | (have hmg2 : True := trivial)
            simp (disch := omega) only [f1, f2, f3, f5, f9, f10, f13, f14, hkl, b9.cell, b9.cells, hmg2, ↓SXd, SXu, slBounds, ↓sop, ↓aop, ↓reduceIte, LV.cells, AOp.dst, LV.I, LV.B, LV.U, LV.S, LV.nil, Nat.reduceEqDiff, Nat.reduceAdd, Nat.reduceMul, Nat.reduceSub, Nat.reduceLeDiff, Nat.reduceBEq, Nat.reduceDiv, Nat.reduceMod, Int.reduceToNat, Int.reduceLT, Int.reduceLE, Int.reduceAdd, Int.reduceSub, Int.reduceMul, Int.reduceEq, Int.reduceNeg, reduceCtorEq, resV, resAll, ARes.ev, LV.flat, ite_true, ite_false, exists_eq_left', exists_eq_left, keyOf, implies_true, fillC, capOf]
            refine callK_of (h_l1Has hq2.has (by omega)) ?_
            simp (disch := omega) only [f1, f2, f3, f5, f9, f10, f13, f14, ↓SXd, SXu, slBounds, ↓sop, ↓aop, ↓reduceIte, LV.cells, AOp.dst, LV.I, LV.B, LV.U, LV.S, LV.nil, Nat.reduceEqDiff, Nat.reduceAdd, Nat.reduceMul, Nat.reduceSub, Nat.reduceLeDiff, Nat.reduceBEq, Nat.reduceDiv, Nat.reduceMod, Int.reduceToNat, Int.reduceLT, Int.reduceLE, Int.reduceAdd, Int.reduceSub, Int.reduceMul, Int.reduceEq, Int.reduceNeg, reduceCtorEq, resV, resAll, ARes.ev, LV.flat, ite_true, ite_false, exists_eq_left', exists_eq_left, keyOf, implies_true, fillC, capOf]
            by_cases hm : (k : Int) ∈ xs
            · rw [if_pos hm] at hbrk
              rw [decide_eq_true hm]
              rw [hbrk, List.append_nil] at hsk
              simp (disch := omega) only [f1, f2, f3, f5, f9, f10, f13, f14, ↓SXd, SXu, slBounds, ↓sop, ↓aop, ↓reduceIte, LV.cells, AOp.dst, LV.I, LV.B, LV.U, LV.S, LV.nil, Nat.reduceEqDiff, Nat.reduceAdd, Nat.reduceMul, Nat.reduceSub, Nat.reduceLeDiff, Nat.reduceBEq, Nat.reduceDiv, Nat.reduceMod, Int.reduceToNat, Int.reduceLT, Int.reduceLE, Int.reduceAdd, Int.reduceSub, Int.reduceMul, Int.reduceEq, Int.reduceNeg, reduceCtorEq, resV, resAll, ARes.ev, LV.flat, ite_true, ite_false, exists_eq_left', exists_eq_left, keyOf, implies_true, fillC, capOf]
              exact ⟨m - 1, by omega, k + 1, P1, t2, by omega, hpre, b5, b9, b10, b13, bt, htw, by rw [hsk]; exact hP1, f1, f2, f3, f5, f9, f10, f13, eqI (natI _)⟩
            · rw [if_neg hm] at hbrk
              rw [decide_eq_false hm]
              have hput := h_l9Put (x := x) (y := y) (z := z) (p := placeAt y z L k i) (n := (k : Int)) ((h.pre hpre).app (L := [some (.row d.row true 0)])) hH ((hTr.app (L := [some (.row d.row true 0)]))) hPk hsm (hq2.has.app (L := [some (.row d.row true 0)])) hxn
              rw [pa, pb, pc] at hput
              have hgA : ∀ {L' : Mem}, getCell (M' ++ L') u k = some (.ref v o' l.length) := fun {L'} => by
                rw [getCell_app hul]; exact hg
              simp (disch := omega) only [f1, f2, f3, f5, f9, f10, f13, f14, hg, hT0, Nat.mul_one, Nat.zero_add, Nat.zero_mul, Nat.add_zero, Cell.row, splice, b5.app.cells, b13.app.cell, hgA, ↓SXd, SXu, slBounds, ↓sop, ↓aop, ↓reduceIte, LV.cells, AOp.dst, LV.I, LV.B, LV.U, LV.S, LV.nil, Nat.reduceEqDiff, Nat.reduceAdd, Nat.reduceMul, Nat.reduceSub, Nat.reduceLeDiff, Nat.reduceBEq, Nat.reduceDiv, Nat.reduceMod, Int.reduceToNat, Int.reduceLT, Int.reduceLE, Int.reduceAdd, Int.reduceSub, Int.reduceMul, Int.reduceEq, Int.reduceNeg, reduceCtorEq, resV, resAll, ARes.ev, LV.flat, ite_true, ite_false, exists_eq_left', exists_eq_left, keyOf, implies_true, fillC, capOf]
              refine callR_of hput ?_
              rintro _ N ⟨w, rfl, hw, hwl, hpN⟩
              rw [List.length_append, List.length_singleton] at hwl
              by_cases hok : PutOK x y z cs l (placeAt y z L k i) xs
              · rw [if_pos hok] at hbrk
                rw [decide_eq_true hok]
                have hpN' : Pre M' N := (Pre.app _ _).trans hpN
                have hpMN := hpre.trans hpN'
                have b5N := b5.pre hpN'
                have b9N := b9.pre hpN'
                have b10N := b10.pre hpN'
                have b13N := b13.pre hpN'
                have hNl := hpN'.1
                simp (disch := omega) only [f1, f2, f3, f5, f9, f10, f13, f14, b5N.cells, b9N.cells, ↓SXd, SXu, slBounds, ↓sop, ↓aop, ↓reduceIte, LV.cells, AOp.dst, LV.I, LV.B, LV.U, LV.S, LV.nil, Nat.reduceEqDiff, Nat.reduceAdd, Nat.reduceMul, Nat.reduceSub, Nat.reduceLeDiff, Nat.reduceBEq, Nat.reduceDiv, Nat.reduceMod, Int.reduceToNat, Int.reduceLT, Int.reduceLE, Int.reduceAdd, Int.reduceSub, Int.reduceMul, Int.reduceEq, Int.reduceNeg, reduceCtorEq, resV, resAll, ARes.ev, LV.flat, ite_true, ite_false, exists_eq_left', exists_eq_left, keyOf, implies_true, fillC, capOf]
                cases f with
                | zero =>
                  have hS0 : S = [] := List.eq_nil_of_length_eq_zero (by omega)
                  have := hSl k hkl hm
                  rw [hS0] at this
                  cases this
                | succ f =>
                  have hin := hSl k hkl hm
                  have hpl := put_len (n := (k : Int)) hok
                  have hih := ih f (by omega) (S := S.erase k) (xs := putR x y z cs l (placeAt y z L k i) xs k) (q := w) (t1 := t2) (P0 := P1) (M := N) (by rw [List.length_erase_of_mem hin]; omega) (lacks_next hS hxn hok (by omega) hSl) (by rw [hpl]; exact hxn) (h.pre hpMN) (hP.pre hpMN) hw (bt.pre hpN') hmg (by rw [hbrk] at hcnt; exact hcnt)
                  refine callR_of hih ?_
                  rintro _ N2 ⟨t3, rfl, hw3, ht3, hpN2⟩
                  have hbe : brP x y z cs L (packsB x y z cs L (f + 1)) xs k = packs x y z cs L f (putR x y z cs l (placeAt y z L k i) xs k) := hbrk
                  rw [hbe] at hfs
                  have hN2l := hpN2.1
                  simp (disch := omega) only [f1, f2, f3, f5, f9, f10, f13, f14, ↓SXd, SXu, slBounds, ↓sop, ↓aop, ↓reduceIte, LV.cells, AOp.dst, LV.I, LV.B, LV.U, LV.S, LV.nil, Nat.reduceEqDiff, Nat.reduceAdd, Nat.reduceMul, Nat.reduceSub, Nat.reduceLeDiff, Nat.reduceBEq, Nat.reduceDiv, Nat.reduceMod, Int.reduceToNat, Int.reduceLT, Int.reduceLE, Int.reduceAdd, Int.reduceSub, Int.reduceMul, Int.reduceEq, Int.reduceNeg, reduceCtorEq, resV, resAll, ARes.ev, LV.flat, ite_true, ite_false, exists_eq_left', exists_eq_left, keyOf, implies_true, fillC, capOf]
                  refine memK_box (b9N.pre hpN2) (by simp) fun N3 k1 k2 k3 => ?_
                  simp (disch := omega) only [f1, f2, f3, f5, f9, f10, f13, f14, ↓SXd, SXu, slBounds, ↓sop, ↓aop, ↓reduceIte, LV.cells, AOp.dst, LV.I, LV.B, LV.U, LV.S, LV.nil, Nat.reduceEqDiff, Nat.reduceAdd, Nat.reduceMul, Nat.reduceSub, Nat.reduceLeDiff, Nat.reduceBEq, Nat.reduceDiv, Nat.reduceMod, Int.reduceToNat, Int.reduceLT, Int.reduceLE, Int.reduceAdd, Int.reduceSub, Int.reduceMul, Int.reduceEq, Int.reduceNeg, reduceCtorEq, resV, resAll, ARes.ev, LV.flat, ite_true, ite_false, exists_eq_left', exists_eq_left, keyOf, implies_true, fillC, capOf]
                  exact ⟨m - 1, by omega, k + 1, _, t3, by omega, pre_step (hpMN.trans hpN2) (by omega) (j := 0) k1 k3, live_step (b5N.pre hpN2) (by omega) k3, k2, live_step (b10N.pre hpN2) (by omega) k3, live_step (b13N.pre hpN2) (by omega) k3, live_step hw3 (by omega) k3, by omega, hfs, f1, f2, f3, f5, f9, f10, f13, eqI (natI _)⟩
              · rw [if_neg hok] at hbrk
                rw [decide_eq_false hok]
                rw [hbrk, List.append_nil] at hsk
                have hpN' : Pre M' N := (Pre.app _ _).trans hpN
                simp (disch := omega) only [f1, f2, f3, f5, f9, f10, f13, f14, ↓SXd, SXu, slBounds, ↓sop, ↓aop, ↓reduceIte, LV.cells, AOp.dst, LV.I, LV.B, LV.U, LV.S, LV.nil, Nat.reduceEqDiff, Nat.reduceAdd, Nat.reduceMul, Nat.reduceSub, Nat.reduceLeDiff, Nat.reduceBEq, Nat.reduceDiv, Nat.reduceMod, Int.reduceToNat, Int.reduceLT, Int.reduceLE, Int.reduceAdd, Int.reduceSub, Int.reduceMul, Int.reduceEq, Int.reduceNeg, reduceCtorEq, resV, resAll, ARes.ev, LV.flat, ite_true, ite_false, exists_eq_left', exists_eq_left, keyOf, implies_true, fillC, capOf]
                exact ⟨m - 1, by omega, k + 1, P1, t2, by omega, hpre.trans hpN', b5.pre hpN', b9.pre hpN', b10.pre hpN', b13.pre hpN', bt.pre hpN', htw, by rw [hsk]; exact hP1, f1, f2, f3, f5, f9, f10, f13, eqI (natI _)⟩
      · simp (disch := omega) only [f1, f2, f3, f5, f9, f10, f13, f14, hkl, b9.cells, ↓SXd, SXu, slBounds, ↓sop, ↓aop, ↓reduceIte, LV.cells, AOp.dst, LV.I, LV.B, LV.U, LV.S, LV.nil, Nat.reduceEqDiff, Nat.reduceAdd, Nat.reduceMul, Nat.reduceSub, Nat.reduceLeDiff, Nat.reduceBEq, Nat.reduceDiv, Nat.reduceMod, Int.reduceToNat, Int.reduceLT, Int.reduceLE, Int.reduceAdd, Int.reduceSub, Int.reduceMul, Int.reduceEq, Int.reduceNeg, reduceCtorEq, resV, resAll, ARes.ev, LV.flat, ite_true, ite_false, exists_eq_left', exists_eq_left, keyOf, implies_true, fillC, capOf]
        refine memK_box b10 (by simp) fun N k1 k2 k3 => ?_
        simp (disch := omega) only [f1, f2, f3, f5, f9, f10, f13, f14, k2.cells, ↓SXd, SXu, slBounds, ↓sop, ↓aop, ↓reduceIte, LV.cells, AOp.dst, LV.I, LV.B, LV.U, LV.S, LV.nil, Nat.reduceEqDiff, Nat.reduceAdd, Nat.reduceMul, Nat.reduceSub, Nat.reduceLeDiff, Nat.reduceBEq, Nat.reduceDiv, Nat.reduceMod, Int.reduceToNat, Int.reduceLT, Int.reduceLE, Int.reduceAdd, Int.reduceSub, Int.reduceMul, Int.reduceEq, Int.reduceNeg, reduceCtorEq, resV, resAll, ARes.ev, LV.flat, ite_true, ite_false, exists_eq_left', exists_eq_left, keyOf, implies_true, fillC, capOf]
        have : k = L.length := by omega
        rw [this] at hP1
        exact hend rfl (pre_step hpre (by omega) (j := 0) k1 k3) (live_step bt (by omega) k3) hP1.symm
    · simp (disch := omega) only [f1, f2, f3, f5, f9, f10, f11, hlt, hx, he, Nat.mul_one, ↓SXd, SXu, slBounds, ↓sop, ↓aop, ↓reduceIte, LV.cells, AOp.dst, LV.I, LV.B, LV.U, LV.S, LV.nil, Nat.reduceEqDiff, Nat.reduceAdd, Nat.reduceMul, Nat.reduceSub, Nat.reduceLeDiff, Nat.reduceBEq, Nat.reduceDiv, Nat.reduceMod, Int.reduceToNat, Int.reduceLT, Int.reduceLE, Int.reduceAdd, Int.reduceSub, Int.reduceMul, Int.reduceEq, Int.reduceNeg, reduceCtorEq, resV, resAll, ARes.ev, LV.flat, ite_true, ite_false, exists_eq_left', exists_eq_left, keyOf, implies_true, fillC, capOf]
      exact ⟨m - 1, by omega, i + 1, by omega, rfl, fun j hj => by
        rcases Nat.lt_or_ge j i with h3 | h3
        · exact hbef j h3
        · rw [show j = i by omega]; exact he, f1, f2, f3, f5, f9, f10, eqI (natI _)⟩
  · have hix : i = xs.length := by omega
    have hno : (-2 : Int) ∉ xs := fun h => by
      have h1 := hole_mem.1 h
      have h2 := hole_of (k := i) (by omega) hbef (by omega)
      omega
    rw [if_neg hno] at hb ⊢
    subst hix
    simp (disch := omega) only [f1, f2, f3, f5, f9, f10, f11, hlt, Int.lt_irrefl, ↓SXd, SXu, slBounds, ↓sop, ↓aop, ↓reduceIte, LV.cells, AOp.dst, LV.I, LV.B, LV.U, LV.S, LV.nil, Nat.reduceEqDiff, Nat.reduceAdd, Nat.reduceMul, Nat.reduceSub, Nat.reduceLeDiff, Nat.reduceBEq, Nat.reduceDiv, Nat.reduceMod, Int.reduceToNat, Int.reduceLT, Int.reduceLE, Int.reduceAdd, Int.reduceSub, Int.reduceMul, Int.reduceEq, Int.reduceNeg, reduceCtorEq, resV, resAll, ARes.ev, LV.flat, ite_true, ite_false, exists_eq_left', exists_eq_left, keyOf, implies_true, fillC, capOf]
    clear f11 f3
    refine ev_loop (fun m fr M' => ∃ k : Nat, k + m = L.length ∧ M' = M ++ [some (.row [.I x, .I y, .I z, .ref t o cs.length] true 0), some (.row [.ref t1 0 P0.1.length, .I P0.2] true 0), some (.row [.val (.slice none 0 0), .I 0] true 0)] ∧ (∀ j : Nat, j < k → (j : Int) ∈ xs) ∧
      fr 1 = .ref u 0 L.length ∧ fr 2 = .ref q 0 xs.length ∧ fr 9 = .ptr (M.length + 1) 0 ∧ fr 10 = .ptr (M.length + 2) 0 ∧ fr 12 = .I k) L.length
      ⟨0, by omega, rfl, by omega, f1, f2, f9, f10, rfl⟩ ?_
    clear f1 f2 f5 f9 f10
    rintro m fr M' ⟨k, hk, rfl, hall, f1, f2, f9, f10, f12⟩
    simp (disch := omega) only [f1, f2, f9, f10, f12, ↓SXd, SXu, slBounds, ↓sop, ↓aop, ↓reduceIte, LV.cells, AOp.dst, LV.I, LV.B, LV.U, LV.S, LV.nil, Nat.reduceEqDiff, Nat.reduceAdd, Nat.reduceMul, Nat.reduceSub, Nat.reduceLeDiff, Nat.reduceBEq, Nat.reduceDiv, Nat.reduceMod, Int.reduceToNat, Int.reduceLT, Int.reduceLE, Int.reduceAdd, Int.reduceSub, Int.reduceMul, Int.reduceEq, Int.reduceNeg, reduceCtorEq, resV, resAll, ARes.ev, LV.flat, ite_true, ite_false, exists_eq_left', exists_eq_left, keyOf, implies_true, fillC, capOf]
    refine condC_dec (fun hlt2 => ?_) (fun hlt2 => ?_)
    · simp (disch := omega) only [f1, f2, f9, f10, f12, ↓SXd, SXu, slBounds, ↓sop, ↓aop, ↓reduceIte, LV.cells, AOp.dst, LV.I, LV.B, LV.U, LV.S, LV.nil, Nat.reduceEqDiff, Nat.reduceAdd, Nat.reduceMul, Nat.reduceSub, Nat.reduceLeDiff, Nat.reduceBEq, Nat.reduceDiv, Nat.reduceMod, Int.reduceToNat, Int.reduceLT, Int.reduceLE, Int.reduceAdd, Int.reduceSub, Int.reduceMul, Int.reduceEq, Int.reduceNeg, reduceCtorEq, resV, resAll, ARes.ev, LV.flat, ite_true, ite_false, exists_eq_left', exists_eq_left, keyOf, implies_true, fillC, capOf]
      refine callK_of (h_l1Has hq.has.app (by omega)) ?_
      simp (disch := omega) only [f1, f2, f9, f10, f12, ↓SXd, SXu, slBounds, ↓sop, ↓aop, ↓reduceIte, LV.cells, AOp.dst, LV.I, LV.B, LV.U, LV.S, LV.nil, Nat.reduceEqDiff, Nat.reduceAdd, Nat.reduceMul, Nat.reduceSub, Nat.reduceLeDiff, Nat.reduceBEq, Nat.reduceDiv, Nat.reduceMod, Int.reduceToNat, Int.reduceLT, Int.reduceLE, Int.reduceAdd, Int.reduceSub, Int.reduceMul, Int.reduceEq, Int.reduceNeg, reduceCtorEq, resV, resAll, ARes.ev, LV.flat, ite_true, ite_false, exists_eq_left', exists_eq_left, keyOf, implies_true, fillC, capOf]
      by_cases hm : (k : Int) ∈ xs
      · rw [decide_eq_true hm]
        simp (disch := omega) only [f1, f2, f9, f10, f12, ↓SXd, SXu, slBounds, ↓sop, ↓aop, ↓reduceIte, LV.cells, AOp.dst, LV.I, LV.B, LV.U, LV.S, LV.nil, Nat.reduceEqDiff, Nat.reduceAdd, Nat.reduceMul, Nat.reduceSub, Nat.reduceLeDiff, Nat.reduceBEq, Nat.reduceDiv, Nat.reduceMod, Int.reduceToNat, Int.reduceLT, Int.reduceLE, Int.reduceAdd, Int.reduceSub, Int.reduceMul, Int.reduceEq, Int.reduceNeg, reduceCtorEq, resV, resAll, ARes.ev, LV.flat, ite_true, ite_false, exists_eq_left', exists_eq_left, keyOf, implies_true, fillC, capOf]
        exact ⟨m - 1, by omega, k + 1, by omega, rfl, fun j hj => by
          rcases Nat.lt_or_ge j k with h3 | h3
          · exact hall j h3
          · rw [show j = k by omega]; exact hm, f1, f2, f9, f10, eqI (natI _)⟩
      · rw [decide_eq_false hm]
        simp (disch := omega) only [f1, f2, f9, f10, f12, splice, ↓SXd, SXu, slBounds, ↓sop, ↓aop, ↓reduceIte, LV.cells, AOp.dst, LV.I, LV.B, LV.U, LV.S, LV.nil, Nat.reduceEqDiff, Nat.reduceAdd, Nat.reduceMul, Nat.reduceSub, Nat.reduceLeDiff, Nat.reduceBEq, Nat.reduceDiv, Nat.reduceMod, Int.reduceToNat, Int.reduceLT, Int.reduceLE, Int.reduceAdd, Int.reduceSub, Int.reduceMul, Int.reduceEq, Int.reduceNeg, reduceCtorEq, resV, resAll, ARes.ev, LV.flat, ite_true, ite_false, exists_eq_left', exists_eq_left, keyOf, implies_true, fillC, capOf]
        rw [show leafP L.length xs = [] by unfold leafP; rw [if_neg (fun h => hm (h k (by omega)))], fnd_nil]
        exact ⟨t1, rfl, ht1.app, .inl rfl, Pre.app _ _⟩
    · have hk2 : k = L.length := by omega
      subst hk2
      have hlf : leafP L.length xs = [xs] := by unfold leafP; rw [if_pos hall]
      rw [hlf] at hb ⊢
      have hfe : fndP P0 (selP once [xs]) = (if P0.2 = 0 then xs else P0.1, P0.2 + 1) := by cases once <;> rfl
      rw [hfe]
      rw [List.length_singleton] at hb
      by_cases h0 : P0.2 = 0
      · have h0' : ((P0.2 : Nat) : Int) = 0 := by omega
        simp (disch := omega) only [f1, f2, f9, f10, f12, h0', splice, ↓SXd, SXu, slBounds, ↓sop, ↓aop, ↓reduceIte, LV.cells, AOp.dst, LV.I, LV.B, LV.U, LV.S, LV.nil, Nat.reduceEqDiff, Nat.reduceAdd, Nat.reduceMul, Nat.reduceSub, Nat.reduceLeDiff, Nat.reduceBEq, Nat.reduceDiv, Nat.reduceMod, Int.reduceToNat, Int.reduceLT, Int.reduceLE, Int.reduceAdd, Int.reduceSub, Int.reduceMul, Int.reduceEq, Int.reduceNeg, reduceCtorEq, resV, resAll, ARes.ev, LV.flat, ite_true, ite_false, exists_eq_left', exists_eq_left, keyOf, implies_true, fillC, capOf]
        rw [if_pos h0, h0]
        exact ⟨q, rfl, hq.app, .inr (.inl rfl), Pre.app _ _⟩
      · have h0' : ¬ (((P0.2 : Nat) : Int) = 0) := by omega
        simp (disch := omega) only [f1, f2, f9, f10, f12, h0', splice, ↓SXd, SXu, slBounds, ↓sop, ↓aop, ↓reduceIte, LV.cells, AOp.dst, LV.I, LV.B, LV.U, LV.S, LV.nil, Nat.reduceEqDiff, Nat.reduceAdd, Nat.reduceMul, Nat.reduceSub, Nat.reduceLeDiff, Nat.reduceBEq, Nat.reduceDiv, Nat.reduceMod, Int.reduceToNat, Int.reduceLT, Int.reduceLE, Int.reduceAdd, Int.reduceSub, Int.reduceMul, Int.reduceEq, Int.reduceNeg, reduceCtorEq, resV, resAll, ARes.ev, LV.flat, ite_true, ite_false, exists_eq_left', exists_eq_left, keyOf, implies_true, fillC, capOf]
        rw [if_neg h0]
        exact ⟨t1, rfl, ht1.app, .inl rfl, Pre.app _ _⟩
end
end Go.Ab

/- Contracts: the reference's packings. -/
namespace Go.Ab
open Go
set_option linter.unusedSimpArgs false
set_option linter.unusedVariables false
set_option maxRecDepth 20000

theorem count_set2 {n : Int} (hn : n ≠ -2) : ∀ {xs : List Int} {k : Nat}, k < xs.length → xs.getD k 0 = -2 → (xs.set k n).count (-2) + 1 = xs.count (-2)
  | [], k, h, _ => by simp at h
  | a :: xs, 0, _, h => by
    simp at h
    subst h
    rw [List.set_cons_zero, List.count_cons_self, List.count_cons_of_ne hn]
  | a :: xs, k + 1, hk, h => by
    have := count_set2 hn (xs := xs) (k := k) (by simpa using hk) (by simpa using h)
    rw [List.set_cons_succ, List.count_cons, List.count_cons]; omega
theorem setsL_count {y z n : Int} (hn : n ≠ -2) : ∀ {ds : List Cell} {xs : List Int}, ds.Pairwise (fun d e => (idx y z d).toNat ≠ (idx y z e).toNat) → (∀ d ∈ ds, (idx y z d).toNat < xs.length ∧ xs.getD (idx y z d).toNat 0 = -2) → (setsL y z n xs ds).count (-2) + ds.length = xs.count (-2)
  | [], xs, _, _ => by simp [setsL]
  | d :: ds, xs, hp, h => by
    rw [List.pairwise_cons] at hp
    have h1 := count_set2 hn (h d (by simp)).1 (h d (by simp)).2
    have h2 := setsL_count hn (ds := ds) (xs := xs.set (idx y z d).toNat n) hp.2 fun e he => by
      have h3 := h e (by simp [he])
      refine ⟨by rw [List.length_set]; exact h3.1, ?_⟩
      have h4 := h3.2
      simp only [List.getD_eq_getElem?_getD] at h4 ⊢
      rw [List.getElem?_set_ne (hp.1 e he)]; exact h4
    show (setsL y z n (xs.set _ n) ds).count (-2) + (ds.length + 1) = _
    omega
/-- The cells of the pieces that a list lacks. -/
noncomputable def remTo (L : List (List Cell)) (xs : List Int) : Nat → Nat
  | 0 => 0
  | m + 1 => remTo L xs m + if (m : Int) ∈ xs then 0 else (L.getD m []).length
theorem remTo_step {L : List (List Cell)} {xs ys : List Int} {i : Nat} (h : ∀ j : Nat, (j : Int) ∈ ys ↔ (j : Int) ∈ xs ∨ j = i) (hi : (i : Int) ∉ xs) : ∀ {m : Nat}, remTo L xs m = remTo L ys m + if i < m then (L.getD i []).length else 0
  | 0 => by simp [remTo]
  | m + 1 => by
    have ih := remTo_step h hi (m := m) (L := L)
    have hm := h m
    rw [remTo, remTo, ih]
    by_cases e : m = i
    · subst e
      rw [if_neg hi, if_pos (hm.2 (.inr rfl)), if_neg (Nat.lt_irrefl _), if_pos (Nat.lt_succ_self _)]
    · by_cases hx : (m : Int) ∈ xs
      · rw [if_pos hx, if_pos (hm.2 (.inl hx))]
        by_cases h3 : i < m
        · rw [if_pos h3, if_pos (by omega)]; try omega
        · rw [if_neg h3, if_neg (by omega)]; try omega
      · rw [if_neg hx, if_neg (fun h4 => (hm.1 h4).elim hx e)]
        by_cases h3 : i < m
        · rw [if_pos h3, if_pos (by omega)]; omega
        · rw [if_neg h3, if_neg (by omega)]; omega
theorem remTo_zero {L : List (List Cell)} {xs : List Int} : ∀ {m : Nat}, (∀ j : Nat, j < m → (j : Int) ∈ xs) → remTo L xs m = 0
  | 0, _ => rfl
  | m + 1, h => by rw [remTo, remTo_zero fun j hj => h j (by omega), if_pos (h m (by omega))]
theorem remTo_tot {L : List (List Cell)} {xs : List Int} (h : ∀ j : Nat, (j : Int) ∉ xs) : ∀ {m : Nat}, m ≤ L.length → remTo L xs m = tot (L.take m)
  | 0, _ => by simp [remTo, tot]
  | m + 1, hm => by rw [remTo, remTo_tot h (by omega), if_neg (h m), tot_take_succ (by omega)]
section
variable {x y z : Int} {cs : List Cell} {L : List (List Cell)} (hA : AskOK x y z cs L)
include hA
theorem put_count {l : List Cell} {p : Cell} {xs : List Int} {n : Int} (hl : l ∈ L) (hn : 0 ≤ n) (hxn : xs.length = vol x y z) (hok : PutOK x y z cs l p xs) : (putR x y z cs l p xs n).count (-2) + l.length = xs.count (-2) := by
  have hS := hA.2.1.1
  have hv := vol_cast hS
  have hss := shifts_sorted (p := p) (hA.1 l hl).2.1.sorted
  have hb : ∀ d ∈ l.map (shift p), d.inBox x y z ∧ atL y z xs d = -2 := fun d hd => by
    obtain ⟨c, hc, rfl⟩ := List.mem_map.1 hd
    exact ⟨(hok.1.2 c hc).1, hok.2 c hc⟩
  have hml : (l.map (shift p)).length = l.length := List.length_map ..
  unfold putR
  rw [if_pos hok, ← hml]
  refine setsL_count (by omega) ?_ fun d hd => ?_
  · refine hss.imp_of_mem fun {a b} ha hb' hab => ?_
    have h1 := idx_in hS (hb a ha).1
    have h2 := idx_in hS (hb b hb').1
    have := (lt_iff hS (hb a ha).1 (hb b hb').1).1 hab
    omega
  · have := idx_in hS (hb d hd).1
    exact ⟨by omega, (hb d hd).2⟩
theorem put_mem_iff {l : List Cell} {p : Cell} {xs : List Int} {i : Nat} (hl : l ∈ L) (hxn : xs.length = vol x y z) (hok : PutOK x y z cs l p xs) (j : Nat) : (j : Int) ∈ putR x y z cs l p xs i ↔ (j : Int) ∈ xs ∨ j = i := by
  constructor
  · intro h
    obtain ⟨k, hk, e⟩ := List.getElem_of_mem h
    have h1 := put_get (n := (i : Int)) hok (k := k) (by rw [put_len hok] at hk; exact hk)
    have h2 : (putR x y z cs l p xs i).getD k 0 = j := by simp [hk, e]
    rw [h2] at h1
    rw [put_len hok] at hk
    split at h1
    · exact .inr (by omega)
    · left; rw [h1]; exact getD_mem' hk
  · rintro (h | rfl)
    · exact put_mem hok h (by omega)
    · exact put_self hA.2.1.1 hxn hok (hA.1 l hl).1.1
theorem packs_total : ∀ {f : Nat} {xs : List Int}, xs.length = vol x y z → packs x y z cs L f xs ≠ [] → xs.count (-2) = remTo L xs L.length := by
  intro f
  induction f with
  | zero =>
    intro xs hxn h
    rw [packs_eq] at h
    split at h
    · exfalso; apply h
      rw [List.flatMap_eq_nil_iff]
      intro i _
      unfold brP packsB
      split
      · rfl
      · split <;> rfl
    · rename_i hno
      rw [List.count_eq_zero.2 hno, remTo_zero]
      intro j hj
      unfold leafP at h
      split at h
      · rename_i ha; exact ha j hj
      · exact absurd rfl h
  | succ f ih =>
    intro xs hxn h
    rw [packs_eq] at h
    split at h
    · have : ∃ i, i < L.length ∧ brP x y z cs L (packsB x y z cs L (f + 1)) xs i ≠ [] := by
        refine Classical.byContradiction fun hno => h (List.flatMap_eq_nil_iff.2 fun i hi => ?_)
        refine Classical.byContradiction fun hne => hno ⟨i, List.mem_range.1 hi, hne⟩
      obtain ⟨i, hi, hne⟩ := this
      unfold brP at hne
      split at hne
      · exact absurd rfl hne
      · rename_i hix
        split at hne
        · rename_i hok
          have hm := getD_mem' (d := []) hi
          have h1 := ih (xs := nextL x y z cs L xs i) (by unfold nextL; rw [put_len hok]; exact hxn) hne
          have h2 := put_count hA (n := (i : Int)) hm (by omega) hxn hok
          have h3 := remTo_step (L := L) (m := L.length) (put_mem_iff hA hm hxn hok) hix
          rw [if_pos hi] at h3
          unfold nextL at h1
          omega
        · exact absurd rfl hne
    · rename_i hno
      rw [List.count_eq_zero.2 hno, remTo_zero]
      intro j hj
      unfold leafP at h
      split at h
      · rename_i ha; exact ha j hj
      · exact absurd rfl h
theorem start_len : (startL x y z cs).length = vol x y z := by simp [startL, cellsOf]
theorem start_count : (startL x y z cs).count (-2) + cs.length = vol x y z := by
  have hS := hA.2.1.1
  have hcl : (cellsOf x y z).length = vol x y z := by simp [cellsOf]
  have h3 : (cellsOf x y z).countP (fun c => decide (c ∈ cs)) = cs.length := by
    conv => rhs; rw [hA.2.1.pick]
    unfold pick
    rw [← List.countP_eq_length_filter]
  have h4 : (startL x y z cs).count (-2) = (cellsOf x y z).countP (fun c => !decide (c ∈ cs)) := by
    unfold startL List.count
    rw [List.countP_map]
    refine List.countP_congr fun c _ => ?_
    simp only [Function.comp]
    by_cases hc : c ∈ cs <;> simp [hc]
  have h5 := List.length_eq_countP_add_countP (l := cellsOf x y z) fun c => decide (c ∈ cs)
  rw [h4]
  simp only [decide_eq_true_eq] at h5 ⊢
  rw [h3] at h5
  have h6 : (cellsOf x y z).countP (fun c => decide ¬ (decide (c ∈ cs) = true)) = (cellsOf x y z).countP (fun c => !decide (c ∈ cs)) := List.countP_congr fun c _ => by simp
  simp only [decide_eq_true_eq] at h6
  omega
theorem start_no (j : Nat) : (j : Int) ∉ startL x y z cs := by
  unfold startL
  rw [List.mem_map]
  rintro ⟨c, _, e⟩
  split at e <;> omega
noncomputable def allPk (x y z : Int) (cs : List Cell) (L : List (List Cell)) : List (List Int) := packs x y z cs L 8 (startL x y z cs)
theorem allPk_none (h : tot L + cs.length ≠ vol x y z) : allPk x y z cs L = [] := by
  refine Classical.byContradiction fun hne => h ?_
  have h1 := packs_total hA (start_len hA) hne
  rw [remTo_tot (start_no hA) (Nat.le_refl _), List.take_length] at h1
  have := start_count hA
  omega
theorem allPk_len : (allPk x y z cs L).length ≤ 16777216 := packs_len (f := 8) hA.2.2
def FindRes (M : Mem) (P0 : List Int × Nat) (v : LV) (N : Mem) : Prop := ∃ t, v = .agg [.ref t 0 P0.1.length, .I P0.2] ∧ Live N t (.row (intL P0.1) true 1) ∧ M.length ≤ t ∧ Pre M N
theorem h_l9Find {t o u : Nat} {once : Bool} {M : Mem} (h : Tri M t o cs) (hP : Pcs M u L) : CallsR PG F.spec_l9Find [.agg [.I x, .I y, .I z, .ref t o cs.length], .ref u 0 L.length, .B once] M (FindRes M (fndP ([], 0) (selP once (allPk x y z cs L)))) := by
  have hH := hA.2.1
  have hS := hH.1
  have hv := vol_cast hS
  have hcn := hH.len
  have hto := ask_tot hA
  have hL8 := hA.2.2
  have ht := h.lt
  have hpr := prod_le hS
  obtain ⟨⟨_, _⟩, ⟨_, _⟩, ⟨_, _⟩⟩ := hpr
  have hvb := vol_bound hS
  refine callsR_run K.spec_l9Find rfl ?_
  simp (disch := omega) only [C.spec_l9Find, ↓SXd, SXu, slBounds, ↓sop, ↓aop, ↓reduceIte, LV.cells, AOp.dst, LV.I, LV.B, LV.U, LV.S, LV.nil, Nat.reduceEqDiff, Nat.reduceAdd, Nat.reduceMul, Nat.reduceSub, Nat.reduceLeDiff, Nat.reduceBEq, Nat.reduceDiv, Nat.reduceMod, Int.reduceToNat, Int.reduceLT, Int.reduceLE, Int.reduceAdd, Int.reduceSub, Int.reduceMul, Int.reduceEq, Int.reduceNeg, reduceCtorEq, resV, resAll, ARes.ev, LV.flat, ite_true, ite_false, exists_eq_left', exists_eq_left, keyOf, implies_true, fillC, capOf]
  refine callK_of (h_l9Cells hP.app (by omega) (by omega)) ?_
  simp (disch := omega) only [↓SXd, SXu, slBounds, ↓sop, ↓aop, ↓reduceIte, LV.cells, AOp.dst, LV.I, LV.B, LV.U, LV.S, LV.nil, Nat.reduceEqDiff, Nat.reduceAdd, Nat.reduceMul, Nat.reduceSub, Nat.reduceLeDiff, Nat.reduceBEq, Nat.reduceDiv, Nat.reduceMod, Int.reduceToNat, Int.reduceLT, Int.reduceLE, Int.reduceAdd, Int.reduceSub, Int.reduceMul, Int.reduceEq, Int.reduceNeg, reduceCtorEq, resV, resAll, ARes.ev, LV.flat, ite_true, ite_false, exists_eq_left', exists_eq_left, keyOf, implies_true, fillC, capOf]
  by_cases h2 : ((tot L : Nat) : Int) + ((cs.length : Nat) : Int) = x * y * z
  · simp (disch := omega) only [h2, ↓SXd, SXu, slBounds, ↓sop, ↓aop, ↓reduceIte, LV.cells, AOp.dst, LV.I, LV.B, LV.U, LV.S, LV.nil, Nat.reduceEqDiff, Nat.reduceAdd, Nat.reduceMul, Nat.reduceSub, Nat.reduceLeDiff, Nat.reduceBEq, Nat.reduceDiv, Nat.reduceMod, Int.reduceToNat, Int.reduceLT, Int.reduceLE, Int.reduceAdd, Int.reduceSub, Int.reduceMul, Int.reduceEq, Int.reduceNeg, reduceCtorEq, resV, resAll, ARes.ev, LV.flat, ite_true, ite_false, exists_eq_left', exists_eq_left, keyOf, implies_true, fillC, capOf]
    refine callK_of (h_l9Start h.app hH) ?_
    simp (disch := omega) only [↓SXd, SXu, slBounds, ↓sop, ↓aop, ↓reduceIte, LV.cells, AOp.dst, LV.I, LV.B, LV.U, LV.S, LV.nil, Nat.reduceEqDiff, Nat.reduceAdd, Nat.reduceMul, Nat.reduceSub, Nat.reduceLeDiff, Nat.reduceBEq, Nat.reduceDiv, Nat.reduceMod, Int.reduceToNat, Int.reduceLT, Int.reduceLE, Int.reduceAdd, Int.reduceSub, Int.reduceMul, Int.reduceEq, Int.reduceNeg, reduceCtorEq, resV, resAll, ARes.ev, LV.flat, ite_true, ite_false, exists_eq_left', exists_eq_left, keyOf, implies_true, fillC, capOf]
    have hlen := allPk_len hA
    have hS' := h_l9Search (t := t) (o := o) (u := u) (once := once) hA 8 (S := List.range L.length) (xs := startL x y z cs) (q := M.length + 3) (t1 := M.length + 2) (P0 := ([], 0)) (M := M ++ [some (.row [.I x, .I y, .I z, .ref t o cs.length] true 0), some (.row [.val (.slice none 0 0), .I 0] true 0), some (.row [] true 1), some (.row (intL (startL x y z cs)) true 1)])
      (by rw [List.length_range]; exact hL8) (fun i hi _ => List.mem_range.2 hi) (start_len hA) h.app hP.app (Live.newj rfl) (Live.newj rfl) (fun _ => rfl) (by show 0 + (allPk x y z cs L).length ≤ _; omega)
    refine callR_of hS' ?_
    rintro _ N ⟨t3, rfl, hw, ht3, hpN⟩
    have hpM : Pre M N := (Pre.app _ _).trans hpN
    have b6 : Live N (M.length + 1) (.row [.val (.slice none 0 0), .I 0] true 0) := Live.pre (Live.newj rfl) hpN
    have hNl := hpN.1
    rw [List.length_append] at hNl ht3
    simp only [List.length_cons, List.length_nil] at hNl ht3
    simp (disch := omega) only [↓SXd, SXu, slBounds, ↓sop, ↓aop, ↓reduceIte, LV.cells, AOp.dst, LV.I, LV.B, LV.U, LV.S, LV.nil, Nat.reduceEqDiff, Nat.reduceAdd, Nat.reduceMul, Nat.reduceSub, Nat.reduceLeDiff, Nat.reduceBEq, Nat.reduceDiv, Nat.reduceMod, Int.reduceToNat, Int.reduceLT, Int.reduceLE, Int.reduceAdd, Int.reduceSub, Int.reduceMul, Int.reduceEq, Int.reduceNeg, reduceCtorEq, resV, resAll, ARes.ev, LV.flat, ite_true, ite_false, exists_eq_left', exists_eq_left, keyOf, implies_true, fillC, capOf]
    refine memK_box b6 (by simp) fun N3 k1 k2 k3 => ?_
    simp (disch := omega) only [k2.cells, ↓SXd, SXu, slBounds, ↓sop, ↓aop, ↓reduceIte, LV.cells, AOp.dst, LV.I, LV.B, LV.U, LV.S, LV.nil, Nat.reduceEqDiff, Nat.reduceAdd, Nat.reduceMul, Nat.reduceSub, Nat.reduceLeDiff, Nat.reduceBEq, Nat.reduceDiv, Nat.reduceMod, Int.reduceToNat, Int.reduceLT, Int.reduceLE, Int.reduceAdd, Int.reduceSub, Int.reduceMul, Int.reduceEq, Int.reduceNeg, reduceCtorEq, resV, resAll, ARes.ev, LV.flat, ite_true, ite_false, exists_eq_left', exists_eq_left, keyOf, implies_true, fillC, capOf]
    exact ⟨t3, rfl, live_step hw (by omega) k3, by omega, pre_step hpM (by omega) (j := 0) k1 k3⟩
  · simp (disch := omega) only [h2, ↓SXd, SXu, slBounds, ↓sop, ↓aop, ↓reduceIte, LV.cells, AOp.dst, LV.I, LV.B, LV.U, LV.S, LV.nil, Nat.reduceEqDiff, Nat.reduceAdd, Nat.reduceMul, Nat.reduceSub, Nat.reduceLeDiff, Nat.reduceBEq, Nat.reduceDiv, Nat.reduceMod, Int.reduceToNat, Int.reduceLT, Int.reduceLE, Int.reduceAdd, Int.reduceSub, Int.reduceMul, Int.reduceEq, Int.reduceNeg, reduceCtorEq, resV, resAll, ARes.ev, LV.flat, ite_true, ite_false, exists_eq_left', exists_eq_left, keyOf, implies_true, fillC, capOf]
    have hnone := allPk_none hA (fun e => h2 (by omega))
    rw [hnone, fnd_nil]
    exact ⟨_, rfl, Live.newj rfl, by omega, Pre.app _ _⟩
end
noncomputable def countPk (x y z : Int) (cs : List Cell) (L : List (List Cell)) : Int × Bool := if AskOK x y z cs L then (((allPk x y z cs L).length : Nat), true) else (0, false)
end Go.Ab

/- Plain: what the program keeps while it packs. -/
namespace Go.Ab
open Go
set_option linter.unusedSimpArgs false
set_option linter.unusedVariables false

theorem hole_at : ∀ {xs : List Int}, hole xs < xs.length → xs.getD (hole xs) 0 = -2
  | [], h => by simp at h
  | a :: xs, h => by
    unfold hole at h ⊢
    rw [List.takeWhile_cons] at h ⊢
    by_cases h0 : a = -2
    · simp [h0]
    · rw [if_pos (by simpa using h0), List.length_cons, List.length_cons] at h
      rw [if_pos (by simpa using h0), List.length_cons, List.getD_cons_succ]
      exact hole_at (xs := xs) (by unfold hole; omega)
def freeX (y z : Int) (xs : List Int) (c : Cell) : Bool := decide (atL y z xs c = -2)
/-- The program's list has the numbers that are set. -/
def Agr (xs ys : List Int) : Prop := ys.length = xs.length ∧ ∀ k, k < xs.length → xs.getD k 0 ≠ -2 → ys.getD k 0 = xs.getD k 0
def UsedOK (n : Nat) (xs : List Int) (used : Nat) : Prop := used < 2 ^ n ∧ ∀ i, i < n → (used.testBit i = true ↔ (i : Int) ∈ xs)
theorem agree_all {xs ys : List Int} (h : Agr xs ys) (hn : (-2 : Int) ∉ xs) : ys = xs := by
  apply List.ext_getElem h.1
  intro i h1 h2
  have := h.2 i h2 (fun e => hn (by rw [← e]; exact getD_mem' h2))
  simpa [h1, h2] using this
theorem used_full {n used : Nat} {xs : List Int} (h : UsedOK n xs used) : used = 2 ^ n - 1 ↔ ∀ i : Nat, i < n → (i : Int) ∈ xs := by
  constructor
  · intro e i hi
    rw [← h.2 i hi, e, Nat.testBit_two_pow_sub_one]; exact decide_eq_true hi
  · intro ha
    apply Nat.eq_of_testBit_eq
    intro i
    rw [Nat.testBit_two_pow_sub_one]
    by_cases hi : i < n
    · rw [decide_eq_true hi]; exact (h.2 i hi).2 (ha i hi)
    · rw [decide_eq_false hi]
      exact Nat.testBit_lt_two_pow (Nat.lt_of_lt_of_le h.1 (Nat.pow_le_pow_right (by omega) (by omega)))
/-- The first k places overwritten. -/
def overL (y z : Int) (ds : List Cell) (i : Int) (ys : List Int) : Nat → List Int
  | 0 => ys
  | k + 1 => if cellAt y z k ∈ ds then (overL y z ds i ys k).set k i else overL y z ds i ys k
theorem overL_len {y z : Int} {ds : List Cell} {i : Int} {ys : List Int} : ∀ {k : Nat}, (overL y z ds i ys k).length = ys.length
  | 0 => rfl
  | k + 1 => by
    rw [overL]
    split
    · rw [List.length_set, overL_len]
    · exact overL_len
theorem overL_get {y z : Int} {ds : List Cell} {i : Int} {ys : List Int} {j : Nat} (hj : j < ys.length) : ∀ {k : Nat}, (overL y z ds i ys k).getD j 0 = if j < k ∧ cellAt y z j ∈ ds then i else ys.getD j 0
  | 0 => by simp [overL]
  | k + 1 => by
    have ih := overL_get (y := y) (z := z) (ds := ds) (i := i) hj (k := k)
    rw [overL]
    by_cases hk : cellAt y z k ∈ ds
    · rw [if_pos hk]
      by_cases e : j = k
      · subst e
        rw [if_pos ⟨Nat.lt_succ_self _, hk⟩]
        simp [overL_len, hj]
      · have h1 : ((overL y z ds i ys k).set k i).getD j 0 = (overL y z ds i ys k).getD j 0 := by
          simp only [List.getD_eq_getElem?_getD]; rw [List.getElem?_set_ne (by omega)]
        rw [h1, ih]
        by_cases h2 : j < k ∧ cellAt y z j ∈ ds
        · rw [if_pos h2, if_pos ⟨by omega, h2.2⟩]
        · rw [if_neg h2, if_neg (fun h3 => h2 ⟨by omega, h3.2⟩)]
    · rw [if_neg hk, ih]
      by_cases h2 : j < k ∧ cellAt y z j ∈ ds
      · rw [if_pos h2, if_pos ⟨by omega, h2.2⟩]
      · rw [if_neg h2, if_neg (fun h3 => h2 ⟨by
          rcases Nat.lt_or_ge j k with h4 | h4
          · exact h4
          · have : j = k := by omega
            subst this; exact absurd h3.2 hk, h3.2⟩)]
section
variable {x y z : Int} {cs : List Cell} {L : List (List Cell)} {xs ys : List Int} {l : List Cell} {p : Cell}
def CubesOK (y z : Int) (x : Int) (cs : List Cell) (xs : List Int) : Prop := ∀ c, c.inBox x y z → c ∈ cs → atL y z xs c ≠ -2
theorem placed_iff (hS : Sides x y z) (hP : PieceOK l) (hc : CubesOK y z x cs xs) : PlacedOK x y z (freeX y z xs) l p ↔ PutOK x y z cs l p xs := by
  have hm := getD_mem' (d := default) (show 0 < l.length by have := hP.1; omega)
  have h4 := hP.2.1.mem hm
  obtain ⟨⟨_, _⟩, ⟨_, _⟩, ⟨_, _⟩⟩ := id hS
  obtain ⟨⟨_, _⟩, ⟨_, _⟩, ⟨_, _⟩⟩ := id h4
  constructor
  · rintro ⟨h1, h2⟩
    have h3 := (h2 _ hm).1
    refine ⟨⟨?_, fun c hc' => ⟨(h2 c hc').1, fun hcs => hc _ (h2 c hc').1 hcs (of_decide_eq_true (h2 c hc').2)⟩⟩, fun c hc' => of_decide_eq_true (h2 c hc').2⟩
    unfold Cell.inBox shift at h3
    unfold At4 at h1
    unfold At3
    simp only at h3
    omega
  · rintro ⟨⟨h1, h2⟩, h3⟩
    refine ⟨?_, fun c hc' => ⟨(h2 c hc').1, decide_eq_true (h3 c hc')⟩⟩
    unfold At3 at h1
    unfold At4
    omega
theorem free_zero (hS : Sides x y z) (hxn : xs.length = vol x y z) : bs x y z (freeX y z xs) = 0#64 ↔ (-2 : Int) ∉ xs := by
  have hv := vol_cast hS
  rw [bs_zero hS]
  constructor
  · intro h hm
    obtain ⟨k, hk, e⟩ := List.getElem_of_mem hm
    have hc := cellAt_in hS (i := (k : Int)) (by omega) (by omega)
    have := of_decide_eq_false (h _ hc.1)
    unfold atL at this
    rw [hc.2, Int.toNat_natCast] at this
    apply this; simp [hk, e]
  · intro h c hc
    have hi := idx_in hS hc
    exact decide_eq_false fun e => h (by rw [← e]; exact getD_mem' (by omega))
theorem low_hole (hS : Sides x y z) (hxn : xs.length = vol x y z) (hm : (-2 : Int) ∈ xs) : (cellAt y z (hole xs)).inBox x y z ∧ freeX y z xs (cellAt y z (hole xs)) = true ∧ ∀ d, d.inBox x y z → freeX y z xs d = true → ¬ d.lt (cellAt y z (hole xs)) := by
  have hv := vol_cast hS
  have hh := hole_mem.1 hm
  have hc := cellAt_in hS (i := (hole xs : Int)) (by omega) (by omega)
  refine ⟨hc.1, ?_, fun d hd hf hlt => ?_⟩
  · have h1 : xs.getD (hole xs) 0 = -2 := hole_at hh
    unfold freeX atL
    rw [hc.2, Int.toNat_natCast, h1]; rfl
  · rw [lt_iff hS hd hc.1, hc.2] at hlt
    have hi := idx_in hS hd
    exact hole_before (xs := xs) (j := (idx y z d).toNat) (by omega) (of_decide_eq_true hf)
theorem free_next (hS : Sides x y z) (hxn : xs.length = vol x y z) {i : Nat} (hok : PutOK x y z cs l p xs) (c : Cell) (hc : c.inBox x y z) : (freeX y z xs c && !decide (c ∈ l.map (shift p))) = freeX y z (putR x y z cs l p xs i) c := by
  have hv := vol_cast hS
  have hi := idx_in hS hc
  have h1 := put_get (n := (i : Int)) hok (k := (idx y z c).toNat) (by omega)
  have hiff : (∃ d ∈ l.map (shift p), (idx y z d).toNat = (idx y z c).toNat) ↔ c ∈ l.map (shift p) := by
    constructor
    · rintro ⟨d, hd, e⟩
      obtain ⟨b, hb, rfl⟩ := List.mem_map.1 hd
      have hdb := (hok.1.2 b hb).1
      have h2 := idx_in hS hdb
      rw [show c = shift p b by rw [← hi.2.2, ← h2.2.2]; congr 1; omega]
      exact hd
    · exact fun h => ⟨c, h, rfl⟩
  unfold freeX
  by_cases hm : c ∈ l.map (shift p)
  · rw [if_pos (hiff.2 hm)] at h1
    unfold atL
    rw [h1, decide_eq_true hm, decide_eq_false (show ¬ (i : Int) = -2 by omega)]; simp
  · rw [if_neg (fun h => hm (hiff.1 h))] at h1
    unfold atL
    rw [h1, decide_eq_false hm]; simp
theorem agree_next (hS : Sides x y z) (hxn : xs.length = vol x y z) {i : Nat} (hok : PutOK x y z cs l p xs) (h : Agr xs ys) : Agr (putR x y z cs l p xs i) (overL y z (l.map (shift p)) i ys (vol x y z)) := by
  have hv := vol_cast hS
  refine ⟨by rw [overL_len, put_len hok, h.1], fun k hk hne => ?_⟩
  rw [put_len hok] at hk
  have h1 := put_get (n := (i : Int)) hok hk
  have hc := cellAt_in hS (i := (k : Int)) (by omega) (by omega)
  have hiff : (∃ d ∈ l.map (shift p), (idx y z d).toNat = k) ↔ cellAt y z k ∈ l.map (shift p) := by
    constructor
    · rintro ⟨d, hd, e⟩
      obtain ⟨b, hb, rfl⟩ := List.mem_map.1 hd
      have hdb := (hok.1.2 b hb).1
      have h2 := idx_in hS hdb
      rw [show cellAt y z k = shift p b by rw [← h2.2.2]; congr 1; omega]
      exact hd
    · exact fun hd => ⟨_, hd, by omega⟩
  rw [overL_get (by rw [h.1]; exact hk), h1]
  rw [h1] at hne
  by_cases hm : cellAt y z k ∈ l.map (shift p)
  · rw [if_pos ⟨by omega, hm⟩, if_pos (hiff.2 hm)]
  · rw [if_neg (fun h => hm h.2), if_neg (fun h => hm (hiff.1 h))]
    rw [if_neg (fun h => hm (hiff.1 h))] at hne
    exact h.2 k hk hne
theorem agree_back (hok : PutOK x y z cs l p xs) {i : Nat} (h : Agr (putR x y z cs l p xs i) ys) : Agr xs ys := by
  refine ⟨by rw [h.1, put_len hok], fun k hk hne => ?_⟩
  have h1 := put_get (n := (i : Int)) hok hk
  rw [if_neg (by
    rintro ⟨d, hd, e⟩
    obtain ⟨c, hc, rfl⟩ := List.mem_map.1 hd
    have := hok.2 c hc
    unfold atL at this
    rw [e] at this
    exact hne this)] at h1
  have := h.2 k (by rw [put_len hok]; exact hk) (by rw [h1]; exact hne)
  rw [this, h1]
theorem used_next (hA : AskOK x y z cs L) (hl : l ∈ L) (hxn : xs.length = vol x y z) {i used : Nat} (hi : i < L.length) (hok : PutOK x y z cs l p xs) (h : UsedOK L.length xs used) : UsedOK L.length (putR x y z cs l p xs i) (used ||| 2 ^ i) := by
  refine ⟨Nat.or_lt_two_pow h.1 (Nat.pow_lt_pow_right (by omega) hi), fun j hj => ?_⟩
  rw [put_mem_iff hA hl hxn hok, Nat.testBit_or, Nat.testBit_two_pow, Bool.or_eq_true, h.2 j hj, decide_eq_true_iff]
  exact ⟨fun h => h.imp id fun e => e.symm, fun h => h.imp id fun e => e.symm⟩
theorem cubes_next (hS : Sides x y z) (hxn : xs.length = vol x y z) {i : Nat} (hok : PutOK x y z cs l p xs) (h : CubesOK y z x cs xs) : CubesOK y z x cs (putR x y z cs l p xs i) := fun c hc hcs e => by
  have h1 := free_next (i := i) hS hxn hok c hc
  rw [show freeX y z (putR x y z cs l p xs i) c = true from decide_eq_true e, Bool.and_eq_true] at h1
  exact h c hc hcs (of_decide_eq_true h1.1)
end
theorem sel_app {once : Bool} {A B : List (List Int)} (h : once = true → A = []) : selP once (A ++ B) = selP once A ++ selP once B := by
  cases once with
  | false => rfl
  | true => rw [h rfl]; rfl
end Go.Ab

/- Contracts: the program's search for packings. -/
namespace Go.Ab
open Go
set_option linter.unusedSimpArgs false
set_option linter.unusedVariables false
set_option maxRecDepth 20000

theorem or_int {n b : Nat} (hn : n < 256) (hb : b < 256) : IntKind.i64.wrap (((BitVec.ofInt 64 (n : Int) ||| BitVec.ofInt 64 (b : Int)).toNat : Nat) : Int) = ((n ||| b : Nat) : Int) := by
  have h3 : n ||| b < 2 ^ 8 := Nat.or_lt_two_pow hn hb
  rw [BitVec.toNat_or, BitVec.ofInt_natCast, BitVec.ofInt_natCast, BitVec.toNat_ofNat, BitVec.toNat_ofNat, Nat.mod_eq_of_lt (by omega), Nat.mod_eq_of_lt (by omega), IntKind.wrap_i64]
  generalize n ||| b = m at h3 ⊢
  omega
theorem pick_one {x y z : Int} (hS : Sides x y z) {c : Cell} (hc : c.inBox x y z) : pick x y z (fun d => decide (d = c)) = [c] := by
  refine sorted_ext (pick_sorted hS _) (by simp) fun d => ?_
  rw [mem_pick hS, decide_eq_true_iff, List.mem_singleton]
  exact ⟨fun h => h.2, fun h => ⟨h ▸ hc, h⟩⟩
/-- What a search leaves alone: all but two blocks. -/
def Frm (w c : Nat) (M N : Mem) : Prop := M.length ≤ N.length ∧ ∀ q, q < M.length → q ≠ w → q ≠ c → N[q]? = M[q]?
theorem Frm.trans {w c : Nat} {M N N' : Mem} (h : Frm w c M N) (k : Frm w c N N') : Frm w c M N' := ⟨Nat.le_trans h.1 k.1, fun q h1 h2 h3 => by rw [k.2 q (Nat.lt_of_lt_of_le h1 h.1) h2 h3]; exact h.2 q h1 h2 h3⟩
theorem Frm.of {w c : Nat} {M N : Mem} (h : Pre M N) : Frm w c M N := ⟨h.1, fun q h1 _ _ => h.2 q h1⟩
theorem Live.frm {w c q : Nat} {M N : Mem} {b : Blk} (h : Live M q b) (k : Frm w c M N) (h1 : q ≠ w) (h2 : q ≠ c) : Live N q b := Live.at h (k.2 q h.lt h1 h2)
def PEnv (x y z : Int) (n : Nat) (B : Mem) (u a v pb pl pf w c : Nat) (fv : FuncId) (M : Mem) : Prop :=
  Pre B M ∧ Live M a (.row [.ref u 0 n] true 0) ∧ Live M v (.row [.clo fv [(c, 0)]] true 0) ∧ Live M pb (.row [.I x, .I y, .I z] true 0) ∧ Live M pl (.row [.ref w 0 (vol x y z)] true 0) ∧ Live M pf (.row [.clo F.impl_Heap_packings_1 [(a, 0), (v, 0), (pl, 0), (pb, 0), (pf, 0)]] true 0)
def PDis (B : Mem) (a v pb pl pf w c : Nat) : Prop := (B.length ≤ w ∧ B.length ≤ c) ∧ (w ≠ a ∧ w ≠ v ∧ w ≠ pb ∧ w ≠ pl ∧ w ≠ pf ∧ w ≠ c) ∧ c ≠ a ∧ c ≠ v ∧ c ≠ pb ∧ c ≠ pl ∧ c ≠ pf
theorem PEnv.frm {x y z : Int} {n : Nat} {B : Mem} {u a v pb pl pf w c : Nat} {fv : FuncId} {M N : Mem} (hD : PDis B a v pb pl pf w c) (h : PEnv x y z n B u a v pb pl pf w c fv M) (k : Frm w c M N) : PEnv x y z n B u a v pb pl pf w c fv N := by
  obtain ⟨h0, h1, h2, h3, h4, h5⟩ := h
  obtain ⟨⟨d1, d2⟩, ⟨e1, e2, e3, e4, e5, e6⟩, g1, g2, g3, g4, g5⟩ := hD
  exact ⟨⟨Nat.le_trans h0.1 k.1, fun q hq => by rw [k.2 q (Nat.lt_of_lt_of_le hq h0.1) (by omega) (by omega)]; exact h0.2 q hq⟩, h1.frm k (by omega) (by omega), h2.frm k (by omega) (by omega), h3.frm k (by omega) (by omega), h4.frm k (by omega) (by omega), h5.frm k (by omega) (by omega)⟩
section
variable {x y z : Int} {cs : List Cell} {L : List (List Cell)} {once : Bool} {B : Mem} {u a v pb pl pf w c : Nat} {fv : FuncId} {Inv : List (List Int) → Mem → Prop}
  (hA : AskOK x y z cs L) (hP : Pcs B u L) (hD : PDis B a v pb pl pf w c)
  (hInv : ∀ {P : List (List Int)} {N N' : Mem}, Inv P N → N.length ≤ N'.length → (∀ q, q < N.length → q ≠ w → N'[q]? = N[q]?) → Inv P N')
  (hVis : ∀ {P : List (List Int)} {ys : List Int} {N : Mem}, (once = true → P = []) → Inv P N → Live N w (.row (intL ys) true 1) → ys.length = vol x y z → P.length + 1 ≤ 1000000000 →
    CallsR PG fv [.ref w 0 ys.length, .ptr c 0] N fun r N' => r = .B (!once) ∧ N.length ≤ N'.length ∧ (∀ q, q < N.length → q ≠ c → N'[q]? = N[q]?) ∧ Inv (P ++ [ys]) N')
include hA hP hD hInv hVis
theorem g_fill : ∀ (f : Nat) {S : List Nat} {xs ys : List Int} {used : Nat} {P0 : List (List Int)} {M : Mem}, S.length ≤ f → Lacks L.length xs S → xs.length = vol x y z → CubesOK y z x cs xs → UsedOK L.length xs used → Agr xs ys → PEnv x y z L.length B u a v pb pl pf w c fv M → c < M.length → Live M w (.row (intL ys) true 1) → Inv P0 M → (once = true → P0 = []) → P0.length + (packs x y z cs L f xs).length ≤ 1000000000 →
    CallsR PG F.impl_Heap_packings_1 [.W (bs x y z (freeX y z xs)), .I used, .ptr a 0, .ptr v 0, .ptr pl 0, .ptr pb 0, .ptr pf 0] M fun r N => r = .B (!(once && !(packs x y z cs L f xs).isEmpty)) ∧ Frm w c M N ∧ (∃ ys', Agr xs ys' ∧ Live N w (.row (intL ys') true 1)) ∧ Inv (P0 ++ selP once (packs x y z cs L f xs)) N := by
  have hH := hA.2.1
  have hS := hH.1
  have hv := vol_cast hS
  have hL8 := hA.2.2
  intro f
  induction f using Nat.strongRecOn with
  | ind f ih =>
  intro S xs ys used P0 M hSf hSl hxn hcu hus hag hE hcM hw hI hz hb
  obtain ⟨hB, bA, bV, bB, bL, bF⟩ := id hE
  have hal := bA.lt
  have hvl := bV.lt
  have hbl := bB.lt
  have hll := bL.lt
  have hfl := bF.lt
  have hwl := hw.lt
  have hul := (hP.pre hB).lt
  have hyl : ys.length = vol x y z := by rw [hag.1, hxn]
  have hu256 : used < 256 := Nat.lt_of_lt_of_le hus.1 (Nat.pow_le_pow_right (n := 2) (by omega) hL8)
  rw [packs_eq] at hb ⊢
  refine callsR_run K.impl_Heap_packings_1 rfl ?_
  simp (disch := omega) only [C.impl_Heap_packings_1, ↓SXd, SXu, slBounds, ↓sop, ↓aop, ↓reduceIte, LV.cells, AOp.dst, LV.I, LV.B, LV.U, LV.S, LV.nil, Nat.reduceEqDiff, Nat.reduceAdd, Nat.reduceMul, Nat.reduceSub, Nat.reduceLeDiff, Nat.reduceBEq, Nat.reduceDiv, Nat.reduceMod, Int.reduceToNat, Int.reduceLT, Int.reduceLE, Int.reduceAdd, Int.reduceSub, Int.reduceMul, Int.reduceEq, Int.reduceNeg, reduceCtorEq, resV, resAll, ARes.ev, LV.flat, ite_true, ite_false, exists_eq_left', exists_eq_left, keyOf, implies_true, fillC, capOf]
  by_cases hm : (-2 : Int) ∈ xs
  · rw [if_pos hm] at hb ⊢
    have hzn : ¬ (bs x y z (freeX y z xs) = 0#64) := fun e => ((free_zero hS hxn).1 e) hm
    obtain ⟨l1, l2, l3⟩ := low_hole hS hxn hm
    have hlow := bs_low hS l1 l2 l3
    have hpo := pick_one hS l1
    have hl4 := box4 hS l1
    have hpla : ∀ j, placeAt y z L j (hole xs) = shift (negC ((L.getD j []).getD 0 default)) (cellAt y z (hole xs)) := fun j => rfl
    simp (disch := omega) only [hzn, bB.cells, ↓SXd, SXu, slBounds, ↓sop, ↓aop, ↓reduceIte, LV.cells, AOp.dst, LV.I, LV.B, LV.U, LV.S, LV.nil, Nat.reduceEqDiff, Nat.reduceAdd, Nat.reduceMul, Nat.reduceSub, Nat.reduceLeDiff, Nat.reduceBEq, Nat.reduceDiv, Nat.reduceMod, Int.reduceToNat, Int.reduceLT, Int.reduceLE, Int.reduceAdd, Int.reduceSub, Int.reduceMul, Int.reduceEq, Int.reduceNeg, reduceCtorEq, resV, resAll, ARes.ev, LV.flat, ite_true, ite_false, exists_eq_left', exists_eq_left, keyOf, implies_true, fillC, capOf]
    rw [hlow]
    refine callN_of (g_list hS) ?_
    intro q N hq hpN hlN
    rw [hpo] at hlN ⊢
    generalize cellAt y z (hole xs) = c0 at l1 hl4 hpla hlN
    obtain ⟨⟨_, _⟩, ⟨_, _⟩, ⟨_, _⟩⟩ := id hl4
    have hg0 := hlN.tri0 (k := 0) (by simp)
    rw [Nat.zero_mul] at hg0
    have bAN := bA.pre hpN
    have hNl := hpN.1
    have hlN0 := hlN.lt
    have hbr : ∀ g j, brP x y z cs L g xs j = if (j : Int) ∈ xs then [] else if PutOK x y z cs (L.getD j []) (placeAt y z L j (hole xs)) xs then g (putR x y z cs (L.getD j []) (placeAt y z L j (hole xs)) xs j) else [] := fun g j => rfl
    simp (disch := omega) only [hg0, Cell.row, bAN.app.cell, ↓SXd, SXu, slBounds, ↓sop, ↓aop, ↓reduceIte, LV.cells, AOp.dst, LV.I, LV.B, LV.U, LV.S, LV.nil, Nat.reduceEqDiff, Nat.reduceAdd, Nat.reduceMul, Nat.reduceSub, Nat.reduceLeDiff, Nat.reduceBEq, Nat.reduceDiv, Nat.reduceMod, Int.reduceToNat, Int.reduceLT, Int.reduceLE, Int.reduceAdd, Int.reduceSub, Int.reduceMul, Int.reduceEq, Int.reduceNeg, reduceCtorEq, resV, resAll, ARes.ev, LV.flat, ite_true, ite_false, exists_eq_left', exists_eq_left, keyOf, implies_true, fillC, capOf]
    refine ev_loop (fun m fr M' => ∃ (k : Nat) (ys : List Int), k + m = L.length ∧ Frm w c M M' ∧ Live M' N.length (.row [.I c0.a, .I c0.b, .I c0.c] true 0) ∧ Live M' w (.row (intL ys) true 1) ∧ Agr xs ys ∧ Inv (P0 ++ selP once ((List.range k).flatMap (brP x y z cs L (packsB x y z cs L f) xs))) M' ∧ (once = true → (List.range k).flatMap (brP x y z cs L (packsB x y z cs L f) xs) = []) ∧
      fr 0 = .W (bs x y z (freeX y z xs)) ∧ fr 1 = .I used ∧ fr 2 = .ptr a 0 ∧ fr 3 = .ptr v 0 ∧ fr 4 = .ptr pl 0 ∧ fr 5 = .ptr pb 0 ∧ fr 6 = .ptr pf 0 ∧ fr 10 = .ptr N.length 0 ∧ fr 38 = .ref u 0 L.length ∧ fr 39 = .I L.length ∧ fr 40 = .I k) L.length
      ⟨0, ys, by omega, Frm.of (hpN.app'), Live.new, (hw.pre hpN).app, hag, by
        rw [List.range_zero, List.flatMap_nil, show selP once [] = [] by cases once <;> rfl, List.append_nil]
        exact hInv hI (by rw [List.length_append]; omega) fun q h1 _ => by rw [List.getElem?_append_left (by omega)]; exact hpN.2 q h1, fun _ => rfl, rfl, rfl, rfl, rfl, rfl, rfl, rfl, rfl, rfl, rfl, rfl⟩ ?_
    clear hag hI hw hyl ys
    rintro m fr M' ⟨k, ys, hk, hfr, b10, hw, hag, hI, hnone, f0, f1, f2, f3, f4, f5, f6, f10, f38, f39, f40⟩
    simp (disch := omega) only [f0, f1, f2, f3, f4, f5, f6, f10, f38, f39, f40, ↓SXd, SXu, slBounds, ↓sop, ↓aop, ↓reduceIte, LV.cells, AOp.dst, LV.I, LV.B, LV.U, LV.S, LV.nil, Nat.reduceEqDiff, Nat.reduceAdd, Nat.reduceMul, Nat.reduceSub, Nat.reduceLeDiff, Nat.reduceBEq, Nat.reduceDiv, Nat.reduceMod, Int.reduceToNat, Int.reduceLT, Int.reduceLE, Int.reduceAdd, Int.reduceSub, Int.reduceMul, Int.reduceEq, Int.reduceNeg, reduceCtorEq, resV, resAll, ARes.ev, LV.flat, ite_true, ite_false, exists_eq_left', exists_eq_left, keyOf, implies_true, fillC, capOf]
    have hE' := hE.frm hD hfr
    obtain ⟨hB', bA', bV', bB', bL', bF'⟩ := id hE'
    refine condC_dec (fun hlt => ?_) (fun hlt => ?_)
    · have hkl : k < L.length := by omega
      obtain ⟨vv, o', hg, hTr⟩ := (hP.pre hB').get hkl
      have hlm := getD_mem' (d := []) hkl
      have hPk := hA.1 _ hlm
      have hp5 := hPk.1
      have hbi := bit_int (n := used) (i := k) (by omega)
      have hbit := hus.2 k hkl
      have hd4 := hPk.2.1.mem (getD_mem' (d := default) (show 0 < (L.getD k []).length by omega))
      have hpk := hpla k
      have hbrk := hbr (packsB x y z cs L f) k
      have hsk := flat_succ (f := brP x y z cs L (packsB x y z cs L f) xs) (i := k)
      obtain ⟨T1, hT1⟩ := flat_le (f := brP x y z cs L (packsB x y z cs L f) xs) (show k + 1 ≤ L.length from hkl)
      have hcnt : (P0 ++ selP once ((List.range k).flatMap (brP x y z cs L (packsB x y z cs L f) xs))).length + (brP x y z cs L (packsB x y z cs L f) xs k).length ≤ 1000000000 := by
        have e2 := selP_len (once := once) (P := (List.range k).flatMap (brP x y z cs L (packsB x y z cs L f) xs))
        rw [hT1, hsk, List.length_append, List.length_append] at hb
        rw [List.length_append]; omega
      have hsa := sel_app (B := brP x y z cs L (packsB x y z cs L f) xs k) hnone
      rw [← hsk] at hsa
      have hyl : ys.length = vol x y z := by rw [hag.1, hxn]
      have hTm := fun {L' : Mem} {j : Nat} (hj : j < (L.getD k []).length) => Tri.get_a (hTr.app (L := L')) hj
      have hb10l := b10.lt
      have hbl' := bB'.lt
      have hll' := bL'.lt
      have hfl' := bF'.lt
      generalize hdd : (L.getD k []).getD 0 default = d at hd4 hpk
      obtain ⟨⟨_, _⟩, ⟨_, _⟩, ⟨_, _⟩⟩ := id hd4
      generalize hlk : L.getD k [] = l at hg hTr hPk hp5 hbrk hdd hlm
      have hneg : (⟨0 - d.a, 0 - d.b, 0 - d.c⟩ : Cell) = negC d := by unfold negC; rw [Int.zero_sub, Int.zero_sub, Int.zero_sub]
      have hTa := Tri.get_a hTr (k := 0) (by omega)
      have hTb := Tri.get_b hTr (k := 0) (by omega)
      have hTc := Tri.get_c hTr (k := 0) (by omega)
      rw [Nat.zero_mul, Nat.add_zero, hdd] at hTa hTb hTc
      have hin : ∀ e ∈ l, e.inBox 4 4 4 := fun e he => hPk.2.1.mem he
      simp (disch := omega) only [f0, f1, f2, f3, f4, f5, f6, f10, f38, f39, f40, hg, Nat.mul_one, Nat.zero_add, hbi, ↓SXd, SXu, slBounds, ↓sop, ↓aop, ↓reduceIte, LV.cells, AOp.dst, LV.I, LV.B, LV.U, LV.S, LV.nil, Nat.reduceEqDiff, Nat.reduceAdd, Nat.reduceMul, Nat.reduceSub, Nat.reduceLeDiff, Nat.reduceBEq, Nat.reduceDiv, Nat.reduceMod, Int.reduceToNat, Int.reduceLT, Int.reduceLE, Int.reduceAdd, Int.reduceSub, Int.reduceMul, Int.reduceEq, Int.reduceNeg, reduceCtorEq, resV, resAll, ARes.ev, LV.flat, ite_true, ite_false, exists_eq_left', exists_eq_left, keyOf, implies_true, fillC, capOf]
      cases hub : used.testBit k with
      | true =>
        rw [if_pos (hbit.1 hub)] at hbrk
        rw [hbrk, List.append_nil] at hsk
        simp (disch := omega) only [f0, f1, f2, f3, f4, f5, f6, f10, f38, f39, f40, ↓SXd, SXu, slBounds, ↓sop, ↓aop, ↓reduceIte, LV.cells, AOp.dst, LV.I, LV.B, LV.U, LV.S, LV.nil, Nat.reduceEqDiff, Nat.reduceAdd, Nat.reduceMul, Nat.reduceSub, Nat.reduceLeDiff, Nat.reduceBEq, Nat.reduceDiv, Nat.reduceMod, Int.reduceToNat, Int.reduceLT, Int.reduceLE, Int.reduceAdd, Int.reduceSub, Int.reduceMul, Int.reduceEq, Int.reduceNeg, reduceCtorEq, resV, resAll, ARes.ev, LV.flat, ite_true, ite_false, exists_eq_left', exists_eq_left, keyOf, implies_true, fillC, capOf]
        exact ⟨m - 1, by omega, k + 1, ys, by omega, hfr, b10, hw, hag, by rw [hsk]; exact hI, by rw [hsk]; exact hnone, f0, f1, f2, f3, f4, f5, f6, f10, f38, f39, eqI (natI _)⟩
      | false =>
        have hkx : (k : Int) ∉ xs := fun h => by rw [hbit.2 h] at hub; cases hub
        rw [if_neg hkx] at hbrk
        simp (disch := omega) only [f0, f1, f2, f3, f4, f5, f6, f10, f38, f39, f40, b10.cells, hTa, hTb, hTc, Nat.zero_mul, Nat.add_zero, splice, ↓SXd, SXu, slBounds, ↓sop, ↓aop, ↓reduceIte, LV.cells, AOp.dst, LV.I, LV.B, LV.U, LV.S, LV.nil, Nat.reduceEqDiff, Nat.reduceAdd, Nat.reduceMul, Nat.reduceSub, Nat.reduceLeDiff, Nat.reduceBEq, Nat.reduceDiv, Nat.reduceMod, Int.reduceToNat, Int.reduceLT, Int.reduceLE, Int.reduceAdd, Int.reduceSub, Int.reduceMul, Int.reduceEq, Int.reduceNeg, reduceCtorEq, resV, resAll, ARes.ev, LV.flat, ite_true, ite_false, exists_eq_left', exists_eq_left, keyOf, implies_true, fillC, capOf]
        refine callK_of (g_added (c := c0) (p := ⟨0 - d.a, 0 - d.b, 0 - d.c⟩) ⟨by omega, by omega, by omega⟩ ⟨by show _ ∧ _; simp only; omega, by show _ ∧ _; simp only; omega, by show _ ∧ _; simp only; omega⟩) ?_
        rw [hneg, ← hpk]
        simp (disch := omega) only [f0, f1, f2, f3, f4, f5, f6, f10, f38, f39, f40, splice, bB'.app.cells, ↓SXd, SXu, slBounds, ↓sop, ↓aop, ↓reduceIte, LV.cells, AOp.dst, LV.I, LV.B, LV.U, LV.S, LV.nil, Nat.reduceEqDiff, Nat.reduceAdd, Nat.reduceMul, Nat.reduceSub, Nat.reduceLeDiff, Nat.reduceBEq, Nat.reduceDiv, Nat.reduceMod, Int.reduceToNat, Int.reduceLT, Int.reduceLE, Int.reduceAdd, Int.reduceSub, Int.reduceMul, Int.reduceEq, Int.reduceNeg, reduceCtorEq, resV, resAll, ARes.ev, LV.flat, ite_true, ite_false, exists_eq_left', exists_eq_left, keyOf, implies_true, fillC, capOf]
        refine callK_of (g_placed hS (hTr.app) (by omega) hin) ?_
        have hpi := placed_iff (p := placeAt y z L k (hole xs)) hS hPk hcu
        by_cases hok : PutOK x y z cs l (placeAt y z L k (hole xs)) xs
        · rw [if_pos (hpi.2 hok), decide_eq_true (hpi.2 hok)]
          rw [if_pos hok] at hbrk
          simp (disch := omega) only [f0, f1, f2, f3, f4, f5, f6, f10, f38, f39, f40, bL'.app.cell, ↓SXd, SXu, slBounds, ↓sop, ↓aop, ↓reduceIte, LV.cells, AOp.dst, LV.I, LV.B, LV.U, LV.S, LV.nil, Nat.reduceEqDiff, Nat.reduceAdd, Nat.reduceMul, Nat.reduceSub, Nat.reduceLeDiff, Nat.reduceBEq, Nat.reduceDiv, Nat.reduceMod, Int.reduceToNat, Int.reduceLT, Int.reduceLE, Int.reduceAdd, Int.reduceSub, Int.reduceMul, Int.reduceEq, Int.reduceNeg, reduceCtorEq, resV, resAll, ARes.ev, LV.flat, ite_true, ite_false, exists_eq_left', exists_eq_left, keyOf, implies_true, fillC, capOf]
          have hN1l : (M' ++ [some (Blk.row [LV.I (placeAt y z L k (hole xs)).a, LV.I (placeAt y z L k (hole xs)).b, LV.I (placeAt y z L k (hole xs)).c] true 0)]).length = M'.length + 1 := by simp
          have hfr1 : Frm w c M' (M' ++ [some (Blk.row [LV.I (placeAt y z L k (hole xs)).a, LV.I (placeAt y z L k (hole xs)).b, LV.I (placeAt y z L k (hole xs)).c] true 0)]) := Frm.of (Pre.app _ _)
          have hw1 := hw.app (L := [some (Blk.row [LV.I (placeAt y z L k (hole xs)).a, LV.I (placeAt y z L k (hole xs)).b, LV.I (placeAt y z L k (hole xs)).c] true 0)])
          have hI1 : Inv _ (M' ++ [some (Blk.row [LV.I (placeAt y z L k (hole xs)).a, LV.I (placeAt y z L k (hole xs)).b, LV.I (placeAt y z L k (hole xs)).c] true 0)]) := hInv hI (by simp) fun q h1 _ => List.getElem?_append_left h1
          generalize M' ++ [some (Blk.row [LV.I (placeAt y z L k (hole xs)).a, LV.I (placeAt y z L k (hole xs)).b, LV.I (placeAt y z L k (hole xs)).c] true 0)] = N1 at hN1l hfr1 hw1 hI1 ⊢
          have hE1 := hE'.frm hD hfr1
          obtain ⟨hB1, bA1, bV1, bB1, bL1, bF1⟩ := id hE1
          obtain ⟨⟨d1, d2⟩, ⟨e1, e2, e3, e4, e5, e6⟩, g1, g2, g3, g4, g5⟩ := id hD
          have hag2 := agree_next (i := k) hS hxn hok hag
          have hfn := free_next (i := k) hS hxn hok
          have hmd : ∀ e, e ∈ l.map (shift (placeAt y z L k (hole xs))) → e.inBox x y z := fun e he => by
            obtain ⟨b, hb', rfl⟩ := List.mem_map.1 he
            exact (hok.1.2 b hb').1
          generalize hds : l.map (shift (placeAt y z L k (hole xs))) = ds at hag2 hfn hmd ⊢
          refine ev_loop (fun m2 fr2 M2 => ∃ j : Nat, j + m2 = vol x y z ∧ M2.length = N1.length ∧ (∀ q, q ≠ w → q < N1.length → M2[q]? = N1[q]?) ∧ Live M2 w (.row (intL (overL y z ds k ys j)) true 1) ∧
            fr2 0 = .W (bs x y z (freeX y z xs)) ∧ fr2 1 = .I used ∧ fr2 2 = .ptr a 0 ∧ fr2 3 = .ptr v 0 ∧ fr2 4 = .ptr pl 0 ∧ fr2 5 = .ptr pb 0 ∧ fr2 6 = .ptr pf 0 ∧ fr2 10 = .ptr N.length 0 ∧ fr2 11 = .I k ∧ fr2 14 = .W (bs x y z fun e => decide (e ∈ ds)) ∧ fr2 38 = .ref u 0 L.length ∧ fr2 39 = .I L.length ∧ fr2 40 = .I k ∧ fr2 79 = .I (vol x y z : Nat) ∧ fr2 80 = .I j) (vol x y z)
            ⟨0, by omega, rfl, fun _ _ _ => rfl, hw1, f0, f1, f2, f3, f4, f5, f6, f10, rfl, rfl, f38, f39, f40, rfl, rfl⟩ ?_
          rintro m2 fr2 M2 ⟨j, hj, hl2, hk2, hw2, g0, g1, g2, g3, g4, g5, g6, g10, g11, g14, g38, g39, g40, g79, g80⟩
          have hfr2 : Frm w c N1 M2 := ⟨by omega, fun q h1 h2 _ => hk2 q h2 h1⟩
          have hE2 := hE1.frm hD hfr2
          obtain ⟨hB2, bA2, bV2, bB2, bL2, bF2⟩ := id hE2
          simp (disch := omega) only [g0, g1, g2, g3, g4, g5, g6, g10, g11, g14, g38, g39, g40, g79, g80, ↓SXd, SXu, slBounds, ↓sop, ↓aop, ↓reduceIte, LV.cells, AOp.dst, LV.I, LV.B, LV.U, LV.S, LV.nil, Nat.reduceEqDiff, Nat.reduceAdd, Nat.reduceMul, Nat.reduceSub, Nat.reduceLeDiff, Nat.reduceBEq, Nat.reduceDiv, Nat.reduceMod, Int.reduceToNat, Int.reduceLT, Int.reduceLE, Int.reduceAdd, Int.reduceSub, Int.reduceMul, Int.reduceEq, Int.reduceNeg, reduceCtorEq, resV, resAll, ARes.ev, LV.flat, ite_true, ite_false, exists_eq_left', exists_eq_left, keyOf, implies_true, fillC, capOf]
          refine condC_dec (fun hlt2 => ?_) (fun hlt2 => ?_)
          · have hjv : j < vol x y z := by omega
            have hcj := cellAt_in hS (i := (j : Int)) (by omega) (by omega)
            have hbj := bs_has hS (p := fun e => decide (e ∈ ds)) hcj.1
            rw [hcj.2, Int.toNat_natCast] at hbj
            simp (disch := omega) only [g0, g1, g2, g3, g4, g5, g6, g10, g11, g14, g38, g39, g40, g79, g80, ↓SXd, SXu, slBounds, ↓sop, ↓aop, ↓reduceIte, LV.cells, AOp.dst, LV.I, LV.B, LV.U, LV.S, LV.nil, Nat.reduceEqDiff, Nat.reduceAdd, Nat.reduceMul, Nat.reduceSub, Nat.reduceLeDiff, Nat.reduceBEq, Nat.reduceDiv, Nat.reduceMod, Int.reduceToNat, Int.reduceLT, Int.reduceLE, Int.reduceAdd, Int.reduceSub, Int.reduceMul, Int.reduceEq, Int.reduceNeg, reduceCtorEq, resV, resAll, ARes.ev, LV.flat, ite_true, ite_false, exists_eq_left', exists_eq_left, keyOf, implies_true, fillC, capOf]
            refine callK_of (g_has_set (by omega)) ?_
            rw [Int.toNat_natCast, hbj]
            have hov : overL y z ds k ys (j + 1) = if cellAt y z j ∈ ds then (overL y z ds k ys j).set j k else overL y z ds k ys j := rfl
            by_cases hmj : cellAt y z j ∈ ds
            · rw [if_pos hmj] at hov
              rw [decide_eq_true hmj]
              simp (disch := omega) only [g0, g1, g2, g3, g4, g5, g6, g10, g11, g14, g38, g39, g40, g79, g80, bL2.cell, Nat.mul_one, Nat.zero_add, ↓SXd, SXu, slBounds, ↓sop, ↓aop, ↓reduceIte, LV.cells, AOp.dst, LV.I, LV.B, LV.U, LV.S, LV.nil, Nat.reduceEqDiff, Nat.reduceAdd, Nat.reduceMul, Nat.reduceSub, Nat.reduceLeDiff, Nat.reduceBEq, Nat.reduceDiv, Nat.reduceMod, Int.reduceToNat, Int.reduceLT, Int.reduceLE, Int.reduceAdd, Int.reduceSub, Int.reduceMul, Int.reduceEq, Int.reduceNeg, reduceCtorEq, resV, resAll, ARes.ev, LV.flat, ite_true, ite_false, exists_eq_left', exists_eq_left, keyOf, implies_true, fillC, capOf]
              refine memK_int hw2 (by rw [overL_len]; omega) fun N3 k1 k2 k3 => ?_
              rw [← hov] at k2
              simp (disch := omega) only [g0, g1, g2, g3, g4, g5, g6, g10, g11, g14, g38, g39, g40, g79, g80, ↓SXd, SXu, slBounds, ↓sop, ↓aop, ↓reduceIte, LV.cells, AOp.dst, LV.I, LV.B, LV.U, LV.S, LV.nil, Nat.reduceEqDiff, Nat.reduceAdd, Nat.reduceMul, Nat.reduceSub, Nat.reduceLeDiff, Nat.reduceBEq, Nat.reduceDiv, Nat.reduceMod, Int.reduceToNat, Int.reduceLT, Int.reduceLE, Int.reduceAdd, Int.reduceSub, Int.reduceMul, Int.reduceEq, Int.reduceNeg, reduceCtorEq, resV, resAll, ARes.ev, LV.flat, ite_true, ite_false, exists_eq_left', exists_eq_left, keyOf, implies_true, fillC, capOf]
              exact ⟨m2 - 1, by omega, j + 1, by omega, by omega, fun q h1 h2 => by rw [k3 q h1 (by omega)]; exact hk2 q h1 h2, k2, g0, g1, g2, g3, g4, g5, g6, g10, g11, g14, g38, g39, g40, g79, eqI (natI _)⟩
            · rw [if_neg hmj] at hov
              rw [decide_eq_false hmj]
              simp (disch := omega) only [g0, g1, g2, g3, g4, g5, g6, g10, g11, g14, g38, g39, g40, g79, g80, ↓SXd, SXu, slBounds, ↓sop, ↓aop, ↓reduceIte, LV.cells, AOp.dst, LV.I, LV.B, LV.U, LV.S, LV.nil, Nat.reduceEqDiff, Nat.reduceAdd, Nat.reduceMul, Nat.reduceSub, Nat.reduceLeDiff, Nat.reduceBEq, Nat.reduceDiv, Nat.reduceMod, Int.reduceToNat, Int.reduceLT, Int.reduceLE, Int.reduceAdd, Int.reduceSub, Int.reduceMul, Int.reduceEq, Int.reduceNeg, reduceCtorEq, resV, resAll, ARes.ev, LV.flat, ite_true, ite_false, exists_eq_left', exists_eq_left, keyOf, implies_true, fillC, capOf]
              exact ⟨m2 - 1, by omega, j + 1, by omega, hl2, hk2, by rw [hov]; exact hw2, g0, g1, g2, g3, g4, g5, g6, g10, g11, g14, g38, g39, g40, g79, eqI (natI _)⟩
          · have : j = vol x y z := by omega
            subst this
            obtain ⟨W, hW⟩ : ∃ W : Nat, W = 2 ^ k := ⟨_, rfl⟩
            have hpe : (1 : Int) * 2 ^ (min k 64) = (W : Int) := by
              rw [Nat.min_eq_left (by omega), hW, Int.natCast_pow, Int.one_mul]; rfl
            have hW2 : 1 ≤ W ∧ W < 256 := by
              rw [hW]; exact ⟨Nat.pos_of_ne_zero (by simp), Nat.pow_lt_pow_right (n := 8) (by omega) (by omega)⟩
            have hor := or_int (n := used) (b := W) (by omega) hW2.2
            simp (disch := omega) only [g0, g1, g2, g3, g4, g5, g6, g10, g11, g14, g38, g39, g40, g79, g80, bF2.cell, hpe, hor, ↓SXd, SXu, slBounds, ↓sop, ↓aop, ↓reduceIte, LV.cells, AOp.dst, LV.I, LV.B, LV.U, LV.S, LV.nil, Nat.reduceEqDiff, Nat.reduceAdd, Nat.reduceMul, Nat.reduceSub, Nat.reduceLeDiff, Nat.reduceBEq, Nat.reduceDiv, Nat.reduceMod, Int.reduceToNat, Int.reduceLT, Int.reduceLE, Int.reduceAdd, Int.reduceSub, Int.reduceMul, Int.reduceEq, Int.reduceNeg, reduceCtorEq, resV, resAll, ARes.ev, LV.flat, ite_true, ite_false, exists_eq_left', exists_eq_left, keyOf, implies_true, fillC, capOf]
            rw [bs_diff hS, (bs_eq hS).2 hfn, hW]
            cases f with
            | zero =>
              have hS0 : S = [] := List.eq_nil_of_length_eq_zero (by omega)
              have := hSl k hkl hkx
              rw [hS0] at this
              cases this
            | succ f =>
              have hin2 := hSl k hkl hkx
              have hbe : brP x y z cs L (packsB x y z cs L (f + 1)) xs k = packs x y z cs L f (putR x y z cs l (placeAt y z L k (hole xs)) xs k) := hbrk
              have hI2 : Inv _ M2 := hInv hI1 (by omega) fun q h1 h2 => hk2 q h2 h1
              rw [hbe] at hcnt hsa hsk
              have hih := ih f (by omega) (S := S.erase k) (xs := putR x y z cs l (placeAt y z L k (hole xs)) xs k) (ys := overL y z ds k ys (vol x y z)) (used := used ||| 2 ^ k) (M := M2) (by rw [List.length_erase_of_mem hin2]; omega) (lacks_next hS hxn hok (by omega) hSl) (by rw [put_len hok]; exact hxn) (cubes_next hS hxn hok hcu) (used_next hA hlm hxn hkl hok hus) hag2 hE2 (by have := hfr.1; omega) hw2 hI2 (fun e => by rw [hz e, hnone e]; cases once <;> rfl) hcnt
              refine callR_of hih ?_
              rintro _ N3 ⟨rfl, hfr3, ⟨ys3, hag3, hw3⟩, hI3⟩
              rw [List.append_assoc, ← hsa] at hI3
              have hfrA : Frm w c M N3 := ((hfr.trans hfr1).trans hfr2).trans hfr3
              have hagB := agree_back hok hag3
              generalize packs x y z cs L f (putR x y z cs l (placeAt y z L k (hole xs)) xs k) = Q at hsk hsa hI3 hcnt ⊢
              by_cases hst : once = true ∧ Q ≠ []
              · obtain ⟨rfl, hQ⟩ := hst
                have hQe : Q.isEmpty = false := by cases Q with
                  | nil => exact absurd rfl hQ
                  | cons _ _ => rfl
                rw [hnone rfl, List.nil_append] at hsk
                rw [hQe]
                simp (disch := omega) only [g0, g1, g2, g3, g4, g5, g6, g10, g11, g14, g38, g39, g40, g79, g80, Bool.and_self, ↓SXd, SXu, slBounds, ↓sop, ↓aop, ↓reduceIte, LV.cells, AOp.dst, LV.I, LV.B, LV.U, LV.S, LV.nil, Nat.reduceEqDiff, Nat.reduceAdd, Nat.reduceMul, Nat.reduceSub, Nat.reduceLeDiff, Nat.reduceBEq, Nat.reduceDiv, Nat.reduceMod, Int.reduceToNat, Int.reduceLT, Int.reduceLE, Int.reduceAdd, Int.reduceSub, Int.reduceMul, Int.reduceEq, Int.reduceNeg, reduceCtorEq, resV, resAll, ARes.ev, LV.flat, ite_true, ite_false, exists_eq_left', exists_eq_left, keyOf, implies_true, fillC, capOf]
                rw [hT1, hsk]
                cases Q with
                | nil => exact absurd rfl hQ
                | cons q1 Q =>
                  refine ⟨rfl, hfrA, ⟨ys3, hagB, hw3⟩, ?_⟩
                  rw [hsk] at hI3
                  exact hI3
              · have hval : (!(once && !Q.isEmpty)) = true := by
                  cases once with
                  | false => rfl
                  | true =>
                    have : Q = [] := Classical.byContradiction fun h => hst ⟨rfl, h⟩
                    rw [this]; rfl
                rw [hval]
                simp (disch := omega) only [g0, g1, g2, g3, g4, g5, g6, g10, g11, g14, g38, g39, g40, g79, g80, ↓SXd, SXu, slBounds, ↓sop, ↓aop, ↓reduceIte, LV.cells, AOp.dst, LV.I, LV.B, LV.U, LV.S, LV.nil, Nat.reduceEqDiff, Nat.reduceAdd, Nat.reduceMul, Nat.reduceSub, Nat.reduceLeDiff, Nat.reduceBEq, Nat.reduceDiv, Nat.reduceMod, Int.reduceToNat, Int.reduceLT, Int.reduceLE, Int.reduceAdd, Int.reduceSub, Int.reduceMul, Int.reduceEq, Int.reduceNeg, reduceCtorEq, resV, resAll, ARes.ev, LV.flat, ite_true, ite_false, exists_eq_left', exists_eq_left, keyOf, implies_true, fillC, capOf]
                exact ⟨m - 1, by omega, k + 1, ys3, by omega, hfrA, (b10.frm ((hfr1.trans hfr2).trans hfr3) (by omega) (by omega)), hw3, hagB, hI3, fun e => by
                  rw [hsk, hnone e]
                  exact Classical.byContradiction fun h => hst ⟨e, h⟩, g0, g1, g2, g3, g4, g5, g6, g10, g38, g39, eqI (natI _)⟩
        · rw [if_neg (fun h => hok (hpi.1 h)), decide_eq_false (fun h => hok (hpi.1 h))]
          rw [if_neg hok] at hbrk
          rw [hbrk, List.append_nil] at hsk
          simp (disch := omega) only [f0, f1, f2, f3, f4, f5, f6, f10, f38, f39, f40, ↓SXd, SXu, slBounds, ↓sop, ↓aop, ↓reduceIte, LV.cells, AOp.dst, LV.I, LV.B, LV.U, LV.S, LV.nil, Nat.reduceEqDiff, Nat.reduceAdd, Nat.reduceMul, Nat.reduceSub, Nat.reduceLeDiff, Nat.reduceBEq, Nat.reduceDiv, Nat.reduceMod, Int.reduceToNat, Int.reduceLT, Int.reduceLE, Int.reduceAdd, Int.reduceSub, Int.reduceMul, Int.reduceEq, Int.reduceNeg, reduceCtorEq, resV, resAll, ARes.ev, LV.flat, ite_true, ite_false, exists_eq_left', exists_eq_left, keyOf, implies_true, fillC, capOf]
          exact ⟨m - 1, by omega, k + 1, ys, by omega, hfr.trans (Frm.of (Pre.app _ _)), b10.app, hw.app, hag, by rw [hsk]; exact hInv hI (by simp) fun q h1 _ => List.getElem?_append_left h1, by rw [hsk]; exact hnone, f0, f1, f2, f3, f4, f5, f6, f10, f38, f39, eqI (natI _)⟩
    · simp (disch := omega) only [f0, f1, f2, f3, f4, f5, f6, f10, f38, f39, f40, ↓SXd, SXu, slBounds, ↓sop, ↓aop, ↓reduceIte, LV.cells, AOp.dst, LV.I, LV.B, LV.U, LV.S, LV.nil, Nat.reduceEqDiff, Nat.reduceAdd, Nat.reduceMul, Nat.reduceSub, Nat.reduceLeDiff, Nat.reduceBEq, Nat.reduceDiv, Nat.reduceMod, Int.reduceToNat, Int.reduceLT, Int.reduceLE, Int.reduceAdd, Int.reduceSub, Int.reduceMul, Int.reduceEq, Int.reduceNeg, reduceCtorEq, resV, resAll, ARes.ev, LV.flat, ite_true, ite_false, exists_eq_left', exists_eq_left, keyOf, implies_true, fillC, capOf]
      have : k = L.length := by omega
      subst this
      refine ⟨?_, hfr, ⟨ys, hag, hw⟩, hI⟩
      cases once with
      | false => rfl
      | true => rw [hnone rfl]; rfl
  · rw [if_neg hm] at hb ⊢
    have hz0 := (free_zero hS hxn).2 hm
    have hya := agree_all hag hm
    obtain ⟨W, hW⟩ : ∃ W : Nat, W = 2 ^ L.length := ⟨_, rfl⟩
    have hpe : (1 : Int) * 2 ^ (min L.length 64) = (W : Int) := by
      rw [Nat.min_eq_left (by omega), hW, Int.natCast_pow, Int.one_mul]; rfl
    have hW2 : 1 ≤ W ∧ W ≤ 256 := by
      rw [hW]; exact ⟨Nat.pos_of_ne_zero (by simp), Nat.pow_le_pow_right (n := 2) (by omega) hL8⟩
    have hfull := used_full hus
    rw [← hW] at hfull
    by_cases hall : ∀ i : Nat, i < L.length → (i : Int) ∈ xs
    · have he : (used : Int) = (W : Int) - 1 := by have := hfull.2 hall; omega
      have hlf : leafP L.length xs = [xs] := by unfold leafP; rw [if_pos hall]
      rw [hlf] at hb ⊢
      simp (disch := omega) only [hz0, bA.cell, hpe, he, bV.cell, bL.cell, ↓SXd, SXu, slBounds, ↓sop, ↓aop, ↓reduceIte, LV.cells, AOp.dst, LV.I, LV.B, LV.U, LV.S, LV.nil, Nat.reduceEqDiff, Nat.reduceAdd, Nat.reduceMul, Nat.reduceSub, Nat.reduceLeDiff, Nat.reduceBEq, Nat.reduceDiv, Nat.reduceMod, Int.reduceToNat, Int.reduceLT, Int.reduceLE, Int.reduceAdd, Int.reduceSub, Int.reduceMul, Int.reduceEq, Int.reduceNeg, reduceCtorEq, resV, resAll, ARes.ev, LV.flat, ite_true, ite_false, exists_eq_left', exists_eq_left, keyOf, implies_true, fillC, capOf]
      have hvis := hVis (P := P0) (ys := ys) (N := M) hz hI hw hyl (by simpa using hb)
      rw [hyl] at hvis
      refine callR_of hvis ?_
      rintro _ N ⟨rfl, k1, k2, k3⟩
      have hr : LV.B (!once) = LV.B (!(once && !([xs] : List (List Int)).isEmpty)) := by cases once <;> rfl
      simp (disch := omega) only [↓SXd, SXu, slBounds, ↓sop, ↓aop, ↓reduceIte, LV.cells, AOp.dst, LV.I, LV.B, LV.U, LV.S, LV.nil, Nat.reduceEqDiff, Nat.reduceAdd, Nat.reduceMul, Nat.reduceSub, Nat.reduceLeDiff, Nat.reduceBEq, Nat.reduceDiv, Nat.reduceMod, Int.reduceToNat, Int.reduceLT, Int.reduceLE, Int.reduceAdd, Int.reduceSub, Int.reduceMul, Int.reduceEq, Int.reduceNeg, reduceCtorEq, resV, resAll, ARes.ev, LV.flat, ite_true, ite_false, exists_eq_left', exists_eq_left, keyOf, implies_true, fillC, capOf]
      refine ⟨hr, ⟨k1, fun q h1 _ h3 => k2 q h1 h3⟩, ⟨ys, hag, Live.at hw (k2 w hwl (by have := hD.2.1.2.2.2.2.2; omega))⟩, ?_⟩
      rw [show selP once [xs] = [ys] by rw [hya]; cases once <;> rfl]
      exact k3
    · have he : ¬ (used : Int) = (W : Int) - 1 := fun e => hall (hfull.1 (by omega))
      have hlf : leafP L.length xs = [] := by unfold leafP; rw [if_neg hall]
      rw [hlf] at hb ⊢
      simp (disch := omega) only [hz0, bA.cell, hpe, he, ↓SXd, SXu, slBounds, ↓sop, ↓aop, ↓reduceIte, LV.cells, AOp.dst, LV.I, LV.B, LV.U, LV.S, LV.nil, Nat.reduceEqDiff, Nat.reduceAdd, Nat.reduceMul, Nat.reduceSub, Nat.reduceLeDiff, Nat.reduceBEq, Nat.reduceDiv, Nat.reduceMod, Int.reduceToNat, Int.reduceLT, Int.reduceLE, Int.reduceAdd, Int.reduceSub, Int.reduceMul, Int.reduceEq, Int.reduceNeg, reduceCtorEq, resV, resAll, ARes.ev, LV.flat, ite_true, ite_false, exists_eq_left', exists_eq_left, keyOf, implies_true, fillC, capOf]
      exact ⟨by simp, Frm.of (Pre.refl _), ⟨ys, hag, hw⟩, by rw [show selP once [] = [] by cases once <;> rfl, List.append_nil]; exact hI⟩
end
end Go.Ab

/- Contracts: all packings, and how many there are, the program's side. -/
namespace Go.Ab
open Go
set_option linter.unusedSimpArgs false
set_option linter.unusedVariables false
set_option maxRecDepth 20000

theorem start_at {x y z : Int} {cs : List Cell} (hS : Sides x y z) {c : Cell} (hc : c.inBox x y z) : atL y z (startL x y z cs) c = if c ∈ cs then -1 else -2 := by
  have hi := idx_in hS hc
  have hv := vol_cast hS
  have hk : (idx y z c).toNat < vol x y z := by omega
  have e : cellAt y z ((idx y z c).toNat : Nat) = c := by rw [show (((idx y z c).toNat : Nat) : Int) = idx y z c by omega]; exact hi.2.2
  unfold atL startL cellsOf
  simp [hk, show max (idx y z c) 0 = idx y z c by omega, hi.2.2]
theorem start_free {x y z : Int} {cs : List Cell} (hS : Sides x y z) (c : Cell) (hc : c.inBox x y z) : freeP cs c = freeX y z (startL x y z cs) c := by
  unfold freeP freeX
  rw [start_at hS hc]
  by_cases h : c ∈ cs <;> simp [h]
theorem start_cubes {x y z : Int} {cs : List Cell} (hS : Sides x y z) : CubesOK y z x cs (startL x y z cs) := fun c hc hm => by
  rw [start_at hS hc, if_pos hm]; omega
theorem start_agr {x y z : Int} {cs : List Cell} : Agr (startL x y z cs) (List.replicate (vol x y z) (-1)) := by
  refine ⟨by simp [startL, cellsOf], fun k hk h => ?_⟩
  have hk2 : k < vol x y z := by simpa [startL, cellsOf] using hk
  have : (startL x y z cs).getD k 0 = if cellAt y z k ∈ cs then -1 else -2 := by unfold startL cellsOf; simp [hk2]
  rw [this] at h ⊢
  split at h
  · rename_i hc; rw [if_pos hc]; simp [hk2]
  · exact absurd rfl h
section
variable {x y z : Int} {t o u c : Nat} {cs : List Cell} {L : List (List Cell)} {once : Bool} {B M : Mem} {fv : FuncId} {Inv : Nat → List (List Int) → Mem → Prop}
  (hA : AskOK x y z cs L) (h : Tri B t o cs) (hP : Pcs B u L) (hBM : Pre B M) (hc1 : B.length ≤ c) (hc2 : c < M.length)
  (hI : ∀ w, M.length ≤ w → Inv w [] M)
  (hInv : ∀ {w : Nat} {P : List (List Int)} {N N' : Mem}, Inv w P N → N.length ≤ N'.length → (∀ q, q < N.length → q ≠ w → N'[q]? = N[q]?) → Inv w P N')
  (hVis : ∀ {w : Nat} {P : List (List Int)} {ys : List Int} {N : Mem}, M.length ≤ w → (once = true → P = []) → Inv w P N → Live N w (.row (intL ys) true 1) → ys.length = vol x y z → P.length + 1 ≤ 1000000000 →
    CallsR PG fv [.ref w 0 ys.length, .ptr c 0] N fun r N' => r = .B (!once) ∧ N.length ≤ N'.length ∧ (∀ q, q < N.length → q ≠ c → N'[q]? = N[q]?) ∧ Inv w (P ++ [ys]) N')
include hA h hP hBM hc1 hc2 hI hInv hVis
theorem g_packings : CallsR PG F.impl_Heap_packings [.agg [.I x, .I y, .I z, .ref t o cs.length], .ref u 0 L.length, .clo fv [(c, 0)]] M fun r N => M.length ≤ N.length ∧ (∀ q, q < M.length → q ≠ c → N[q]? = M[q]?) ∧ ∃ w, M.length ≤ w ∧ Inv w (selP once (allPk x y z cs L)) N := by
  have hH := hA.2.1
  have hS := hH.1
  have hv := vol_cast hS
  have hL8 := hA.2.2
  have hcn := hH.len
  have h' := h.pre hBM
  have hP' := hP.pre hBM
  have ht := h'.lt
  have hul := hP'.lt
  have hBl := hBM.1
  refine callsR_run K.impl_Heap_packings rfl ?_
  simp (disch := omega) only [C.impl_Heap_packings, ↓SXd, SXu, slBounds, ↓sop, ↓aop, ↓reduceIte, LV.cells, AOp.dst, LV.I, LV.B, LV.U, LV.S, LV.nil, Nat.reduceEqDiff, Nat.reduceAdd, Nat.reduceMul, Nat.reduceSub, Nat.reduceLeDiff, Nat.reduceBEq, Nat.reduceDiv, Nat.reduceMod, Int.reduceToNat, Int.reduceLT, Int.reduceLE, Int.reduceAdd, Int.reduceSub, Int.reduceMul, Int.reduceEq, Int.reduceNeg, reduceCtorEq, resV, resAll, ARes.ev, LV.flat, ite_true, ite_false, exists_eq_left', exists_eq_left, keyOf, implies_true, fillC, capOf]
  refine callK_of (g_box) ?_
  simp (disch := omega) only [splice, ↓SXd, SXu, slBounds, ↓sop, ↓aop, ↓reduceIte, LV.cells, AOp.dst, LV.I, LV.B, LV.U, LV.S, LV.nil, Nat.reduceEqDiff, Nat.reduceAdd, Nat.reduceMul, Nat.reduceSub, Nat.reduceLeDiff, Nat.reduceBEq, Nat.reduceDiv, Nat.reduceMod, Int.reduceToNat, Int.reduceLT, Int.reduceLE, Int.reduceAdd, Int.reduceSub, Int.reduceMul, Int.reduceEq, Int.reduceNeg, reduceCtorEq, resV, resAll, ARes.ev, LV.flat, ite_true, ite_false, exists_eq_left', exists_eq_left, keyOf, implies_true, fillC, capOf]
  refine callK_of (g_size hS) ?_
  simp (disch := omega) only [↓SXd, SXu, slBounds, ↓sop, ↓aop, ↓reduceIte, LV.cells, AOp.dst, LV.I, LV.B, LV.U, LV.S, LV.nil, Nat.reduceEqDiff, Nat.reduceAdd, Nat.reduceMul, Nat.reduceSub, Nat.reduceLeDiff, Nat.reduceBEq, Nat.reduceDiv, Nat.reduceMod, Int.reduceToNat, Int.reduceLT, Int.reduceLE, Int.reduceAdd, Int.reduceSub, Int.reduceMul, Int.reduceEq, Int.reduceNeg, reduceCtorEq, resV, resAll, ARes.ev, LV.flat, ite_true, ite_false, exists_eq_left', exists_eq_left, keyOf, implies_true, fillC, capOf]
  refine ev_loop (fun m fr M' => ∃ i w : Nat, i + m = vol x y z ∧ Pre M M' ∧ Live M' M.length (.row [.I x, .I y, .I z, .ref t o cs.length] true 0) ∧ Live M' (M.length + 1) (.row [.ref u 0 L.length] true 0) ∧ Live M' (M.length + 2) (.row [.clo fv [(c, 0)]] true 0) ∧ Live M' (M.length + 4) (.row [.I x, .I y, .I z] true 0) ∧ Live M' (M.length + 5) (.row [.ref w 0 (List.replicate i (-1 : Int)).length] true 0) ∧ Live M' w (.row (intL (List.replicate i (-1))) true 1) ∧ (w = M.length + 3 ∨ M.length + 6 ≤ w) ∧
    fr 3 = .ptr M.length 0 ∧ fr 4 = .ptr (M.length + 1) 0 ∧ fr 5 = .ptr (M.length + 2) 0 ∧ fr 6 = .ptr (M.length + 4) 0 ∧ fr 7 = .ptr (M.length + 5) 0 ∧ fr 13 = .I (vol x y z : Nat) ∧ fr 14 = .I i) (vol x y z)
    ⟨0, M.length + 3, by omega, Pre.app _ _, Live.new, Live.newj rfl, Live.newj rfl, Live.newj rfl, Live.newj rfl, Live.newj rfl, .inl rfl, rfl, rfl, rfl, rfl, rfl, rfl, rfl⟩ ?_
  rintro m fr M' ⟨i, w, hi, hpre, b3, b4, b5, b6, b7, bw, hw, f3, f4, f5, f6, f7, f13, f14⟩
  simp (disch := omega) only [f3, f4, f5, f6, f7, f13, f14, ↓SXd, SXu, slBounds, ↓sop, ↓aop, ↓reduceIte, LV.cells, AOp.dst, LV.I, LV.B, LV.U, LV.S, LV.nil, Nat.reduceEqDiff, Nat.reduceAdd, Nat.reduceMul, Nat.reduceSub, Nat.reduceLeDiff, Nat.reduceBEq, Nat.reduceDiv, Nat.reduceMod, Int.reduceToNat, Int.reduceLT, Int.reduceLE, Int.reduceAdd, Int.reduceSub, Int.reduceMul, Int.reduceEq, Int.reduceNeg, reduceCtorEq, resV, resAll, ARes.ev, LV.flat, ite_true, ite_false, exists_eq_left', exists_eq_left, keyOf, implies_true, fillC, capOf]
  have hb7l := b7.lt
  have hwl := bw.lt
  refine condC_dec (fun hlt => ?_) (fun hlt => ?_)
  · have hrs : List.replicate (i + 1) (-1 : Int) = List.replicate i (-1) ++ [-1] := List.replicate_succ'
    have hrl : (List.replicate i (-1 : Int)).length = i := List.length_replicate ..
    simp (disch := omega) only [f3, f4, f5, f6, f7, f13, f14, b7.cell, ↓SXd, SXu, slBounds, ↓sop, ↓aop, ↓reduceIte, LV.cells, AOp.dst, LV.I, LV.B, LV.U, LV.S, LV.nil, Nat.reduceEqDiff, Nat.reduceAdd, Nat.reduceMul, Nat.reduceSub, Nat.reduceLeDiff, Nat.reduceBEq, Nat.reduceDiv, Nat.reduceMod, Int.reduceToNat, Int.reduceLT, Int.reduceLE, Int.reduceAdd, Int.reduceSub, Int.reduceMul, Int.reduceEq, Int.reduceNeg, reduceCtorEq, resV, resAll, ARes.ev, LV.flat, ite_true, ite_false, exists_eq_left', exists_eq_left, keyOf, implies_true, fillC, capOf]
    refine appendK_int bw (by omega) fun N' l1 l2 l3 => ?_
    rw [← hrs] at l2 ⊢
    have d7 := live_step b7 (by omega) l3
    simp (disch := omega) only [f3, f4, f5, f6, f7, f13, f14, ↓SXd, SXu, slBounds, ↓sop, ↓aop, ↓reduceIte, LV.cells, AOp.dst, LV.I, LV.B, LV.U, LV.S, LV.nil, Nat.reduceEqDiff, Nat.reduceAdd, Nat.reduceMul, Nat.reduceSub, Nat.reduceLeDiff, Nat.reduceBEq, Nat.reduceDiv, Nat.reduceMod, Int.reduceToNat, Int.reduceLT, Int.reduceLE, Int.reduceAdd, Int.reduceSub, Int.reduceMul, Int.reduceEq, Int.reduceNeg, reduceCtorEq, resV, resAll, ARes.ev, LV.flat, ite_true, ite_false, exists_eq_left', exists_eq_left, keyOf, implies_true, fillC, capOf]
    refine memK_one d7 (by simp) fun N3 j1 j2 j3 => ?_
    simp (disch := omega) only [f3, f4, f5, f6, f7, f13, f14, ↓SXd, SXu, slBounds, ↓sop, ↓aop, ↓reduceIte, LV.cells, AOp.dst, LV.I, LV.B, LV.U, LV.S, LV.nil, Nat.reduceEqDiff, Nat.reduceAdd, Nat.reduceMul, Nat.reduceSub, Nat.reduceLeDiff, Nat.reduceBEq, Nat.reduceDiv, Nat.reduceMod, Int.reduceToNat, Int.reduceLT, Int.reduceLE, Int.reduceAdd, Int.reduceSub, Int.reduceMul, Int.reduceEq, Int.reduceNeg, reduceCtorEq, resV, resAll, ARes.ev, LV.flat, ite_true, ite_false, exists_eq_left', exists_eq_left, keyOf, implies_true, fillC, capOf]
    exact ⟨m - 1, by omega, i + 1, M'.length + 1, by omega, pre_step (pre_step hpre (by omega) l1 l3) (by omega) (j := 0) j1 j3, live_step (live_step b3 (by omega) l3) (by omega) j3, live_step (live_step b4 (by omega) l3) (by omega) j3, live_step (live_step b5 (by omega) l3) (by omega) j3, live_step (live_step b6 (by omega) l3) (by omega) j3, j2, live_step l2 (by omega) j3, by omega, f3, f4, f5, f6, f7, f13, eqI (natI _)⟩
  · have : i = vol x y z := by omega
    subst this
    have hb3l := b3.lt
    have hb6l := b6.lt
    simp (disch := omega) only [f3, f4, f5, f6, f7, f13, f14, b3.app.cells, ↓SXd, SXu, slBounds, ↓sop, ↓aop, ↓reduceIte, LV.cells, AOp.dst, LV.I, LV.B, LV.U, LV.S, LV.nil, Nat.reduceEqDiff, Nat.reduceAdd, Nat.reduceMul, Nat.reduceSub, Nat.reduceLeDiff, Nat.reduceBEq, Nat.reduceDiv, Nat.reduceMod, Int.reduceToNat, Int.reduceLT, Int.reduceLE, Int.reduceAdd, Int.reduceSub, Int.reduceMul, Int.reduceEq, Int.reduceNeg, reduceCtorEq, resV, resAll, ARes.ev, LV.flat, ite_true, ite_false, exists_eq_left', exists_eq_left, keyOf, implies_true, fillC, capOf]
    refine callK_of (g_free (h'.pre hpre).app hH) ?_
    simp (disch := omega) only [f3, f4, f5, f6, f7, f13, f14, ↓SXd, SXu, slBounds, ↓sop, ↓aop, ↓reduceIte, LV.cells, AOp.dst, LV.I, LV.B, LV.U, LV.S, LV.nil, Nat.reduceEqDiff, Nat.reduceAdd, Nat.reduceMul, Nat.reduceSub, Nat.reduceLeDiff, Nat.reduceBEq, Nat.reduceDiv, Nat.reduceMod, Int.reduceToNat, Int.reduceLT, Int.reduceLE, Int.reduceAdd, Int.reduceSub, Int.reduceMul, Int.reduceEq, Int.reduceNeg, reduceCtorEq, resV, resAll, ARes.ev, LV.flat, ite_true, ite_false, exists_eq_left', exists_eq_left, keyOf, implies_true, fillC, capOf]
    rw [(bs_eq hS).2 (start_free hS)]
    rw [List.length_replicate] at b7
    have hE : PEnv x y z L.length B u (M.length + 1) (M.length + 2) (M.length + 4) (M.length + 5) M'.length w c fv (M' ++ [some (.row [.clo F.impl_Heap_packings_1 [(M.length + 1, 0), (M.length + 2, 0), (M.length + 5, 0), (M.length + 4, 0), (M'.length, 0)]] true 0)]) :=
      ⟨(hBM.trans hpre).app', b4.app, b5.app, b6.app, b7.app, Live.new⟩
    have hfill := g_fill (w := w) (c := c) (once := once) (fv := fv) (Inv := Inv w) hA hP (B := B) (a := M.length + 1) (v := M.length + 2) (pb := M.length + 4) (pl := M.length + 5) (pf := M'.length) (by unfold PDis; omega) (fun {P N N'} => hInv) (fun {P ys N} => hVis (by omega)) 8 (S := List.range L.length) (xs := startL x y z cs) (ys := List.replicate (vol x y z) (-1)) (used := 0) (P0 := [])
      (by rw [List.length_range]; exact hL8) (fun i hi _ => List.mem_range.2 hi) (start_len hA) (start_cubes hS) ⟨Nat.pos_of_ne_zero (by simp), fun i _ => by simp [start_no hA i]⟩ start_agr hE (by simp; omega) bw.app (hInv (hI w (by omega)) (by simp; omega) fun q h1 _ => by rw [List.getElem?_append_left (by omega)]; exact hpre.2 q h1) (fun _ => rfl) (by
        have := allPk_len hA
        unfold allPk at this
        simp only [List.length_nil]; omega)
    refine callR_of hfill ?_
    rintro _ N ⟨rfl, hfr, _, hIN⟩
    simp (disch := omega) only [f3, f4, f5, f6, f7, f13, f14, ↓SXd, SXu, slBounds, ↓sop, ↓aop, ↓reduceIte, LV.cells, AOp.dst, LV.I, LV.B, LV.U, LV.S, LV.nil, Nat.reduceEqDiff, Nat.reduceAdd, Nat.reduceMul, Nat.reduceSub, Nat.reduceLeDiff, Nat.reduceBEq, Nat.reduceDiv, Nat.reduceMod, Int.reduceToNat, Int.reduceLT, Int.reduceLE, Int.reduceAdd, Int.reduceSub, Int.reduceMul, Int.reduceEq, Int.reduceNeg, reduceCtorEq, resV, resAll, ARes.ev, LV.flat, ite_true, ite_false, exists_eq_left', exists_eq_left, keyOf, implies_true, fillC, capOf]
    refine ⟨by have := hfr.1; simp at this; omega, fun q h1 h2 => ?_, w, by omega, hIN⟩
    rw [hfr.2 q (by simp; omega) (by omega) h2, List.getElem?_append_left (by omega)]
    exact hpre.2 q h1
end
end Go.Ab

/- The abstract code of some functions (written by a program of mine from the translation, by way of prepF). -/
namespace Go.Ab.C
open Go.Ab
def spec_FirstPacking : AFn :=
  ⟨2, 20, [.tmp 4, .tmp 5],
    .seq (.ops [(none, .box 2 (.t 0)),
       (none, .mv 4 (.c .nil)),
       (none, .mv 5 (.c (.B false)))])
    (.seq (.seq (.ops [(none, .loadN 7 4 (.t 2)),
         (none, .mv 8 (.t 1)),
         (none, .call (some 9) F.spec_l9Ask [(.t 7), (.t 8)]),
         (none, .un 10 .not (.t 9))])
      (.cond (.t 10) (.seq (.ops [(none, .buildSl 11 0 1 [] []),
           (none, .mv 4 (.t 11)),
           (none, .mv 5 (.c (.B false)))])
        (.ret))
       (.skip)))
     (.seq (.ops [(none, .loadN 12 4 (.t 2)),
         (none, .mv 13 (.t 1)),
         (none, .call (some 14) F.spec_l9Find [(.t 12), (.t 13), (.c (.B true))]),
         (none, .alloc 6 [.nil, (.I 0)]),
         (none, .store 2 (.t 6) (.t 14))])
      (.seq (.draw [⟨(none, .fieldAddr 15 (.t 6) 0), [], []⟩,
          ⟨(none, .load1 16 (.t 15)), [], []⟩,
          ⟨(none, .fieldAddr 17 (.t 6) 1), [], []⟩,
          ⟨(none, .load1 18 (.t 17)), [], []⟩,
          ⟨(none, .bin 19 .gtr (.t 18) (.c (.I 0))), [], []⟩,
          ⟨(none, .mv 4 (.t 16)), [], []⟩,
          ⟨(none, .mv 5 (.t 19)), [], []⟩])
       (.ret))))⟩
end Go.Ab.C

/- That the program has this code. -/
namespace Go.Ab.K
open Go Go.Ab
theorem spec_FirstPacking : prepF Go.Proofs.Try.prog F.spec_FirstPacking = some C.spec_FirstPacking := by kernel_rfl
end Go.Ab.K

/- Contracts: the first packing, the reference's side. -/
namespace Go.Ab
open Go
set_option linter.unusedSimpArgs false
set_option linter.unusedVariables false
set_option maxRecDepth 20000

noncomputable def firstPk (x y z : Int) (cs : List Cell) (L : List (List Cell)) : Option (List Int) := if AskOK x y z cs L then (allPk x y z cs L).head? else none
theorem packs_vol {x y z : Int} {cs : List Cell} {L : List (List Cell)} : ∀ {f : Nat} {xs ys : List Int}, xs.length = vol x y z → ys ∈ packs x y z cs L f xs → ys.length = vol x y z := by
  have leaf : ∀ {xs ys : List Int}, xs.length = vol x y z → ys ∈ leafP L.length xs → ys.length = vol x y z := fun {xs ys} hx h => by
    unfold leafP at h
    split at h
    · rw [List.mem_singleton.1 h]; exact hx
    · cases h
  intro f
  induction f with
  | zero =>
    intro xs ys hx h
    rw [packs_eq] at h
    split at h
    · obtain ⟨i, _, h⟩ := List.mem_flatMap.1 h
      unfold brP packsB at h
      split at h
      · cases h
      · split at h <;> cases h
    · exact leaf hx h
  | succ f ih =>
    intro xs ys hx h
    rw [packs_eq] at h
    split at h
    · obtain ⟨i, _, h⟩ := List.mem_flatMap.1 h
      unfold brP at h
      split at h
      · cases h
      · split at h
        · rename_i hok
          exact ih (xs := nextL x y z cs L xs i) (by unfold nextL; rw [put_len hok]; exact hx) h
        · cases h
    · exact leaf hx h
theorem firstPk_len {x y z : Int} {cs : List Cell} {L : List (List Cell)} : ((firstPk x y z cs L).getD []).length ≤ 64 := by
  unfold firstPk
  split
  · rename_i hA
    have hv := vol_cast hA.2.1.1
    cases hh : (allPk x y z cs L).head? with
    | none => simp
    | some ys =>
      have := packs_vol (start_len hA) (List.mem_of_mem_head? (by rw [hh]; rfl) : ys ∈ allPk x y z cs L)
      simp only [Option.getD_some]; omega
  · simp
theorem h_sFirstPacking {x y z : Int} {t o u : Nat} {cs : List Cell} {L : List (List Cell)} {M : Mem} (h : Tri M t o cs) (hn : cs.length ≤ 1000000000) (hP : Pcs M u L) (hL : L.length ≤ 1000000000) (hLs : ∀ l ∈ L, l.length ≤ 1000000000) :
    CallsR PG F.spec_FirstPacking [.agg [.I x, .I y, .I z, .ref t o cs.length], .ref u 0 L.length] M (IntsRes M (firstPk x y z cs L)) := by
  refine callsR_run K.spec_FirstPacking rfl ?_
  simp (disch := omega) only [C.spec_FirstPacking, ↓SXd, SXu, slBounds, ↓sop, ↓aop, ↓reduceIte, LV.cells, AOp.dst, LV.I, LV.B, LV.U, LV.S, LV.nil, Nat.reduceEqDiff, Nat.reduceAdd, Nat.reduceMul, Nat.reduceSub, Nat.reduceLeDiff, Nat.reduceBEq, Nat.reduceDiv, Nat.reduceMod, Int.reduceToNat, Int.reduceLT, Int.reduceLE, Int.reduceAdd, Int.reduceSub, Int.reduceMul, Int.reduceEq, Int.reduceNeg, reduceCtorEq, resV, resAll, ARes.ev, LV.flat, ite_true, ite_false, exists_eq_left', exists_eq_left, keyOf, implies_true, fillC, capOf]
  refine callK_of (h_l9Ask hP.app hL hLs h.app hn) ?_
  simp (disch := omega) only [↓SXd, SXu, slBounds, ↓sop, ↓aop, ↓reduceIte, LV.cells, AOp.dst, LV.I, LV.B, LV.U, LV.S, LV.nil, Nat.reduceEqDiff, Nat.reduceAdd, Nat.reduceMul, Nat.reduceSub, Nat.reduceLeDiff, Nat.reduceBEq, Nat.reduceDiv, Nat.reduceMod, Int.reduceToNat, Int.reduceLT, Int.reduceLE, Int.reduceAdd, Int.reduceSub, Int.reduceMul, Int.reduceEq, Int.reduceNeg, reduceCtorEq, resV, resAll, ARes.ev, LV.flat, ite_true, ite_false, exists_eq_left', exists_eq_left, keyOf, implies_true, fillC, capOf]
  unfold firstPk
  by_cases hA : AskOK x y z cs L
  · rw [if_pos hA, decide_eq_true hA]
    simp (disch := omega) only [↓SXd, SXu, slBounds, ↓sop, ↓aop, ↓reduceIte, LV.cells, AOp.dst, LV.I, LV.B, LV.U, LV.S, LV.nil, Nat.reduceEqDiff, Nat.reduceAdd, Nat.reduceMul, Nat.reduceSub, Nat.reduceLeDiff, Nat.reduceBEq, Nat.reduceDiv, Nat.reduceMod, Int.reduceToNat, Int.reduceLT, Int.reduceLE, Int.reduceAdd, Int.reduceSub, Int.reduceMul, Int.reduceEq, Int.reduceNeg, reduceCtorEq, resV, resAll, ARes.ev, LV.flat, ite_true, ite_false, exists_eq_left', exists_eq_left, keyOf, implies_true, fillC, capOf]
    refine callR_of (h_l9Find hA h.app hP.app) ?_
    rintro _ N ⟨t3, rfl, hw, ht3, hpN⟩
    rw [List.length_append, List.length_singleton] at ht3
    cases hall : allPk x y z cs L with
    | nil =>
      rw [hall] at hw
      have e : fndP ([], 0) (selP true []) = ([], 0) := fnd_nil
      rw [e] at hw ⊢
      simp (disch := omega) only [splice, ↓SXd, SXu, slBounds, ↓sop, ↓aop, ↓reduceIte, LV.cells, AOp.dst, LV.I, LV.B, LV.U, LV.S, LV.nil, Nat.reduceEqDiff, Nat.reduceAdd, Nat.reduceMul, Nat.reduceSub, Nat.reduceLeDiff, Nat.reduceBEq, Nat.reduceDiv, Nat.reduceMod, Int.reduceToNat, Int.reduceLT, Int.reduceLE, Int.reduceAdd, Int.reduceSub, Int.reduceMul, Int.reduceEq, Int.reduceNeg, reduceCtorEq, resV, resAll, ARes.ev, LV.flat, ite_true, ite_false, exists_eq_left', exists_eq_left, keyOf, implies_true, fillC, capOf]
      exact ⟨_, rfl, .inr ⟨t3, [], rfl, hw.app⟩, Newer.of (by omega), ((Pre.app _ _).trans hpN).app'⟩
    | cons p Q =>
      rw [hall] at hw
      have e : fndP ([], 0) (selP true (p :: Q)) = (p, 1) := rfl
      rw [e] at hw ⊢
      simp (disch := omega) only [splice, ↓SXd, SXu, slBounds, ↓sop, ↓aop, ↓reduceIte, LV.cells, AOp.dst, LV.I, LV.B, LV.U, LV.S, LV.nil, Nat.reduceEqDiff, Nat.reduceAdd, Nat.reduceMul, Nat.reduceSub, Nat.reduceLeDiff, Nat.reduceBEq, Nat.reduceDiv, Nat.reduceMod, Int.reduceToNat, Int.reduceLT, Int.reduceLE, Int.reduceAdd, Int.reduceSub, Int.reduceMul, Int.reduceEq, Int.reduceNeg, reduceCtorEq, resV, resAll, ARes.ev, LV.flat, ite_true, ite_false, exists_eq_left', exists_eq_left, keyOf, implies_true, fillC, capOf]
      exact ⟨_, rfl, .inr ⟨t3, [], rfl, by rw [List.append_nil]; exact hw.app⟩, Newer.of (by omega), ((Pre.app _ _).trans hpN).app'⟩
  · rw [if_neg hA, decide_eq_false hA]
    simp (disch := omega) only [↓SXd, SXu, slBounds, ↓sop, ↓aop, ↓reduceIte, LV.cells, AOp.dst, LV.I, LV.B, LV.U, LV.S, LV.nil, Nat.reduceEqDiff, Nat.reduceAdd, Nat.reduceMul, Nat.reduceSub, Nat.reduceLeDiff, Nat.reduceBEq, Nat.reduceDiv, Nat.reduceMod, Int.reduceToNat, Int.reduceLT, Int.reduceLE, Int.reduceAdd, Int.reduceSub, Int.reduceMul, Int.reduceEq, Int.reduceNeg, reduceCtorEq, resV, resAll, ARes.ev, LV.flat, ite_true, ite_false, exists_eq_left', exists_eq_left, keyOf, implies_true, fillC, capOf]
    exact ⟨_, rfl, .inr ⟨M.length + 1, [], rfl, Live.newj rfl⟩, Newer.of (by omega), Pre.app _ _⟩
end Go.Ab

/- Contracts: the first packing, the program's side. -/
namespace Go.Ab
open Go
set_option linter.unusedSimpArgs false
set_option linter.unusedVariables false
set_option maxRecDepth 20000

theorem g_clone {ys : List Int} {w : Nat} {N : Mem} (hw : Live N w (.row (intL ys) true 1)) (h1 : 1 ≤ ys.length) (h2 : ys.length ≤ 64) :
    CallsR PG F.slices_Clone_Sint_int [.ref w 0 ys.length] N fun r N' => ∃ t', r = .ref t' 0 ys.length ∧ Live N' t' (.row (intL ys) true 1) ∧ N.length ≤ t' ∧ Pre N N' := by
  obtain ⟨m, hm⟩ : ∃ m, ys.length = m + 1 := ⟨ys.length - 1, by omega⟩
  rw [hm]
  refine callsR_run K.slices_Clone_Sint_int rfl ?_
  simp (disch := omega) only [C.slices_Clone_Sint_int, Bool.false_eq_true, ↓SXd, SXu, slBounds, ↓sop, ↓aop, ↓reduceIte, LV.cells, AOp.dst, LV.I, LV.B, LV.U, LV.S, LV.nil, Nat.reduceEqDiff, Nat.reduceAdd, Nat.reduceMul, Nat.reduceSub, Nat.reduceLeDiff, Nat.reduceBEq, Nat.reduceDiv, Nat.reduceMod, Int.reduceToNat, Int.reduceLT, Int.reduceLE, Int.reduceAdd, Int.reduceSub, Int.reduceMul, Int.reduceEq, Int.reduceNeg, reduceCtorEq, resV, resAll, ARes.ev, LV.flat, ite_true, ite_false, exists_eq_left', exists_eq_left, keyOf, implies_true, fillC, capOf]
  refine appendK_list (acc := []) (n := 0) Live.new rfl hw.has.app (by rw [intL_len, Nat.mul_one, hm]) (by omega) (by omega) fun u N2 k1 k2 k3 k4 => ?_
  simp (disch := omega) only [↓SXd, SXu, slBounds, ↓sop, ↓aop, ↓reduceIte, LV.cells, AOp.dst, LV.I, LV.B, LV.U, LV.S, LV.nil, Nat.reduceEqDiff, Nat.reduceAdd, Nat.reduceMul, Nat.reduceSub, Nat.reduceLeDiff, Nat.reduceBEq, Nat.reduceDiv, Nat.reduceMod, Int.reduceToNat, Int.reduceLT, Int.reduceLE, Int.reduceAdd, Int.reduceSub, Int.reduceMul, Int.reduceEq, Int.reduceNeg, reduceCtorEq, resV, resAll, ARes.ev, LV.flat, ite_true, ite_false, exists_eq_left', exists_eq_left, keyOf, implies_true, fillC, capOf]
  exact ⟨u, rfl, by rw [List.nil_append] at k2; exact k2, by simp at k3; omega, pre_stepL (Pre.app _ _) (t := N.length) (Nat.le_refl _) k1 k4⟩
/-- What is kept of the packings seen so far: the first one. -/
def InvF (base c w : Nat) : List (List Int) → Mem → Prop
  | [], N => w ≠ c ∧ Live N c (.row [.val (.slice none 0 0)] true 0)
  | p :: _, N => w ≠ c ∧ ∃ t, Live N c (.row [.ref t 0 p.length] true 0) ∧ Live N t (.row (intL p) true 1) ∧ base ≤ t ∧ t ≠ w
theorem InvF.keep {base c w : Nat} {P : List (List Int)} {N N' : Mem} (h : InvF base c w P N) (hk : ∀ q, q < N.length → q ≠ w → N'[q]? = N[q]?) : InvF base c w P N' := by
  cases P with
  | nil => exact ⟨h.1, Live.at h.2 (hk _ h.2.lt (fun e => h.1 e.symm))⟩
  | cons p P =>
    obtain ⟨h0, t, h1, h2, h3, h4⟩ := h
    exact ⟨h0, t, Live.at h1 (hk _ h1.lt (fun e => h0 e.symm)), Live.at h2 (hk _ h2.lt h4), h3, h4⟩
theorem g_visitF {base w c : Nat} {ys : List Int} {N : Mem} (hI : InvF base c w [] N) (hw : Live N w (.row (intL ys) true 1)) (h1 : 1 ≤ ys.length) (h2 : ys.length ≤ 64) (hb : base ≤ N.length) :
    CallsR PG F.impl_FirstPacking_1 [.ref w 0 ys.length, .ptr c 0] N fun r N' => r = .B false ∧ N.length ≤ N'.length ∧ (∀ q, q < N.length → q ≠ c → N'[q]? = N[q]?) ∧ InvF base c w [ys] N' := by
  obtain ⟨h0, hc⟩ := hI
  have hcl := hc.lt
  have hwl := hw.lt
  refine callsR_run K.impl_FirstPacking_1 rfl ?_
  simp (disch := omega) only [C.impl_FirstPacking_1, ↓SXd, SXu, slBounds, ↓sop, ↓aop, ↓reduceIte, LV.cells, AOp.dst, LV.I, LV.B, LV.U, LV.S, LV.nil, Nat.reduceEqDiff, Nat.reduceAdd, Nat.reduceMul, Nat.reduceSub, Nat.reduceLeDiff, Nat.reduceBEq, Nat.reduceDiv, Nat.reduceMod, Int.reduceToNat, Int.reduceLT, Int.reduceLE, Int.reduceAdd, Int.reduceSub, Int.reduceMul, Int.reduceEq, Int.reduceNeg, reduceCtorEq, resV, resAll, ARes.ev, LV.flat, ite_true, ite_false, exists_eq_left', exists_eq_left, keyOf, implies_true, fillC, capOf]
  refine callR_of (g_clone hw h1 h2) ?_
  rintro _ N1 ⟨t, rfl, ht, htl, hp⟩
  simp (disch := omega) only [↓SXd, SXu, slBounds, ↓sop, ↓aop, ↓reduceIte, LV.cells, AOp.dst, LV.I, LV.B, LV.U, LV.S, LV.nil, Nat.reduceEqDiff, Nat.reduceAdd, Nat.reduceMul, Nat.reduceSub, Nat.reduceLeDiff, Nat.reduceBEq, Nat.reduceDiv, Nat.reduceMod, Int.reduceToNat, Int.reduceLT, Int.reduceLE, Int.reduceAdd, Int.reduceSub, Int.reduceMul, Int.reduceEq, Int.reduceNeg, reduceCtorEq, resV, resAll, ARes.ev, LV.flat, ite_true, ite_false, exists_eq_left', exists_eq_left, keyOf, implies_true, fillC, capOf]
  refine memK_one (hc.pre hp) (by simp) fun N3 j1 j2 j3 => ?_
  simp (disch := omega) only [↓SXd, SXu, slBounds, ↓sop, ↓aop, ↓reduceIte, LV.cells, AOp.dst, LV.I, LV.B, LV.U, LV.S, LV.nil, Nat.reduceEqDiff, Nat.reduceAdd, Nat.reduceMul, Nat.reduceSub, Nat.reduceLeDiff, Nat.reduceBEq, Nat.reduceDiv, Nat.reduceMod, Int.reduceToNat, Int.reduceLT, Int.reduceLE, Int.reduceAdd, Int.reduceSub, Int.reduceMul, Int.reduceEq, Int.reduceNeg, reduceCtorEq, resV, resAll, ARes.ev, LV.flat, ite_true, ite_false, exists_eq_left', exists_eq_left, keyOf, implies_true, fillC, capOf]
  have hNl := hp.1
  exact ⟨rfl, by omega, fun q q1 q2 => by rw [j3 q q2 (by omega)]; exact hp.2 q q1, h0, t, j2, live_step ht (by omega) j3, by omega, by omega⟩
theorem g_FirstPacking {x y z : Int} {t o u : Nat} {cs : List Cell} {L : List (List Cell)} {M : Mem} (h : Tri M t o cs) (hn : cs.length ≤ 1000000000) (hP : Pcs M u L) (hL : L.length ≤ 1000000000) (hLs : ∀ l ∈ L, l.length ≤ 1000000000) :
    CallsR PG F.impl_FirstPacking [.agg [.I x, .I y, .I z, .ref t o cs.length], .ref u 0 L.length] M (IntsRes M (firstPk x y z cs L)) := by
  refine callsR_run K.impl_FirstPacking rfl ?_
  simp (disch := omega) only [C.impl_FirstPacking, ↓SXd, SXu, slBounds, ↓sop, ↓aop, ↓reduceIte, LV.cells, AOp.dst, LV.I, LV.B, LV.U, LV.S, LV.nil, Nat.reduceEqDiff, Nat.reduceAdd, Nat.reduceMul, Nat.reduceSub, Nat.reduceLeDiff, Nat.reduceBEq, Nat.reduceDiv, Nat.reduceMod, Int.reduceToNat, Int.reduceLT, Int.reduceLE, Int.reduceAdd, Int.reduceSub, Int.reduceMul, Int.reduceEq, Int.reduceNeg, reduceCtorEq, resV, resAll, ARes.ev, LV.flat, ite_true, ite_false, exists_eq_left', exists_eq_left, keyOf, implies_true, fillC, capOf]
  refine callK_of (g_arePacked hP.app hL hLs h.app hn) ?_
  simp (disch := omega) only [↓SXd, SXu, slBounds, ↓sop, ↓aop, ↓reduceIte, LV.cells, AOp.dst, LV.I, LV.B, LV.U, LV.S, LV.nil, Nat.reduceEqDiff, Nat.reduceAdd, Nat.reduceMul, Nat.reduceSub, Nat.reduceLeDiff, Nat.reduceBEq, Nat.reduceDiv, Nat.reduceMod, Int.reduceToNat, Int.reduceLT, Int.reduceLE, Int.reduceAdd, Int.reduceSub, Int.reduceMul, Int.reduceEq, Int.reduceNeg, reduceCtorEq, resV, resAll, ARes.ev, LV.flat, ite_true, ite_false, exists_eq_left', exists_eq_left, keyOf, implies_true, fillC, capOf]
  unfold firstPk
  by_cases hA : AskOK x y z cs L
  · rw [if_pos hA, decide_eq_true hA]
    have hv := vol_cast hA.2.1.1
    simp (disch := omega) only [splice, ↓SXd, SXu, slBounds, ↓sop, ↓aop, ↓reduceIte, LV.cells, AOp.dst, LV.I, LV.B, LV.U, LV.S, LV.nil, Nat.reduceEqDiff, Nat.reduceAdd, Nat.reduceMul, Nat.reduceSub, Nat.reduceLeDiff, Nat.reduceBEq, Nat.reduceDiv, Nat.reduceMod, Int.reduceToNat, Int.reduceLT, Int.reduceLE, Int.reduceAdd, Int.reduceSub, Int.reduceMul, Int.reduceEq, Int.reduceNeg, reduceCtorEq, resV, resAll, ARes.ev, LV.flat, ite_true, ite_false, exists_eq_left', exists_eq_left, keyOf, implies_true, fillC, capOf]
    have hpk := g_packings (x := x) (y := y) (z := z) (once := true) (c := M.length + 1) (B := M) (M := M ++ [some (.row [.I x, .I y, .I z, .ref t o cs.length] true 0), some (.row [.val (.slice none 0 0)] true 0)]) (fv := F.impl_FirstPacking_1) (Inv := fun w P N => InvF M.length (M.length + 1) w P N ∧ M.length + 2 ≤ N.length) hA h hP (Pre.app _ _) (by omega) (by simp)
      (fun w hw => ⟨⟨by simp at hw; omega, Live.newj rfl⟩, by simp⟩) (fun {w P N N'} hI h1 h2 => ⟨hI.1.keep h2, by omega⟩)
      (fun {w P ys N} hw hz hI hl hy hb => by
        have hP0 := hz rfl
        subst hP0
        exact (g_visitF hI.1 hl (by omega) (by omega) (by omega)).mono fun r N' hr => ⟨hr.1, hr.2.1, hr.2.2.1, hr.2.2.2, by have := hr.2.1; omega⟩)
    refine callR_of hpk ?_
    rintro _ N ⟨k1, k2, w, hw, k3, _⟩
    simp at k1
    have hpM : Pre M N := ⟨by omega, fun q hq => by rw [k2 q (by simp; omega) (by omega), List.getElem?_append_left hq]⟩
    cases hall : allPk x y z cs L with
    | nil =>
      rw [hall] at k3
      have hc := k3.2
      simp (disch := omega) only [hc.cell, ↓SXd, SXu, slBounds, ↓sop, ↓aop, ↓reduceIte, LV.cells, AOp.dst, LV.I, LV.B, LV.U, LV.S, LV.nil, Nat.reduceEqDiff, Nat.reduceAdd, Nat.reduceMul, Nat.reduceSub, Nat.reduceLeDiff, Nat.reduceBEq, Nat.reduceDiv, Nat.reduceMod, Int.reduceToNat, Int.reduceLT, Int.reduceLE, Int.reduceAdd, Int.reduceSub, Int.reduceMul, Int.reduceEq, Int.reduceNeg, reduceCtorEq, resV, resAll, ARes.ev, LV.flat, ite_true, ite_false, exists_eq_left', exists_eq_left, keyOf, implies_true, fillC, capOf]
      exact ⟨_, rfl, SlI.nil, Newer.nil, hpM⟩
    | cons p Q =>
      rw [hall] at k3
      obtain ⟨_, t3, hc, ht3, hb, _⟩ := k3
      have hpl := packs_vol (start_len hA) (show p ∈ packs x y z cs L 8 (startL x y z cs) by
        rw [show packs x y z cs L 8 (startL x y z cs) = p :: Q from hall]; simp)
      obtain ⟨m, hm⟩ : ∃ m, p.length = m + 1 := ⟨p.length - 1, by omega⟩
      rw [hm] at hc
      simp (disch := omega) only [hc.cell, ↓SXd, SXu, slBounds, ↓sop, ↓aop, ↓reduceIte, LV.cells, AOp.dst, LV.I, LV.B, LV.U, LV.S, LV.nil, Nat.reduceEqDiff, Nat.reduceAdd, Nat.reduceMul, Nat.reduceSub, Nat.reduceLeDiff, Nat.reduceBEq, Nat.reduceDiv, Nat.reduceMod, Int.reduceToNat, Int.reduceLT, Int.reduceLE, Int.reduceAdd, Int.reduceSub, Int.reduceMul, Int.reduceEq, Int.reduceNeg, reduceCtorEq, resV, resAll, ARes.ev, LV.flat, ite_true, ite_false, exists_eq_left', exists_eq_left, keyOf, implies_true, fillC, capOf]
      exact ⟨_, rfl, .inr ⟨t3, [], by rw [← hm]; rfl, by rw [List.append_nil]; exact ht3⟩, Newer.of hb, hpM⟩
  · rw [if_neg hA, decide_eq_false hA]
    simp (disch := omega) only [↓SXd, SXu, slBounds, ↓sop, ↓aop, ↓reduceIte, LV.cells, AOp.dst, LV.I, LV.B, LV.U, LV.S, LV.nil, Nat.reduceEqDiff, Nat.reduceAdd, Nat.reduceMul, Nat.reduceSub, Nat.reduceLeDiff, Nat.reduceBEq, Nat.reduceDiv, Nat.reduceMod, Int.reduceToNat, Int.reduceLT, Int.reduceLE, Int.reduceAdd, Int.reduceSub, Int.reduceMul, Int.reduceEq, Int.reduceNeg, reduceCtorEq, resV, resAll, ARes.ev, LV.flat, ite_true, ite_false, exists_eq_left', exists_eq_left, keyOf, implies_true, fillC, capOf]
    exact ⟨_, rfl, SlI.nil, Newer.nil, Pre.app _ _⟩
end Go.Ab

/- The law of FirstPacking. -/
namespace Go.Ab
open Go
set_option linter.unusedSimpArgs false
set_option linter.unusedVariables false
set_option maxRecDepth 20000

theorem l_FirstPacking {x y z : Int} {t o u : Nat} {cs : List Cell} {L : List (List Cell)} {M : Mem} (h : Tri M t o cs) (hn0 : cs.length ≤ 9223372036854775807) (hP : Pcs M u L) (hP0 : L.length ≤ 9223372036854775807 ∧ ∀ l ∈ L, l.length ≤ 9223372036854775807) :
    CallsR PG F.laws_FnExactFirstPacking [.agg [.I x, .I y, .I z, .ref t o cs.length], .ref u 0 L.length] M fun v _ => v = .B true := by
  have ht := h.lt
  have hu := hP.lt
  have hP00 := hP0.1
  have hrl : ((firstPk x y z cs L).getD []).length ≤ 64 := firstPk_len
  have hrl9 : ((firstPk x y z cs L).getD []).length ≤ 1000000000 := by omega
  refine callsR_run K.laws_FnExactFirstPacking rfl ?_
  simp (disch := omega) only [C.laws_FnExactFirstPacking, ↓SXd, SXu, slBounds, ↓sop, ↓aop, ↓reduceIte, LV.cells, AOp.dst, LV.I, LV.B, LV.U, LV.S, LV.nil, Nat.reduceEqDiff, Nat.reduceAdd, Nat.reduceMul, Nat.reduceSub, Nat.reduceLeDiff, Nat.reduceBEq, Nat.reduceDiv, Nat.reduceMod, Int.reduceToNat, Int.reduceLT, Int.reduceLE, Int.reduceAdd, Int.reduceSub, Int.reduceMul, Int.reduceEq, Int.reduceNeg, reduceCtorEq, resV, resAll, ARes.ev, LV.flat, ite_true, ite_false, exists_eq_left', exists_eq_left, keyOf, implies_true, fillC, capOf]
  refine callK_of (h_szHeap (by omega) (by omega) (by omega)) ?_
  simp (disch := omega) only [↓SXd, SXu, slBounds, ↓sop, ↓aop, ↓reduceIte, LV.cells, AOp.dst, LV.I, LV.B, LV.U, LV.S, LV.nil, Nat.reduceEqDiff, Nat.reduceAdd, Nat.reduceMul, Nat.reduceSub, Nat.reduceLeDiff, Nat.reduceBEq, Nat.reduceDiv, Nat.reduceMod, Int.reduceToNat, Int.reduceLT, Int.reduceLE, Int.reduceAdd, Int.reduceSub, Int.reduceMul, Int.reduceEq, Int.reduceNeg, reduceCtorEq, resV, resAll, ARes.ev, LV.flat, ite_true, ite_false, exists_eq_left', exists_eq_left, keyOf, implies_true, fillC, capOf]
  by_cases hl : (1048576 : Int) < (cs.length : Nat)
  · rw [if_pos hl]
    simp (disch := omega) only [Int.reduceLT, ↓SXd, SXu, slBounds, ↓sop, ↓aop, ↓reduceIte, LV.cells, AOp.dst, LV.I, LV.B, LV.U, LV.S, LV.nil, Nat.reduceEqDiff, Nat.reduceAdd, Nat.reduceMul, Nat.reduceSub, Nat.reduceLeDiff, Nat.reduceBEq, Nat.reduceDiv, Nat.reduceMod, Int.reduceToNat, Int.reduceLT, Int.reduceLE, Int.reduceAdd, Int.reduceSub, Int.reduceMul, Int.reduceEq, Int.reduceNeg, reduceCtorEq, resV, resAll, ARes.ev, LV.flat, ite_true, ite_false, exists_eq_left', exists_eq_left, keyOf, implies_true, fillC, capOf]
    rfl
  rw [if_neg hl]
  simp (disch := omega) only [↓SXd, SXu, slBounds, ↓sop, ↓aop, ↓reduceIte, LV.cells, AOp.dst, LV.I, LV.B, LV.U, LV.S, LV.nil, Nat.reduceEqDiff, Nat.reduceAdd, Nat.reduceMul, Nat.reduceSub, Nat.reduceLeDiff, Nat.reduceBEq, Nat.reduceDiv, Nat.reduceMod, Int.reduceToNat, Int.reduceLT, Int.reduceLE, Int.reduceAdd, Int.reduceSub, Int.reduceMul, Int.reduceEq, Int.reduceNeg, reduceCtorEq, resV, resAll, ARes.ev, LV.flat, ite_true, ite_false, exists_eq_left', exists_eq_left, keyOf, implies_true, fillC, capOf]
  refine callK_of (h_szIntA3SS hP.app (by omega) (by omega) hP0) ?_
  simp (disch := omega) only [↓SXd, SXu, slBounds, ↓sop, ↓aop, ↓reduceIte, LV.cells, AOp.dst, LV.I, LV.B, LV.U, LV.S, LV.nil, Nat.reduceEqDiff, Nat.reduceAdd, Nat.reduceMul, Nat.reduceSub, Nat.reduceLeDiff, Nat.reduceBEq, Nat.reduceDiv, Nat.reduceMod, Int.reduceToNat, Int.reduceLT, Int.reduceLE, Int.reduceAdd, Int.reduceSub, Int.reduceMul, Int.reduceEq, Int.reduceNeg, reduceCtorEq, resV, resAll, ARes.ev, LV.flat, ite_true, ite_false, exists_eq_left', exists_eq_left, keyOf, implies_true, fillC, capOf]
  by_cases hl2 : (1048576 : Int) - (cs.length : Nat) < (L.length : Nat) + (tot L : Nat)
  · rw [if_pos hl2]
    simp (disch := omega) only [Int.reduceLT, ↓SXd, SXu, slBounds, ↓sop, ↓aop, ↓reduceIte, LV.cells, AOp.dst, LV.I, LV.B, LV.U, LV.S, LV.nil, Nat.reduceEqDiff, Nat.reduceAdd, Nat.reduceMul, Nat.reduceSub, Nat.reduceLeDiff, Nat.reduceBEq, Nat.reduceDiv, Nat.reduceMod, Int.reduceToNat, Int.reduceLT, Int.reduceLE, Int.reduceAdd, Int.reduceSub, Int.reduceMul, Int.reduceEq, Int.reduceNeg, reduceCtorEq, resV, resAll, ARes.ev, LV.flat, ite_true, ite_false, exists_eq_left', exists_eq_left, keyOf, implies_true, fillC, capOf]
    rfl
  rw [if_neg hl2]
  have hl3 : ¬ ((1048576 : Int) - (cs.length : Nat) - (L.length : Nat) - (tot L : Nat) < 0) := by omega
  have hn : cs.length ≤ 1000000000 := by omega
  have hL : L.length ≤ 1000000000 := by omega
  have hLs : ∀ l ∈ L, l.length ≤ 1000000000 := fun l hl => by have := tot_le_mem hl; omega
  simp (disch := omega) only [hl3, ↓SXd, SXu, slBounds, ↓sop, ↓aop, ↓reduceIte, LV.cells, AOp.dst, LV.I, LV.B, LV.U, LV.S, LV.nil, Nat.reduceEqDiff, Nat.reduceAdd, Nat.reduceMul, Nat.reduceSub, Nat.reduceLeDiff, Nat.reduceBEq, Nat.reduceDiv, Nat.reduceMod, Int.reduceToNat, Int.reduceLT, Int.reduceLE, Int.reduceAdd, Int.reduceSub, Int.reduceMul, Int.reduceEq, Int.reduceNeg, reduceCtorEq, resV, resAll, ARes.ev, LV.flat, ite_true, ite_false, exists_eq_left', exists_eq_left, keyOf, implies_true, fillC, capOf]
  refine callK_of (h_toHeap h.app hn) ?_
  simp (disch := omega) only [↓SXd, SXu, slBounds, ↓sop, ↓aop, ↓reduceIte, LV.cells, AOp.dst, LV.I, LV.B, LV.U, LV.S, LV.nil, Nat.reduceEqDiff, Nat.reduceAdd, Nat.reduceMul, Nat.reduceSub, Nat.reduceLeDiff, Nat.reduceBEq, Nat.reduceDiv, Nat.reduceMod, Int.reduceToNat, Int.reduceLT, Int.reduceLE, Int.reduceAdd, Int.reduceSub, Int.reduceMul, Int.reduceEq, Int.reduceNeg, reduceCtorEq, resV, resAll, ARes.ev, LV.flat, ite_true, ite_false, exists_eq_left', exists_eq_left, keyOf, implies_true, fillC, capOf]
  refine callR_of (h_toIntA3SS hP.app (by omega)) ?_
  rintro _ N1 ⟨u1, rfl, hp1, hpr1⟩
  have hc1 : Live N1 (M.length + 1) (.row (triL cs) true 3) := (Live.newj rfl).pre hpr1
  have b1 : Live N1 M.length (.row [.I x, .I y, .I z, .ref t o cs.length] true 0) := Live.new.pre hpr1
  have hM1 : Pre M N1 := (Pre.app _ _).trans hpr1
  simp (disch := omega) only [↓SXd, SXu, slBounds, ↓sop, ↓aop, ↓reduceIte, LV.cells, AOp.dst, LV.I, LV.B, LV.U, LV.S, LV.nil, Nat.reduceEqDiff, Nat.reduceAdd, Nat.reduceMul, Nat.reduceSub, Nat.reduceLeDiff, Nat.reduceBEq, Nat.reduceDiv, Nat.reduceMod, Int.reduceToNat, Int.reduceLT, Int.reduceLE, Int.reduceAdd, Int.reduceSub, Int.reduceMul, Int.reduceEq, Int.reduceNeg, reduceCtorEq, resV, resAll, ARes.ev, LV.flat, ite_true, ite_false, exists_eq_left', exists_eq_left, keyOf, implies_true, fillC, capOf]
  refine callR_of (h_sFirstPacking hc1.has hn hp1.pcs hL hLs) ?_
  rintro _ N2 ⟨w, rfl, hw, hwn, hpr2⟩
  have b2 := b1.pre hpr2
  have hM2 := hM1.trans hpr2
  have hbl2 := b2.lt
  simp (disch := omega) only [b2.cells, ↓SXd, SXu, slBounds, ↓sop, ↓aop, ↓reduceIte, LV.cells, AOp.dst, LV.I, LV.B, LV.U, LV.S, LV.nil, Nat.reduceEqDiff, Nat.reduceAdd, Nat.reduceMul, Nat.reduceSub, Nat.reduceLeDiff, Nat.reduceBEq, Nat.reduceDiv, Nat.reduceMod, Int.reduceToNat, Int.reduceLT, Int.reduceLE, Int.reduceAdd, Int.reduceSub, Int.reduceMul, Int.reduceEq, Int.reduceNeg, reduceCtorEq, resV, resAll, ARes.ev, LV.flat, ite_true, ite_false, exists_eq_left', exists_eq_left, keyOf, implies_true, fillC, capOf]
  refine callK_of (h_toHeap (h.pre hM2) hn) ?_
  simp (disch := omega) only [↓SXd, SXu, slBounds, ↓sop, ↓aop, ↓reduceIte, LV.cells, AOp.dst, LV.I, LV.B, LV.U, LV.S, LV.nil, Nat.reduceEqDiff, Nat.reduceAdd, Nat.reduceMul, Nat.reduceSub, Nat.reduceLeDiff, Nat.reduceBEq, Nat.reduceDiv, Nat.reduceMod, Int.reduceToNat, Int.reduceLT, Int.reduceLE, Int.reduceAdd, Int.reduceSub, Int.reduceMul, Int.reduceEq, Int.reduceNeg, reduceCtorEq, resV, resAll, ARes.ev, LV.flat, ite_true, ite_false, exists_eq_left', exists_eq_left, keyOf, implies_true, fillC, capOf]
  refine callR_of (h_toIntA3SS (hP.pre (hM2.trans (Pre.app _ _))) (by omega)) ?_
  rintro _ N3 ⟨u3, rfl, hp3, hpr3⟩
  have hc3 : Live N3 N2.length (.row (triL cs) true 3) := Live.new.pre hpr3
  have x3 : Live N3 (N2.length + 1) (.row [.I x, .I y, .I z, .ref N2.length 0 cs.length] true 0) := (Live.newj rfl).pre hpr3
  have b3 := b2.pre ((Pre.app _ _).trans hpr3)
  have hM3 := hM2.trans ((Pre.app _ _).trans hpr3)
  have hw3 := hw.pre ((Pre.app _ _).trans hpr3)
  obtain ⟨hu3, refs, hi3, hrow3, hrl3, hcss3, hhi3⟩ := id hp3
  simp only [List.length_append, List.length_cons, List.length_nil] at hu3
  have hxl3 := x3.lt
  simp (disch := omega) only [x3.cells, ↓SXd, SXu, slBounds, ↓sop, ↓aop, ↓reduceIte, LV.cells, AOp.dst, LV.I, LV.B, LV.U, LV.S, LV.nil, Nat.reduceEqDiff, Nat.reduceAdd, Nat.reduceMul, Nat.reduceSub, Nat.reduceLeDiff, Nat.reduceBEq, Nat.reduceDiv, Nat.reduceMod, Int.reduceToNat, Int.reduceLT, Int.reduceLE, Int.reduceAdd, Int.reduceSub, Int.reduceMul, Int.reduceEq, Int.reduceNeg, reduceCtorEq, resV, resAll, ARes.ev, LV.flat, ite_true, ite_false, exists_eq_left', exists_eq_left, keyOf, implies_true, fillC, capOf]
  refine callR_of (g_FirstPacking hc3.has hn hp3.pcs hL hLs) ?_
  rintro _ N4 ⟨g, rfl, hg, hgn, hpr4⟩
  have b4 := b3.pre hpr4
  have x4 := x3.pre hpr4
  have hc4 := hc3.pre hpr4
  have hp4 := hp3.pre hpr4
  have hM4 := hM3.trans hpr4
  have hw4 := hw3.pre hpr4
  have hwo := hw.older
  simp (disch := omega) only [↓SXd, SXu, slBounds, ↓sop, ↓aop, ↓reduceIte, LV.cells, AOp.dst, LV.I, LV.B, LV.U, LV.S, LV.nil, Nat.reduceEqDiff, Nat.reduceAdd, Nat.reduceMul, Nat.reduceSub, Nat.reduceLeDiff, Nat.reduceBEq, Nat.reduceDiv, Nat.reduceMod, Int.reduceToNat, Int.reduceLT, Int.reduceLE, Int.reduceAdd, Int.reduceSub, Int.reduceMul, Int.reduceEq, Int.reduceNeg, reduceCtorEq, resV, resAll, ARes.ev, LV.flat, ite_true, ite_false, exists_eq_left', exists_eq_left, keyOf, implies_true, fillC, capOf]
  refine callK_of (h_eqIntS hg.v hw4.v hrl9 hrl9) ?_
  rw [decide_eq_true (rfl : (firstPk x y z cs L).getD [] = (firstPk x y z cs L).getD [])]
  simp (disch := omega) only [b4.cells, x4.cells, ↓SXd, SXu, slBounds, ↓sop, ↓aop, ↓reduceIte, LV.cells, AOp.dst, LV.I, LV.B, LV.U, LV.S, LV.nil, Nat.reduceEqDiff, Nat.reduceAdd, Nat.reduceMul, Nat.reduceSub, Nat.reduceLeDiff, Nat.reduceBEq, Nat.reduceDiv, Nat.reduceMod, Int.reduceToNat, Int.reduceLT, Int.reduceLE, Int.reduceAdd, Int.reduceSub, Int.reduceMul, Int.reduceEq, Int.reduceNeg, reduceCtorEq, resV, resAll, ARes.ev, LV.flat, ite_true, ite_false, exists_eq_left', exists_eq_left, keyOf, implies_true, fillC, capOf]
  refine callK_of (h_toHeap (h.pre hM4) hn) ?_
  simp (disch := omega) only [x4.cells, b4.cells, ↓SXd, SXu, slBounds, ↓sop, ↓aop, ↓reduceIte, LV.cells, AOp.dst, LV.I, LV.B, LV.U, LV.S, LV.nil, Nat.reduceEqDiff, Nat.reduceAdd, Nat.reduceMul, Nat.reduceSub, Nat.reduceLeDiff, Nat.reduceBEq, Nat.reduceDiv, Nat.reduceMod, Int.reduceToNat, Int.reduceLT, Int.reduceLE, Int.reduceAdd, Int.reduceSub, Int.reduceMul, Int.reduceEq, Int.reduceNeg, reduceCtorEq, resV, resAll, ARes.ev, LV.flat, ite_true, ite_false, exists_eq_left', exists_eq_left, keyOf, implies_true, fillC, capOf]
  have he := h_eqHeap (x := x) (y := y) (z := z) (x' := x) (y' := y) (z' := z) (M := N4 ++ [some (.row (triL cs) true 3)]) hc4.app.has (Live.newj (M := N4) (L := [some (.row (triL cs) true 3)]) (j := 0) rfl).has hn hn
  rw [decide_eq_true (by simp)] at he
  refine callK_of he ?_
  simp (disch := omega) only [↓SXd, SXu, slBounds, ↓sop, ↓aop, ↓reduceIte, LV.cells, AOp.dst, LV.I, LV.B, LV.U, LV.S, LV.nil, Nat.reduceEqDiff, Nat.reduceAdd, Nat.reduceMul, Nat.reduceSub, Nat.reduceLeDiff, Nat.reduceBEq, Nat.reduceDiv, Nat.reduceMod, Int.reduceToNat, Int.reduceLT, Int.reduceLE, Int.reduceAdd, Int.reduceSub, Int.reduceMul, Int.reduceEq, Int.reduceNeg, reduceCtorEq, resV, resAll, ARes.ev, LV.flat, ite_true, ite_false, exists_eq_left', exists_eq_left, keyOf, implies_true, fillC, capOf]
  refine callR_of (h_toIntA3SS (hP.pre (hM4.trans (Pre.app _ _))) (by omega)) ?_
  rintro _ N5 ⟨u5, rfl, hp5, hpr5⟩
  have hpr45 : Pre N4 N5 := (Pre.app _ _).trans hpr5
  simp (disch := omega) only [↓SXd, SXu, slBounds, ↓sop, ↓aop, ↓reduceIte, LV.cells, AOp.dst, LV.I, LV.B, LV.U, LV.S, LV.nil, Nat.reduceEqDiff, Nat.reduceAdd, Nat.reduceMul, Nat.reduceSub, Nat.reduceLeDiff, Nat.reduceBEq, Nat.reduceDiv, Nat.reduceMod, Int.reduceToNat, Int.reduceLT, Int.reduceLE, Int.reduceAdd, Int.reduceSub, Int.reduceMul, Int.reduceEq, Int.reduceNeg, reduceCtorEq, resV, resAll, ARes.ev, LV.flat, ite_true, ite_false, exists_eq_left', exists_eq_left, keyOf, implies_true, fillC, capOf]
  refine callK_of (h_eqCss (hp4.pre hpr45).slcc.v hp5.slcc.v (by omega) (by omega)) ?_
  have b6 := b4.pre hpr45
  have x6 := x4.pre hpr45
  have hc6 := hc4.pre hpr45
  have hw6 := hw4.pre hpr45
  have hg6 := hg.pre hpr45
  have hM6 := hM4.trans hpr45
  have hrow6 : Live N5 u3 (.row refs true 1) := (hrow3.pre hpr4).pre hpr45
  have hcss6 : Css N5 (u3 + 1) hi3 refs L := (hcss3.pre hpr4).pre hpr45
  have hrl := hrow3.lt
  have hgo := hg.older
  have hgN : Newer N3 g := hgn
  have hN45 := hpr45.1
  have hN34 := hpr4.1
  simp (disch := omega) only [x6.cells, ↓SXd, SXu, slBounds, ↓sop, ↓aop, ↓reduceIte, LV.cells, AOp.dst, LV.I, LV.B, LV.U, LV.S, LV.nil, Nat.reduceEqDiff, Nat.reduceAdd, Nat.reduceMul, Nat.reduceSub, Nat.reduceLeDiff, Nat.reduceBEq, Nat.reduceDiv, Nat.reduceMod, Int.reduceToNat, Int.reduceLT, Int.reduceLE, Int.reduceAdd, Int.reduceSub, Int.reduceMul, Int.reduceEq, Int.reduceNeg, reduceCtorEq, resV, resAll, ARes.ev, LV.flat, ite_true, ite_false, exists_eq_left', exists_eq_left, keyOf, implies_true, fillC, capOf]
  refine callR_of (h_markHeap (SlC.of hc6) hn (by omega)) ?_
  rintro _ N7 ⟨rfl, _, hN7a, hN7b⟩
  have o7 : ∀ v, v < N5.length → v ≠ N2.length → N7[v]? = N5[v]? := fun v hv hne => hN7b v hv hne
  have hx6l := x6.lt
  have hcss7 : Css N7 (u3 + 1) hi3 refs L := hcss6.mono (Nat.le_refl _) (Nat.le_refl _) fun v l h1 h2 hL => Live.at hL (o7 v hL.lt (by omega))
  have hrow7 : Live N7 u3 (.row refs true 1) := Live.at hrow6 (o7 _ hrow6.lt (by omega))
  simp (disch := omega) only [↓SXd, SXu, slBounds, ↓sop, ↓aop, ↓reduceIte, LV.cells, AOp.dst, LV.I, LV.B, LV.U, LV.S, LV.nil, Nat.reduceEqDiff, Nat.reduceAdd, Nat.reduceMul, Nat.reduceSub, Nat.reduceLeDiff, Nat.reduceBEq, Nat.reduceDiv, Nat.reduceMod, Int.reduceToNat, Int.reduceLT, Int.reduceLE, Int.reduceAdd, Int.reduceSub, Int.reduceMul, Int.reduceEq, Int.reduceNeg, reduceCtorEq, resV, resAll, ARes.ev, LV.flat, ite_true, ite_false, exists_eq_left', exists_eq_left, keyOf, implies_true, fillC, capOf]
  refine callR_of (h_markPcs hrow7 hrl3 hcss7 (Nat.lt_succ_self _) (by omega) (by omega)) ?_
  rintro _ N9 ⟨rfl, hN9l, hN9o⟩
  have o9 : ∀ v, v < N5.length → v ≠ N2.length → (v < u3 + 1 ∨ hi3 ≤ v) → N9[v]? = N5[v]? := fun v hv h1 h2 => by
    rw [hN9o v h2, o7 v hv h1]
  have hat : ∀ {q : LV} {l : List Int}, SlI N5 q l → (∀ v o' m', q = .ref v o' m' → N9[v]? = N5[v]?) → SlI N9 q l := fun {q l} hq hk => by
    rcases hq with hq | ⟨v, ex, e1, e2⟩
    · exact .inl hq
    · exact .inr ⟨v, ex, e1, Live.at e2 (hk v _ _ e1)⟩
  have hg9 := hat hg6 fun v o' m' e => by
    have h1 := hgo v o' m' e
    have h2 : ∀ q, q < N3.length → v ≠ q := fun q hq hv => by
      have := hgN q hq
      rw [e] at this
      exact this hv.symm
    have h4 : N3.length ≤ v := by
      rcases Nat.lt_or_ge v N3.length with h5 | h5
      · exact absurd rfl (h2 v h5)
      · exact h5
    exact o9 v (by omega) (by omega) (.inr (by omega))
  have hw9 := hat hw6 fun v o' m' e => by
    have h1 := hwo v o' m' e
    exact o9 v (by omega) (by omega) (.inl (by omega))
  have b9 := Live.at b6 (o9 _ b6.lt (by omega) (.inl (by omega)))
  have hM9 : Pre M N9 := ⟨by have := hM6.1; omega, fun v hv => by
    have := hM2.1
    rw [o9 v (by omega) (by omega) (.inl (by omega))]; exact hM6.2 v hv⟩
  have hk : ¬ (1 + 3 * (cs.length : Int) + 3 * (tot L : Nat) < 0) := by omega
  simp (disch := omega) only [hk, ↓SXd, SXu, slBounds, ↓sop, ↓aop, ↓reduceIte, LV.cells, AOp.dst, LV.I, LV.B, LV.U, LV.S, LV.nil, Nat.reduceEqDiff, Nat.reduceAdd, Nat.reduceMul, Nat.reduceSub, Nat.reduceLeDiff, Nat.reduceBEq, Nat.reduceDiv, Nat.reduceMod, Int.reduceToNat, Int.reduceLT, Int.reduceLE, Int.reduceAdd, Int.reduceSub, Int.reduceMul, Int.reduceEq, Int.reduceNeg, reduceCtorEq, resV, resAll, ARes.ev, LV.flat, ite_true, ite_false, exists_eq_left', exists_eq_left, keyOf, implies_true, fillC, capOf]
  refine callK_of (h_eqIntS hg9.v hw9.v hrl9 hrl9) ?_
  rw [decide_eq_true (rfl : (firstPk x y z cs L).getD [] = (firstPk x y z cs L).getD [])]
  simp (disch := omega) only [↓SXd, SXu, slBounds, ↓sop, ↓aop, ↓reduceIte, LV.cells, AOp.dst, LV.I, LV.B, LV.U, LV.S, LV.nil, Nat.reduceEqDiff, Nat.reduceAdd, Nat.reduceMul, Nat.reduceSub, Nat.reduceLeDiff, Nat.reduceBEq, Nat.reduceDiv, Nat.reduceMod, Int.reduceToNat, Int.reduceLT, Int.reduceLE, Int.reduceAdd, Int.reduceSub, Int.reduceMul, Int.reduceEq, Int.reduceNeg, reduceCtorEq, resV, resAll, ARes.ev, LV.flat, ite_true, ite_false, exists_eq_left', exists_eq_left, keyOf, implies_true, fillC, capOf]
  refine callR_of (h_markIntS hg9 hrl9 (by omega)) ?_
  rintro _ N10 hmk
  obtain ⟨rfl, hg10, _, _⟩ := id hmk
  have hp10 := hmk.pre
  have hgw : Apart g w := Newer.apart hgN fun v o' m' e => by have := hwo v o' m' e; omega
  have hw10 := hp10.slI hw9 hgw
  have hb3l := b3.lt
  have b10 := hp10.live b9 (hgN _ (by omega))
  have hM10 := hp10.pre hM9 (hgN.mono hM3)
  simp (disch := omega) only [↓SXd, SXu, slBounds, ↓sop, ↓aop, ↓reduceIte, LV.cells, AOp.dst, LV.I, LV.B, LV.U, LV.S, LV.nil, Nat.reduceEqDiff, Nat.reduceAdd, Nat.reduceMul, Nat.reduceSub, Nat.reduceLeDiff, Nat.reduceBEq, Nat.reduceDiv, Nat.reduceMod, Int.reduceToNat, Int.reduceLT, Int.reduceLE, Int.reduceAdd, Int.reduceSub, Int.reduceMul, Int.reduceEq, Int.reduceNeg, reduceCtorEq, resV, resAll, ARes.ev, LV.flat, ite_true, ite_false, exists_eq_left', exists_eq_left, keyOf, implies_true, fillC, capOf]
  refine callK_of (h_heldIntS hg10.v hrl9 (by omega)) ?_
  simp (disch := omega) only [b10.cells, ↓SXd, SXu, slBounds, ↓sop, ↓aop, ↓reduceIte, LV.cells, AOp.dst, LV.I, LV.B, LV.U, LV.S, LV.nil, Nat.reduceEqDiff, Nat.reduceAdd, Nat.reduceMul, Nat.reduceSub, Nat.reduceLeDiff, Nat.reduceBEq, Nat.reduceDiv, Nat.reduceMod, Int.reduceToNat, Int.reduceLT, Int.reduceLE, Int.reduceAdd, Int.reduceSub, Int.reduceMul, Int.reduceEq, Int.reduceNeg, reduceCtorEq, resV, resAll, ARes.ev, LV.flat, ite_true, ite_false, exists_eq_left', exists_eq_left, keyOf, implies_true, fillC, capOf]
  refine callK_of (h_toHeap (h.pre hM10) hn) ?_
  simp (disch := omega) only [↓SXd, SXu, slBounds, ↓sop, ↓aop, ↓reduceIte, LV.cells, AOp.dst, LV.I, LV.B, LV.U, LV.S, LV.nil, Nat.reduceEqDiff, Nat.reduceAdd, Nat.reduceMul, Nat.reduceSub, Nat.reduceLeDiff, Nat.reduceBEq, Nat.reduceDiv, Nat.reduceMod, Int.reduceToNat, Int.reduceLT, Int.reduceLE, Int.reduceAdd, Int.reduceSub, Int.reduceMul, Int.reduceEq, Int.reduceNeg, reduceCtorEq, resV, resAll, ARes.ev, LV.flat, ite_true, ite_false, exists_eq_left', exists_eq_left, keyOf, implies_true, fillC, capOf]
  refine callR_of (h_toIntA3SS (hP.pre (hM10.trans (Pre.app _ _))) (by omega)) ?_
  rintro _ N11 ⟨u11, rfl, hp11, hpr11⟩
  have hc11 : Live N11 N10.length (.row (triL cs) true 3) := Live.new.pre hpr11
  have hpr1011 : Pre N10 N11 := (Pre.app _ _).trans hpr11
  simp (disch := omega) only [↓SXd, SXu, slBounds, ↓sop, ↓aop, ↓reduceIte, LV.cells, AOp.dst, LV.I, LV.B, LV.U, LV.S, LV.nil, Nat.reduceEqDiff, Nat.reduceAdd, Nat.reduceMul, Nat.reduceSub, Nat.reduceLeDiff, Nat.reduceBEq, Nat.reduceDiv, Nat.reduceMod, Int.reduceToNat, Int.reduceLT, Int.reduceLE, Int.reduceAdd, Int.reduceSub, Int.reduceMul, Int.reduceEq, Int.reduceNeg, reduceCtorEq, resV, resAll, ARes.ev, LV.flat, ite_true, ite_false, exists_eq_left', exists_eq_left, keyOf, implies_true, fillC, capOf]
  refine callR_of (g_FirstPacking hc11.has hn hp11.pcs hL hLs) ?_
  rintro _ N12 ⟨g12, rfl, hg12, _, hpr12⟩
  have hpr1012 : Pre N10 N12 := hpr1011.trans hpr12
  simp (disch := omega) only [↓SXd, SXu, slBounds, ↓sop, ↓aop, ↓reduceIte, LV.cells, AOp.dst, LV.I, LV.B, LV.U, LV.S, LV.nil, Nat.reduceEqDiff, Nat.reduceAdd, Nat.reduceMul, Nat.reduceSub, Nat.reduceLeDiff, Nat.reduceBEq, Nat.reduceDiv, Nat.reduceMod, Int.reduceToNat, Int.reduceLT, Int.reduceLE, Int.reduceAdd, Int.reduceSub, Int.reduceMul, Int.reduceEq, Int.reduceNeg, reduceCtorEq, resV, resAll, ARes.ev, LV.flat, ite_true, ite_false, exists_eq_left', exists_eq_left, keyOf, implies_true, fillC, capOf]
  refine callK_of (h_eqIntS hg12.v (hw10.pre hpr1012).v hrl9 hrl9) ?_
  rw [decide_eq_true (rfl : (firstPk x y z cs L).getD [] = (firstPk x y z cs L).getD [])]
  simp (disch := omega) only [↓SXd, SXu, slBounds, ↓sop, ↓aop, ↓reduceIte, LV.cells, AOp.dst, LV.I, LV.B, LV.U, LV.S, LV.nil, Nat.reduceEqDiff, Nat.reduceAdd, Nat.reduceMul, Nat.reduceSub, Nat.reduceLeDiff, Nat.reduceBEq, Nat.reduceDiv, Nat.reduceMod, Int.reduceToNat, Int.reduceLT, Int.reduceLE, Int.reduceAdd, Int.reduceSub, Int.reduceMul, Int.reduceEq, Int.reduceNeg, reduceCtorEq, resV, resAll, ARes.ev, LV.flat, ite_true, ite_false, exists_eq_left', exists_eq_left, keyOf, implies_true, fillC, capOf]
  refine callK_of (h_heldIntS (hg10.pre hpr1012).v hrl9 (by omega)) ?_
  simp (disch := omega) only [↓SXd, SXu, slBounds, ↓sop, ↓aop, ↓reduceIte, LV.cells, AOp.dst, LV.I, LV.B, LV.U, LV.S, LV.nil, Nat.reduceEqDiff, Nat.reduceAdd, Nat.reduceMul, Nat.reduceSub, Nat.reduceLeDiff, Nat.reduceBEq, Nat.reduceDiv, Nat.reduceMod, Int.reduceToNat, Int.reduceLT, Int.reduceLE, Int.reduceAdd, Int.reduceSub, Int.reduceMul, Int.reduceEq, Int.reduceNeg, reduceCtorEq, resV, resAll, ARes.ev, LV.flat, ite_true, ite_false, exists_eq_left', exists_eq_left, keyOf, implies_true, fillC, capOf]
  rfl
end Go.Ab
