/- Parts of the proof of FnExactFewestCubesSaid: C_Uf K_Uf Uf Uk C_Vb K_Vb Vb Wb C_Vd K_Vd C_Vc K_Vc C_Um K_Um C_Ul K_Ul Ul Um C_Pb K_Pb Pa C_Nc K_Nc Nc Pb Pw. -/
import Derived.Test.YtjpdjjeddagjlaaA3
import Derived.Test.YtjpdjjeddagjlaaA4
import Derived.Test.YtjpdjjeddagjlaaProg
import Derived.KernelRfl
import Derived.Test.YtjpdjjeddagjlaaA6
import Derived.Test.YtjpdjjeddagjlaaA5
set_option linter.all false
/- The abstract code of some functions (written by a program of mine from the translation, by way of prepF). -/
namespace Go.Ab.C
open Go.Ab
def spec_l3Allowed : AFn :=
  ⟨1, 86, [.cellN 2 4],
    .seq (.ops [(none, .box 1 (.t 0)),
       (none, .alloc 2 [(.I 0), (.I 0), (.I 0), .nil])])
    (.seq (.ops [(none, .fieldAddr 9 (.t 1) 0),
        (none, .load1 10 (.t 9)),
        (none, .fieldAddr 11 (.t 1) 1),
        (none, .load1 12 (.t 11)),
        (none, .fieldAddr 13 (.t 1) 2),
        (none, .load1 14 (.t 13)),
        (none, .call (some 15) F.spec_l2Empty [(.t 10), (.t 12), (.t 14)]),
        (none, .alloc 3 [(.I 0), (.I 0), (.I 0), .nil]),
        (none, .store 4 (.t 3) (.t 15))])
     (.seq (.ops [(none, .loadN 16 4 (.t 3)),
         (none, .call (some 17) F.spec_l2All [(.t 16)]),
         (none, .mv 4 (.t 17))])
      (.seq (.seq (.ops [(none, .mv 5 (.c (.I 0)))])
        (.block 0 (.loop (.seq (.seq (.ops [(none, .mv 18 (.t 5)),
               (none, .mv 19 (.t 4)),
               (none, .len 20 (.t 19)),
               (none, .bin 21 .lss (.t 18) (.t 20))])
            (.cond (.t 21) (.skip)
             (.exit 0)))
           (.seq (.block 1 (.seq (.draw [⟨(none, .mv 24 (.t 4)), [], []⟩,
                 ⟨(none, .mv 25 (.t 5)), [], []⟩,
                 ⟨(none, .idxS 26 3 (.t 24) (.t 25)), [], []⟩,
                 ⟨(none, .idxA 27 3 1 (.t 26) (.c (.I 0))), [], []⟩,
                 ⟨(none, .load1 28 (.t 27)), [], []⟩,
                 ⟨(none, .mv 29 (.t 4)), [], []⟩,
                 ⟨(none, .mv 30 (.t 5)), [], []⟩,
                 ⟨(none, .idxS 31 3 (.t 29) (.t 30)), [], []⟩,
                 ⟨(none, .idxA 32 3 1 (.t 31) (.c (.I 1))), [], []⟩,
                 ⟨(none, .load1 33 (.t 32)), [], []⟩,
                 ⟨(none, .mv 34 (.t 4)), [], []⟩,
                 ⟨(none, .mv 35 (.t 5)), [], []⟩,
                 ⟨(none, .idxS 36 3 (.t 34) (.t 35)), [], []⟩,
                 ⟨(none, .idxA 37 3 1 (.t 36) (.c (.I 2))), [], []⟩,
                 ⟨(none, .load1 38 (.t 37)), [], []⟩,
                 ⟨(none, .mv 6 (.t 28)), [], []⟩,
                 ⟨(none, .mv 7 (.t 33)), [], []⟩,
                 ⟨(none, .mv 8 (.t 38)), [], []⟩])
              (.seq (.ops [(none, .fieldAddr 39 (.t 1) 3),
                  (none, .load1 40 (.t 39)),
                  (none, .mv 41 (.t 6)),
                  (none, .fieldAddr 42 (.t 1) 1),
                  (none, .load1 43 (.t 42)),
                  (none, .bin 44 .mul (.t 41) (.t 43)),
                  (none, .mv 45 (.t 7)),
                  (none, .bin 46 .add (.t 44) (.t 45)),
                  (none, .idxS 47 1 (.t 40) (.t 46)),
                  (none, .load1 48 (.t 47)),
                  (none, .bin 49 .eql (.t 48) (.c (.I 1))),
                  (none, .mv 50 (.t 49)),
                  (some (50, true), .fieldAddr 51 (.t 1) 4),
                  (some (50, true), .load1 52 (.t 51)),
                  (some (50, true), .mv 53 (.t 6)),
                  (some (50, true), .fieldAddr 54 (.t 1) 2),
                  (some (50, true), .load1 55 (.t 54)),
                  (some (50, true), .bin 56 .mul (.t 53) (.t 55)),
                  (some (50, true), .mv 57 (.t 8)),
                  (some (50, true), .bin 58 .add (.t 56) (.t 57)),
                  (some (50, true), .idxS 59 1 (.t 52) (.t 58)),
                  (some (50, true), .load1 60 (.t 59)),
                  (some (50, true), .bin 61 .eql (.t 60) (.c (.I 1))),
                  (none, .pick 62 (.t 50) (.t 61) (.c (.B false))),
                  (none, .mv 63 (.t 62)),
                  (some (63, true), .fieldAddr 64 (.t 1) 5),
                  (some (63, true), .load1 65 (.t 64)),
                  (some (63, true), .mv 66 (.t 7)),
                  (some (63, true), .fieldAddr 67 (.t 1) 2),
                  (some (63, true), .load1 68 (.t 67)),
                  (some (63, true), .bin 69 .mul (.t 66) (.t 68)),
                  (some (63, true), .mv 70 (.t 8)),
                  (some (63, true), .bin 71 .add (.t 69) (.t 70)),
                  (some (63, true), .idxS 72 1 (.t 65) (.t 71)),
                  (some (63, true), .load1 73 (.t 72)),
                  (some (63, true), .bin 74 .eql (.t 73) (.c (.I 1))),
                  (none, .pick 75 (.t 63) (.t 74) (.c (.B false)))])
               (.cond (.t 75) (.draw [⟨(none, .fieldAddr 76 (.t 3) 3), [], []⟩,
                   ⟨(none, .load1 77 (.t 76)), [], []⟩,
                   ⟨(none, .mv 78 (.t 4)), [], []⟩,
                   ⟨(none, .mv 79 (.t 5)), [], []⟩,
                   ⟨(none, .idxS 80 3 (.t 78) (.t 79)), [], []⟩,
                   ⟨(none, .loadN 81 3 (.t 80)), [], []⟩,
                   ⟨(none, .buildSl 82 1 3 [(.I 0), (.I 0), (.I 0)] [(0, 3, (.t 81))]), [], []⟩,
                   ⟨(none, .append 83 3 24 (.t 77) (.t 82)), [], []⟩,
                   ⟨(none, .fieldAddr 84 (.t 3) 3), [], []⟩,
                   ⟨(none, .store 1 (.t 84) (.t 83)), [], []⟩])
                (.skip)))))
            (.ops [(none, .mv 22 (.t 5)),
               (none, .bin 23 .add (.t 22) (.c (.I 1))),
               (none, .mv 5 (.t 23))]))))))
       (.seq (.ops [(none, .loadN 85 4 (.t 3)),
           (none, .store 4 (.t 2) (.t 85))])
        (.ret)))))⟩
end Go.Ab.C

/- That the program has this code. -/
namespace Go.Ab.K
open Go Go.Ab
theorem spec_l3Allowed : prepF Go.Proofs.Try.prog F.spec_l3Allowed = some C.spec_l3Allowed := by kernel_rfl
end Go.Ab.K

/- Contracts: allowed cells, the reference's side. -/
namespace Go.Ab
open Go
set_option linter.unusedSimpArgs false
set_option linter.unusedVariables false
set_option maxRecDepth 20000

theorem allowed_ones {x y z : Int} {tp fr sd : List Int} {c : Cell} (hok : ShdOK x y z tp fr sd) (hc : c.inBox x y z) : allowedB y z tp fr sd c = (decide (tp.getD (c.a * y + c.b).toNat 0 = 1) && (decide (fr.getD (c.a * z + c.c).toNat 0 = 1) && decide (sd.getD (c.b * z + c.c).toNat 0 = 1))) := by
  have key : ∀ d, d < 3 → ((shdList d tp fr sd).getD (lineOf y z c d).toNat 0 ≠ 0 ↔ (shdList d tp fr sd).getD (lineOf y z c d).toNat 0 = 1) := fun d hd => by
    obtain ⟨h1, h2⟩ := hok.list hd
    obtain ⟨k1, k2⟩ := lineOf_in hok.1 hc hd
    have hm := h1 _ (getD_mem' (d := (0 : Int)) (show (lineOf y z c d).toNat < (shdList d tp fr sd).length by omega))
    omega
  rw [Bool.eq_iff_iff]
  simp only [Bool.and_eq_true, decide_eq_true_eq]
  unfold allowedB litK
  rw [decide_eq_true_iff]
  constructor
  · intro h
    exact ⟨(key 2 (by omega)).1 (h 2 (by omega)), (key 1 (by omega)).1 (h 1 (by omega)), (key 0 (by omega)).1 (h 0 (by omega))⟩
  · rintro ⟨a, b, e⟩ j hj
    rcases (show j = 0 ∨ j = 1 ∨ j = 2 by omega) with rfl | rfl | rfl
    · exact (key 0 (by omega)).2 e
    · exact (key 1 (by omega)).2 b
    · exact (key 2 (by omega)).2 a

theorem memK_one {M : Mem} {t j e : Nat} {old : List LV} {v : LV} {A : Mem → Prop} (ht : Live M t (.row old true e)) (hj : j < old.length)
    (hA : ∀ M', M'.length = M.length → Live M' t (.row (old.set j v) true e) → (∀ u, u ≠ t → u < M.length → M'[u]? = M[u]?) → A M') : memK (setCells M t j [v]) A := by
  rw [ht.setC, if_pos (by simp; omega), splice_1 hj]
  exact hA _ (by simp) ht.set_eq fun u hu _ => List.getElem?_set_ne (fun e => hu e.symm)
theorem h_l3Allowed {x y z : Int} {t o t' o' t2 o2 : Nat} {tp fr sd : List Int} {M : Mem} (h1 : Ints M t o tp) (h2 : Ints M t' o' fr) (h3 : Ints M t2 o2 sd) (hok : ShdOK x y z tp fr sd) :
    CallsTo PG F.spec_l3Allowed [.agg [.I x, .I y, .I z, .ref t o tp.length, .ref t' o' fr.length, .ref t2 o2 sd.length]] M (.agg [.I x, .I y, .I z, .ref M.length 0 (pick x y z (allowedB y z tp fr sd)).length])
      (M ++ [some (.row (triL (pick x y z (allowedB y z tp fr sd))) true 3)]) := by
  have hS := hok.1
  have hv := vol_cast hS
  have hp := prod_le hS
  have ht := h1.lt
  have ht' := h2.lt
  have ht2 := h3.lt
  have hcl : (cellsOf x y z).length = vol x y z := by simp [cellsOf]
  refine calls_run K.spec_l3Allowed rfl ?_
  simp (disch := omega) only [C.spec_l3Allowed, ↓SXd, SXu, slBounds, ↓sop, ↓aop, ↓reduceIte, LV.cells, AOp.dst, LV.I, LV.B, LV.U, LV.S, LV.nil, Nat.reduceEqDiff, Nat.reduceAdd, Nat.reduceMul, Nat.reduceSub, Nat.reduceLeDiff, Nat.reduceBEq, Nat.reduceDiv, Nat.reduceMod, Int.reduceToNat, Int.reduceLT, Int.reduceLE, Int.reduceAdd, Int.reduceSub, Int.reduceMul, Int.reduceEq, Int.reduceNeg, reduceCtorEq, resV, resAll, ARes.ev, LV.flat, ite_true, ite_false, exists_eq_left', exists_eq_left, keyOf, implies_true, fillC, capOf]
  refine callK_of (h_l2Empty) ?_
  simp (disch := omega) only [splice, ↓SXd, SXu, slBounds, ↓sop, ↓aop, ↓reduceIte, LV.cells, AOp.dst, LV.I, LV.B, LV.U, LV.S, LV.nil, Nat.reduceEqDiff, Nat.reduceAdd, Nat.reduceMul, Nat.reduceSub, Nat.reduceLeDiff, Nat.reduceBEq, Nat.reduceDiv, Nat.reduceMod, Int.reduceToNat, Int.reduceLT, Int.reduceLE, Int.reduceAdd, Int.reduceSub, Int.reduceMul, Int.reduceEq, Int.reduceNeg, reduceCtorEq, resV, resAll, ARes.ev, LV.flat, ite_true, ite_false, exists_eq_left', exists_eq_left, keyOf, implies_true, fillC, capOf]
  refine callK_of (h_l2All hS) ?_
  simp (disch := omega) only [↓SXd, SXu, slBounds, ↓sop, ↓aop, ↓reduceIte, LV.cells, AOp.dst, LV.I, LV.B, LV.U, LV.S, LV.nil, Nat.reduceEqDiff, Nat.reduceAdd, Nat.reduceMul, Nat.reduceSub, Nat.reduceLeDiff, Nat.reduceBEq, Nat.reduceDiv, Nat.reduceMod, Int.reduceToNat, Int.reduceLT, Int.reduceLE, Int.reduceAdd, Int.reduceSub, Int.reduceMul, Int.reduceEq, Int.reduceNeg, reduceCtorEq, resV, resAll, ARes.ev, LV.flat, ite_true, ite_false, exists_eq_left', exists_eq_left, keyOf, implies_true, fillC, capOf]
  refine ev_loop (fun m fr1 M' => ∃ i u : Nat, i + m = (cellsOf x y z).length ∧ Pre M M' ∧ Live M' M.length (.row [.I x, .I y, .I z, .ref t o tp.length, .ref t' o' fr.length, .ref t2 o2 sd.length] true 0) ∧ Live M' (M.length + 1) (.row [.I 0, .I 0, .I 0, .nil] true 0) ∧
    Live M' (M.length + 3) (.row [.I x, .I y, .I z, .ref u 0 (((cellsOf x y z).take i).filter (allowedB y z tp fr sd)).length] true 0) ∧ Live M' (M.length + 4) (.row (triL (cellsOf x y z)) true 3) ∧ Live M' u (.row (triL (((cellsOf x y z).take i).filter (allowedB y z tp fr sd))) true 3) ∧ (u = M.length + 2 ∨ M.length + 4 < u) ∧
    fr1 1 = .ptr M.length 0 ∧ fr1 2 = .ptr (M.length + 1) 0 ∧ fr1 3 = .ptr (M.length + 3) 0 ∧ fr1 4 = .ref (M.length + 4) 0 (cellsOf x y z).length ∧ fr1 5 = .I i) (cellsOf x y z).length
    ⟨0, M.length + 2, by omega, Pre.app _ _, Live.new, Live.newj rfl, Live.newj rfl, Live.newj rfl, Live.newj rfl, .inl rfl, rfl, rfl, rfl, rfl, rfl⟩ ?_
  rintro m fr1 M' ⟨i, u, hi, hpre, b1, b2, b3, b4, bu, hu, f1, f2, f3, f4, f5⟩
  simp (disch := omega) only [f1, f2, f3, f4, f5, ↓SXd, SXu, slBounds, ↓sop, ↓aop, ↓reduceIte, LV.cells, AOp.dst, LV.I, LV.B, LV.U, LV.S, LV.nil, Nat.reduceEqDiff, Nat.reduceAdd, Nat.reduceMul, Nat.reduceSub, Nat.reduceLeDiff, Nat.reduceBEq, Nat.reduceDiv, Nat.reduceMod, Int.reduceToNat, Int.reduceLT, Int.reduceLE, Int.reduceAdd, Int.reduceSub, Int.reduceMul, Int.reduceEq, Int.reduceNeg, reduceCtorEq, resV, resAll, ARes.ev, LV.flat, ite_true, ite_false, exists_eq_left', exists_eq_left, keyOf, implies_true, fillC, capOf]
  refine condC_dec (fun hlt => ?_) (fun hlt => ?_)
  · have hil : i < (cellsOf x y z).length := by omega
    have hcb := (mem_cellsOf hS).1 (getD_mem' (d := default) hil)
    have hci := b4.tri0 hil
    have ga := Tri.get_a b4.has hil
    have gb := Tri.get_b b4.has hil
    have gc := Tri.get_c b4.has hil
    have hts : (cellsOf x y z).take (i + 1) = (cellsOf x y z).take i ++ [(cellsOf x y z).getD i default] := by
      rw [List.take_succ, List.getElem?_eq_getElem hil]; simp [hil]
    have hal : (((cellsOf x y z).take i).filter (allowedB y z tp fr sd)).length ≤ 64 := by
      have q1 := List.length_filter_le (allowedB y z tp fr sd) ((cellsOf x y z).take i)
      have q2 := List.length_take_le i (cellsOf x y z)
      omega
    rw [Nat.zero_add] at ga gb gc
    generalize (cellsOf x y z).getD i default = c at hcb hci ga gb gc hts
    have hstep : ((cellsOf x y z).take (i + 1)).filter (allowedB y z tp fr sd) = ((cellsOf x y z).take i).filter (allowedB y z tp fr sd) ++ (if allowedB y z tp fr sd c then [c] else []) := by
      rw [hts, List.filter_append, List.filter_cons, List.filter_nil]
    have hao := allowed_ones hok hcb
    have i2 : 0 ≤ c.a * y + c.b ∧ c.a * y + c.b < x * y := lineOf_in (d := 2) hS hcb (by omega)
    have i1 : 0 ≤ c.a * z + c.c ∧ c.a * z + c.c < x * z := lineOf_in (d := 1) hS hcb (by omega)
    have i0 : 0 ≤ c.b * z + c.c ∧ c.b * z + c.c < y * z := lineOf_in (d := 0) hS hcb (by omega)
    have k2 : (tp.length : Int) = x * y := hok.2.1.2
    have k1 : (fr.length : Int) = x * z := hok.2.2.1.2
    have k0 : (sd.length : Int) = y * z := hok.2.2.2.2
    have e2 := Ints.get (h1.pre hpre) (k := (c.a * y + c.b).toNat) (by omega)
    have e1 := Ints.get (h2.pre hpre) (k := (c.a * z + c.c).toNat) (by omega)
    have e0 := Ints.get (h3.pre hpre) (k := (c.b * z + c.c).toNat) (by omega)
    obtain ⟨⟨_, _⟩, ⟨_, _⟩, ⟨_, _⟩⟩ := id hcb
    obtain ⟨⟨_, _⟩, ⟨_, _⟩, ⟨_, _⟩⟩ := id hS
    have hskip : allowedB y z tp fr sd c = false → ((cellsOf x y z).take (i + 1)).filter (allowedB y z tp fr sd) = ((cellsOf x y z).take i).filter (allowedB y z tp fr sd) := fun h => by rw [hstep, h]; simp
    by_cases q2 : tp.getD (c.a * y + c.b).toNat 0 = 1
    · by_cases q1 : fr.getD (c.a * z + c.c).toNat 0 = 1
      · by_cases q0 : sd.getD (c.b * z + c.c).toNat 0 = 1
        · rw [decide_eq_true q2, decide_eq_true q1, decide_eq_true q0] at hao
          simp (disch := omega) only [f1, f2, f3, f4, f5, ga, gb, gc, b1.cell, e2, e1, e0, q2, q1, q0, b3.cell, hci, Cell.row, splice, ↓SXd, SXu, slBounds, ↓sop, ↓aop, ↓reduceIte, LV.cells, AOp.dst, LV.I, LV.B, LV.U, LV.S, LV.nil, Nat.reduceEqDiff, Nat.reduceAdd, Nat.reduceMul, Nat.reduceSub, Nat.reduceLeDiff, Nat.reduceBEq, Nat.reduceDiv, Nat.reduceMod, Int.reduceToNat, Int.reduceLT, Int.reduceLE, Int.reduceAdd, Int.reduceSub, Int.reduceMul, Int.reduceEq, Int.reduceNeg, reduceCtorEq, resV, resAll, ARes.ev, LV.flat, ite_true, ite_false, exists_eq_left', exists_eq_left, keyOf, implies_true, fillC, capOf]
          rw [if_pos (by rw [hao]; rfl)] at hstep
          refine appendK_cell bu (by omega) fun N' l1 l2 l3 => ?_
          have hl4 := b4.lt
          have d3 := live_step b3 (by omega) l3
          simp (disch := omega) only [f1, f2, f3, f4, f5, ↓SXd, SXu, slBounds, ↓sop, ↓aop, ↓reduceIte, LV.cells, AOp.dst, LV.I, LV.B, LV.U, LV.S, LV.nil, Nat.reduceEqDiff, Nat.reduceAdd, Nat.reduceMul, Nat.reduceSub, Nat.reduceLeDiff, Nat.reduceBEq, Nat.reduceDiv, Nat.reduceMod, Int.reduceToNat, Int.reduceLT, Int.reduceLE, Int.reduceAdd, Int.reduceSub, Int.reduceMul, Int.reduceEq, Int.reduceNeg, reduceCtorEq, resV, resAll, ARes.ev, LV.flat, ite_true, ite_false, exists_eq_left', exists_eq_left, keyOf, implies_true, fillC, capOf]
          refine memK_one d3 (by simp) fun N3 j1 j2 j3 => ?_
          simp (disch := omega) only [f1, f2, f3, f4, f5, ↓SXd, SXu, slBounds, ↓sop, ↓aop, ↓reduceIte, LV.cells, AOp.dst, LV.I, LV.B, LV.U, LV.S, LV.nil, Nat.reduceEqDiff, Nat.reduceAdd, Nat.reduceMul, Nat.reduceSub, Nat.reduceLeDiff, Nat.reduceBEq, Nat.reduceDiv, Nat.reduceMod, Int.reduceToNat, Int.reduceLT, Int.reduceLE, Int.reduceAdd, Int.reduceSub, Int.reduceMul, Int.reduceEq, Int.reduceNeg, reduceCtorEq, resV, resAll, ARes.ev, LV.flat, ite_true, ite_false, exists_eq_left', exists_eq_left, keyOf, implies_true, fillC, capOf]
          rw [cell_eta, ← hstep] at l2 j2
          exact ⟨m - 1, by omega, i + 1, M'.length + 1, by omega, pre_step (pre_step hpre (by omega) l1 l3) (by omega) (j := 0) j1 j3, live_step (live_step b1 (by omega) l3) (by omega) j3, live_step (live_step b2 (by omega) l3) (by omega) j3, j2, live_step (live_step b4 (by omega) l3) (by omega) j3, live_step l2 (by omega) j3, by omega, f1, f2, f3, f4, eqI (natI _)⟩
        · rw [decide_eq_true q2, decide_eq_true q1, decide_eq_false q0] at hao
          simp (disch := omega) only [f1, f2, f3, f4, f5, ga, gb, gc, b1.cell, e2, e1, e0, q2, q1, q0, ↓SXd, SXu, slBounds, ↓sop, ↓aop, ↓reduceIte, LV.cells, AOp.dst, LV.I, LV.B, LV.U, LV.S, LV.nil, Nat.reduceEqDiff, Nat.reduceAdd, Nat.reduceMul, Nat.reduceSub, Nat.reduceLeDiff, Nat.reduceBEq, Nat.reduceDiv, Nat.reduceMod, Int.reduceToNat, Int.reduceLT, Int.reduceLE, Int.reduceAdd, Int.reduceSub, Int.reduceMul, Int.reduceEq, Int.reduceNeg, reduceCtorEq, resV, resAll, ARes.ev, LV.flat, ite_true, ite_false, exists_eq_left', exists_eq_left, keyOf, implies_true, fillC, capOf]
          rw [← hskip hao] at b3 bu
          exact ⟨m - 1, by omega, i + 1, u, by omega, hpre, b1, b2, b3, b4, bu, hu, f1, f2, f3, f4, eqI (natI _)⟩
      · rw [decide_eq_true q2, decide_eq_false q1] at hao
        simp (disch := omega) only [f1, f2, f3, f4, f5, ga, gb, gc, b1.cell, e2, e1, q2, q1, ↓SXd, SXu, slBounds, ↓sop, ↓aop, ↓reduceIte, LV.cells, AOp.dst, LV.I, LV.B, LV.U, LV.S, LV.nil, Nat.reduceEqDiff, Nat.reduceAdd, Nat.reduceMul, Nat.reduceSub, Nat.reduceLeDiff, Nat.reduceBEq, Nat.reduceDiv, Nat.reduceMod, Int.reduceToNat, Int.reduceLT, Int.reduceLE, Int.reduceAdd, Int.reduceSub, Int.reduceMul, Int.reduceEq, Int.reduceNeg, reduceCtorEq, resV, resAll, ARes.ev, LV.flat, ite_true, ite_false, exists_eq_left', exists_eq_left, keyOf, implies_true, fillC, capOf]
        rw [← hskip hao] at b3 bu
        exact ⟨m - 1, by omega, i + 1, u, by omega, hpre, b1, b2, b3, b4, bu, hu, f1, f2, f3, f4, eqI (natI _)⟩
    · rw [decide_eq_false q2] at hao
      simp (disch := omega) only [f1, f2, f3, f4, f5, ga, gb, gc, b1.cell, e2, q2, ↓SXd, SXu, slBounds, ↓sop, ↓aop, ↓reduceIte, LV.cells, AOp.dst, LV.I, LV.B, LV.U, LV.S, LV.nil, Nat.reduceEqDiff, Nat.reduceAdd, Nat.reduceMul, Nat.reduceSub, Nat.reduceLeDiff, Nat.reduceBEq, Nat.reduceDiv, Nat.reduceMod, Int.reduceToNat, Int.reduceLT, Int.reduceLE, Int.reduceAdd, Int.reduceSub, Int.reduceMul, Int.reduceEq, Int.reduceNeg, reduceCtorEq, resV, resAll, ARes.ev, LV.flat, ite_true, ite_false, exists_eq_left', exists_eq_left, keyOf, implies_true, fillC, capOf]
      rw [← hskip hao] at b3 bu
      exact ⟨m - 1, by omega, i + 1, u, by omega, hpre, b1, b2, b3, b4, bu, hu, f1, f2, f3, f4, eqI (natI _)⟩
  · simp (disch := omega) only [f1, f2, f3, f4, f5, b3.cells, ↓SXd, SXu, slBounds, ↓sop, ↓aop, ↓reduceIte, LV.cells, AOp.dst, LV.I, LV.B, LV.U, LV.S, LV.nil, Nat.reduceEqDiff, Nat.reduceAdd, Nat.reduceMul, Nat.reduceSub, Nat.reduceLeDiff, Nat.reduceBEq, Nat.reduceDiv, Nat.reduceMod, Int.reduceToNat, Int.reduceLT, Int.reduceLE, Int.reduceAdd, Int.reduceSub, Int.reduceMul, Int.reduceEq, Int.reduceNeg, reduceCtorEq, resV, resAll, ARes.ev, LV.flat, ite_true, ite_false, exists_eq_left', exists_eq_left, keyOf, implies_true, fillC, capOf]
    have : i = (cellsOf x y z).length := by omega
    subst this
    rw [List.take_length] at b3 bu
    change Live M' u (.row (triL (pick x y z (allowedB y z tp fr sd))) true 3) at bu
    refine memK_box b2 (by simp) fun N3 k1 k2 k3 => ?_
    simp (disch := omega) only [f1, f2, f3, f4, f5, k2.cells, ↓SXd, SXu, slBounds, ↓sop, ↓aop, ↓reduceIte, LV.cells, AOp.dst, LV.I, LV.B, LV.U, LV.S, LV.nil, Nat.reduceEqDiff, Nat.reduceAdd, Nat.reduceMul, Nat.reduceSub, Nat.reduceLeDiff, Nat.reduceBEq, Nat.reduceDiv, Nat.reduceMod, Int.reduceToNat, Int.reduceLT, Int.reduceLE, Int.reduceAdd, Int.reduceSub, Int.reduceMul, Int.reduceEq, Int.reduceNeg, reduceCtorEq, resV, resAll, ARes.ev, LV.flat, ite_true, ite_false, exists_eq_left', exists_eq_left, keyOf, implies_true, fillC, capOf]
    exact cmp_keepL (pre_step hpre (by omega) (j := 0) k1 k3) (by omega) (live_step bu (by omega) k3) (triL_lo _) (by simp [rn, rn0, rn1, pick])
end Go.Ab

/- Contracts: whether a heap has a shadow, the reference's side. -/
namespace Go.Ab
open Go
set_option linter.unusedSimpArgs false
set_option linter.unusedVariables false

theorem lines_le {x y z : Int} {d : Nat} (hS : Sides x y z) (hd : d < 3) : 1 ≤ linesOf x y z d ∧ linesOf x y z d ≤ 16 := by
  have := prod_le hS
  rcases (show d = 0 ∨ d = 1 ∨ d = 2 by omega) with rfl | rfl | rfl
  · exact this.2.2
  · exact this.2.1
  · exact this.1
section
variable {x y z : Int} {t o : Nat} {cs : List Cell} {M : Mem} (h : Tri M t o cs) (hH : HeapOK x y z cs)
include h hH
theorem h_l2Top : CallsTo PG F.spec_l2Top [.agg [.I x, .I y, .I z, .ref t o cs.length]] M (.ref M.length 0 (shdOf x y z 2 cs).length) (M ++ [some (.row (intL (shdOf x y z 2 cs)) true 1)]) := by
  have hl := lines_le hH.1 (d := 2) (by omega)
  have hvl := viewL_len (x := x) (y := y) (z := z) (d := 2) (cs := cs)
  refine calls_run K.spec_l2Top rfl ?_
  simp (disch := omega) only [C.spec_l2Top, ↓SXd, SXu, slBounds, ↓sop, ↓aop, ↓reduceIte, LV.cells, AOp.dst, LV.I, LV.B, LV.U, LV.S, LV.nil, Nat.reduceEqDiff, Nat.reduceAdd, Nat.reduceMul, Nat.reduceSub, Nat.reduceLeDiff, Nat.reduceBEq, Nat.reduceDiv, Nat.reduceMod, Int.reduceToNat, Int.reduceLT, Int.reduceLE, Int.reduceAdd, Int.reduceSub, Int.reduceMul, Int.reduceEq, Int.reduceNeg, reduceCtorEq, resV, resAll, ARes.ev, LV.flat, ite_true, ite_false, exists_eq_left', exists_eq_left, keyOf, implies_true, fillC, capOf]
  refine callK_of (h_l2View h.app hH (d := 2) (by omega)) ?_
  simp (disch := omega) only [↓SXd, SXu, slBounds, ↓sop, ↓aop, ↓reduceIte, LV.cells, AOp.dst, LV.I, LV.B, LV.U, LV.S, LV.nil, Nat.reduceEqDiff, Nat.reduceAdd, Nat.reduceMul, Nat.reduceSub, Nat.reduceLeDiff, Nat.reduceBEq, Nat.reduceDiv, Nat.reduceMod, Int.reduceToNat, Int.reduceLT, Int.reduceLE, Int.reduceAdd, Int.reduceSub, Int.reduceMul, Int.reduceEq, Int.reduceNeg, reduceCtorEq, resV, resAll, ARes.ev, LV.flat, ite_true, ite_false, exists_eq_left', exists_eq_left, keyOf, implies_true, fillC, capOf]
  refine callK_of (h_l2Ones (Live.newj (M := M) (j := 1) (b := .row (intL (viewL x y z 2 cs)) true 1) rfl).has (by omega)) ?_
  simp (disch := omega) only [↓SXd, SXu, slBounds, ↓sop, ↓aop, ↓reduceIte, LV.cells, AOp.dst, LV.I, LV.B, LV.U, LV.S, LV.nil, Nat.reduceEqDiff, Nat.reduceAdd, Nat.reduceMul, Nat.reduceSub, Nat.reduceLeDiff, Nat.reduceBEq, Nat.reduceDiv, Nat.reduceMod, Int.reduceToNat, Int.reduceLT, Int.reduceLE, Int.reduceAdd, Int.reduceSub, Int.reduceMul, Int.reduceEq, Int.reduceNeg, reduceCtorEq, resV, resAll, ARes.ev, LV.flat, ite_true, ite_false, exists_eq_left', exists_eq_left, keyOf, implies_true, fillC, capOf]
  exact cmp_keep1 (j := 2) rfl (intL_lo _) (by simp [rn, rn0, rn1, keepR_n, shdOf])
theorem h_l2Front : CallsTo PG F.spec_l2Front [.agg [.I x, .I y, .I z, .ref t o cs.length]] M (.ref M.length 0 (shdOf x y z 1 cs).length) (M ++ [some (.row (intL (shdOf x y z 1 cs)) true 1)]) := by
  have hl := lines_le hH.1 (d := 1) (by omega)
  have hvl := viewL_len (x := x) (y := y) (z := z) (d := 1) (cs := cs)
  refine calls_run K.spec_l2Front rfl ?_
  simp (disch := omega) only [C.spec_l2Front, ↓SXd, SXu, slBounds, ↓sop, ↓aop, ↓reduceIte, LV.cells, AOp.dst, LV.I, LV.B, LV.U, LV.S, LV.nil, Nat.reduceEqDiff, Nat.reduceAdd, Nat.reduceMul, Nat.reduceSub, Nat.reduceLeDiff, Nat.reduceBEq, Nat.reduceDiv, Nat.reduceMod, Int.reduceToNat, Int.reduceLT, Int.reduceLE, Int.reduceAdd, Int.reduceSub, Int.reduceMul, Int.reduceEq, Int.reduceNeg, reduceCtorEq, resV, resAll, ARes.ev, LV.flat, ite_true, ite_false, exists_eq_left', exists_eq_left, keyOf, implies_true, fillC, capOf]
  refine callK_of (h_l2View h.app hH (d := 1) (by omega)) ?_
  simp (disch := omega) only [↓SXd, SXu, slBounds, ↓sop, ↓aop, ↓reduceIte, LV.cells, AOp.dst, LV.I, LV.B, LV.U, LV.S, LV.nil, Nat.reduceEqDiff, Nat.reduceAdd, Nat.reduceMul, Nat.reduceSub, Nat.reduceLeDiff, Nat.reduceBEq, Nat.reduceDiv, Nat.reduceMod, Int.reduceToNat, Int.reduceLT, Int.reduceLE, Int.reduceAdd, Int.reduceSub, Int.reduceMul, Int.reduceEq, Int.reduceNeg, reduceCtorEq, resV, resAll, ARes.ev, LV.flat, ite_true, ite_false, exists_eq_left', exists_eq_left, keyOf, implies_true, fillC, capOf]
  refine callK_of (h_l2Ones (Live.newj (M := M) (j := 1) (b := .row (intL (viewL x y z 1 cs)) true 1) rfl).has (by omega)) ?_
  simp (disch := omega) only [↓SXd, SXu, slBounds, ↓sop, ↓aop, ↓reduceIte, LV.cells, AOp.dst, LV.I, LV.B, LV.U, LV.S, LV.nil, Nat.reduceEqDiff, Nat.reduceAdd, Nat.reduceMul, Nat.reduceSub, Nat.reduceLeDiff, Nat.reduceBEq, Nat.reduceDiv, Nat.reduceMod, Int.reduceToNat, Int.reduceLT, Int.reduceLE, Int.reduceAdd, Int.reduceSub, Int.reduceMul, Int.reduceEq, Int.reduceNeg, reduceCtorEq, resV, resAll, ARes.ev, LV.flat, ite_true, ite_false, exists_eq_left', exists_eq_left, keyOf, implies_true, fillC, capOf]
  exact cmp_keep1 (j := 2) rfl (intL_lo _) (by simp [rn, rn0, rn1, keepR_n, shdOf])
theorem h_l2Side : CallsTo PG F.spec_l2Side [.agg [.I x, .I y, .I z, .ref t o cs.length]] M (.ref M.length 0 (shdOf x y z 0 cs).length) (M ++ [some (.row (intL (shdOf x y z 0 cs)) true 1)]) := by
  have hl := lines_le hH.1 (d := 0) (by omega)
  have hvl := viewL_len (x := x) (y := y) (z := z) (d := 0) (cs := cs)
  refine calls_run K.spec_l2Side rfl ?_
  simp (disch := omega) only [C.spec_l2Side, ↓SXd, SXu, slBounds, ↓sop, ↓aop, ↓reduceIte, LV.cells, AOp.dst, LV.I, LV.B, LV.U, LV.S, LV.nil, Nat.reduceEqDiff, Nat.reduceAdd, Nat.reduceMul, Nat.reduceSub, Nat.reduceLeDiff, Nat.reduceBEq, Nat.reduceDiv, Nat.reduceMod, Int.reduceToNat, Int.reduceLT, Int.reduceLE, Int.reduceAdd, Int.reduceSub, Int.reduceMul, Int.reduceEq, Int.reduceNeg, reduceCtorEq, resV, resAll, ARes.ev, LV.flat, ite_true, ite_false, exists_eq_left', exists_eq_left, keyOf, implies_true, fillC, capOf]
  refine callK_of (h_l2View h.app hH (d := 0) (by omega)) ?_
  simp (disch := omega) only [↓SXd, SXu, slBounds, ↓sop, ↓aop, ↓reduceIte, LV.cells, AOp.dst, LV.I, LV.B, LV.U, LV.S, LV.nil, Nat.reduceEqDiff, Nat.reduceAdd, Nat.reduceMul, Nat.reduceSub, Nat.reduceLeDiff, Nat.reduceBEq, Nat.reduceDiv, Nat.reduceMod, Int.reduceToNat, Int.reduceLT, Int.reduceLE, Int.reduceAdd, Int.reduceSub, Int.reduceMul, Int.reduceEq, Int.reduceNeg, reduceCtorEq, resV, resAll, ARes.ev, LV.flat, ite_true, ite_false, exists_eq_left', exists_eq_left, keyOf, implies_true, fillC, capOf]
  refine callK_of (h_l2Ones (Live.newj (M := M) (j := 1) (b := .row (intL (viewL x y z 0 cs)) true 1) rfl).has (by omega)) ?_
  simp (disch := omega) only [↓SXd, SXu, slBounds, ↓sop, ↓aop, ↓reduceIte, LV.cells, AOp.dst, LV.I, LV.B, LV.U, LV.S, LV.nil, Nat.reduceEqDiff, Nat.reduceAdd, Nat.reduceMul, Nat.reduceSub, Nat.reduceLeDiff, Nat.reduceBEq, Nat.reduceDiv, Nat.reduceMod, Int.reduceToNat, Int.reduceLT, Int.reduceLE, Int.reduceAdd, Int.reduceSub, Int.reduceMul, Int.reduceEq, Int.reduceNeg, reduceCtorEq, resV, resAll, ARes.ev, LV.flat, ite_true, ite_false, exists_eq_left', exists_eq_left, keyOf, implies_true, fillC, capOf]
  exact cmp_keep1 (j := 2) rfl (intL_lo _) (by simp [rn, rn0, rn1, keepR_n, shdOf])
end

/-- A set of cells has a shadow. -/
def HasShd (x y z : Int) (tp fr sd : List Int) (cs : List Cell) : Prop := shdOf x y z 2 cs = tp ∧ shdOf x y z 1 cs = fr ∧ shdOf x y z 0 cs = sd
instance (x y z : Int) (tp fr sd : List Int) (cs : List Cell) : Decidable (HasShd x y z tp fr sd cs) := by unfold HasShd; exact inferInstance
theorem h_l3Has {x y z x' y' z' : Int} {t o t' o' t2 o2 u v : Nat} {tp fr sd : List Int} {cs : List Cell} {M : Mem} (h1 : Ints M t o tp) (h2 : Ints M t' o' fr) (h3 : Ints M t2 o2 sd) (l1 : tp.length ≤ 1000000000) (l2 : fr.length ≤ 1000000000) (l3 : sd.length ≤ 1000000000)
    (h : Tri M u v cs) (hH : HeapOK x y z cs) :
    CallsTo PG F.spec_l3Has [.agg [.I x', .I y', .I z', .ref t o tp.length, .ref t' o' fr.length, .ref t2 o2 sd.length], .agg [.I x, .I y, .I z, .ref u v cs.length]] M (.B (decide (HasShd x y z tp fr sd cs))) M := by
  have q2 := lines_le hH.1 (d := 2) (by omega)
  have q1 := lines_le hH.1 (d := 1) (by omega)
  have q0 := lines_le hH.1 (d := 0) (by omega)
  have k2 := shdOf_len (x := x) (y := y) (z := z) (d := 2) (cs := cs)
  have k1 := shdOf_len (x := x) (y := y) (z := z) (d := 1) (cs := cs)
  have k0 := shdOf_len (x := x) (y := y) (z := z) (d := 0) (cs := cs)
  rw [show decide (HasShd x y z tp fr sd cs) = decide (shdOf x y z 2 cs = tp ∧ shdOf x y z 1 cs = fr ∧ shdOf x y z 0 cs = sd) from decide_eq_decide.2 Iff.rfl]
  have c2 := fun M' (hp : Pre M M') => h_l2Top (h.pre hp) hH
  have c1 := fun M' (hp : Pre M M') => h_l2Front (h.pre hp) hH
  have c0 := fun M' (hp : Pre M M') => h_l2Side (h.pre hp) hH
  generalize shdOf x y z 2 cs = s2 at k2 c2 ⊢
  generalize shdOf x y z 1 cs = s1 at k1 c1 ⊢
  generalize shdOf x y z 0 cs = s0 at k0 c0 ⊢
  refine calls_run K.spec_l3Has rfl ?_
  simp (disch := omega) only [C.spec_l3Has, ↓SXd, SXu, slBounds, ↓sop, ↓aop, ↓reduceIte, LV.cells, AOp.dst, LV.I, LV.B, LV.U, LV.S, LV.nil, Nat.reduceEqDiff, Nat.reduceAdd, Nat.reduceMul, Nat.reduceSub, Nat.reduceLeDiff, Nat.reduceBEq, Nat.reduceDiv, Nat.reduceMod, Int.reduceToNat, Int.reduceLT, Int.reduceLE, Int.reduceAdd, Int.reduceSub, Int.reduceMul, Int.reduceEq, Int.reduceNeg, reduceCtorEq, resV, resAll, ARes.ev, LV.flat, ite_true, ite_false, exists_eq_left', exists_eq_left, keyOf, implies_true, fillC, capOf]
  refine callK_of (c2 _ (Pre.app _ _)) ?_
  simp (disch := omega) only [↓SXd, SXu, slBounds, ↓sop, ↓aop, ↓reduceIte, LV.cells, AOp.dst, LV.I, LV.B, LV.U, LV.S, LV.nil, Nat.reduceEqDiff, Nat.reduceAdd, Nat.reduceMul, Nat.reduceSub, Nat.reduceLeDiff, Nat.reduceBEq, Nat.reduceDiv, Nat.reduceMod, Int.reduceToNat, Int.reduceLT, Int.reduceLE, Int.reduceAdd, Int.reduceSub, Int.reduceMul, Int.reduceEq, Int.reduceNeg, reduceCtorEq, resV, resAll, ARes.ev, LV.flat, ite_true, ite_false, exists_eq_left', exists_eq_left, keyOf, implies_true, fillC, capOf]
  refine callK_of (h_l1Same (Live.newj (M := M) (j := 2) (b := .row (intL s2) true 1) rfl).has h1.app (by omega) l1) ?_
  simp (disch := omega) only [↓SXd, SXu, slBounds, ↓sop, ↓aop, ↓reduceIte, LV.cells, AOp.dst, LV.I, LV.B, LV.U, LV.S, LV.nil, Nat.reduceEqDiff, Nat.reduceAdd, Nat.reduceMul, Nat.reduceSub, Nat.reduceLeDiff, Nat.reduceBEq, Nat.reduceDiv, Nat.reduceMod, Int.reduceToNat, Int.reduceLT, Int.reduceLE, Int.reduceAdd, Int.reduceSub, Int.reduceMul, Int.reduceEq, Int.reduceNeg, reduceCtorEq, resV, resAll, ARes.ev, LV.flat, ite_true, ite_false, exists_eq_left', exists_eq_left, keyOf, implies_true, fillC, capOf]
  by_cases e2 : s2 = tp
  · simp (disch := omega) only [e2, true_and, ↓SXd, SXu, slBounds, ↓sop, ↓aop, ↓reduceIte, LV.cells, AOp.dst, LV.I, LV.B, LV.U, LV.S, LV.nil, Nat.reduceEqDiff, Nat.reduceAdd, Nat.reduceMul, Nat.reduceSub, Nat.reduceLeDiff, Nat.reduceBEq, Nat.reduceDiv, Nat.reduceMod, Int.reduceToNat, Int.reduceLT, Int.reduceLE, Int.reduceAdd, Int.reduceSub, Int.reduceMul, Int.reduceEq, Int.reduceNeg, reduceCtorEq, resV, resAll, ARes.ev, LV.flat, ite_true, ite_false, exists_eq_left', exists_eq_left, keyOf, implies_true, fillC, capOf]
    refine callK_of (c1 _ (Pre.app _ _)) ?_
    simp (disch := omega) only [↓SXd, SXu, slBounds, ↓sop, ↓aop, ↓reduceIte, LV.cells, AOp.dst, LV.I, LV.B, LV.U, LV.S, LV.nil, Nat.reduceEqDiff, Nat.reduceAdd, Nat.reduceMul, Nat.reduceSub, Nat.reduceLeDiff, Nat.reduceBEq, Nat.reduceDiv, Nat.reduceMod, Int.reduceToNat, Int.reduceLT, Int.reduceLE, Int.reduceAdd, Int.reduceSub, Int.reduceMul, Int.reduceEq, Int.reduceNeg, reduceCtorEq, resV, resAll, ARes.ev, LV.flat, ite_true, ite_false, exists_eq_left', exists_eq_left, keyOf, implies_true, fillC, capOf]
    refine callK_of (h_l1Same (Live.newj (M := M) (j := 3) (b := .row (intL s1) true 1) rfl).has h2.app (by omega) l2) ?_
    simp (disch := omega) only [↓SXd, SXu, slBounds, ↓sop, ↓aop, ↓reduceIte, LV.cells, AOp.dst, LV.I, LV.B, LV.U, LV.S, LV.nil, Nat.reduceEqDiff, Nat.reduceAdd, Nat.reduceMul, Nat.reduceSub, Nat.reduceLeDiff, Nat.reduceBEq, Nat.reduceDiv, Nat.reduceMod, Int.reduceToNat, Int.reduceLT, Int.reduceLE, Int.reduceAdd, Int.reduceSub, Int.reduceMul, Int.reduceEq, Int.reduceNeg, reduceCtorEq, resV, resAll, ARes.ev, LV.flat, ite_true, ite_false, exists_eq_left', exists_eq_left, keyOf, implies_true, fillC, capOf]
    by_cases e1 : s1 = fr
    · simp (disch := omega) only [e1, true_and, ↓SXd, SXu, slBounds, ↓sop, ↓aop, ↓reduceIte, LV.cells, AOp.dst, LV.I, LV.B, LV.U, LV.S, LV.nil, Nat.reduceEqDiff, Nat.reduceAdd, Nat.reduceMul, Nat.reduceSub, Nat.reduceLeDiff, Nat.reduceBEq, Nat.reduceDiv, Nat.reduceMod, Int.reduceToNat, Int.reduceLT, Int.reduceLE, Int.reduceAdd, Int.reduceSub, Int.reduceMul, Int.reduceEq, Int.reduceNeg, reduceCtorEq, resV, resAll, ARes.ev, LV.flat, ite_true, ite_false, exists_eq_left', exists_eq_left, keyOf, implies_true, fillC, capOf]
      refine callK_of (c0 _ (Pre.app _ _)) ?_
      simp (disch := omega) only [↓SXd, SXu, slBounds, ↓sop, ↓aop, ↓reduceIte, LV.cells, AOp.dst, LV.I, LV.B, LV.U, LV.S, LV.nil, Nat.reduceEqDiff, Nat.reduceAdd, Nat.reduceMul, Nat.reduceSub, Nat.reduceLeDiff, Nat.reduceBEq, Nat.reduceDiv, Nat.reduceMod, Int.reduceToNat, Int.reduceLT, Int.reduceLE, Int.reduceAdd, Int.reduceSub, Int.reduceMul, Int.reduceEq, Int.reduceNeg, reduceCtorEq, resV, resAll, ARes.ev, LV.flat, ite_true, ite_false, exists_eq_left', exists_eq_left, keyOf, implies_true, fillC, capOf]
      refine callK_of (h_l1Same (Live.newj (M := M) (j := 4) (b := .row (intL s0) true 1) rfl).has h3.app (by omega) l3) ?_
      simp (disch := omega) only [↓SXd, SXu, slBounds, ↓sop, ↓aop, ↓reduceIte, LV.cells, AOp.dst, LV.I, LV.B, LV.U, LV.S, LV.nil, Nat.reduceEqDiff, Nat.reduceAdd, Nat.reduceMul, Nat.reduceSub, Nat.reduceLeDiff, Nat.reduceBEq, Nat.reduceDiv, Nat.reduceMod, Int.reduceToNat, Int.reduceLT, Int.reduceLE, Int.reduceAdd, Int.reduceSub, Int.reduceMul, Int.reduceEq, Int.reduceNeg, reduceCtorEq, resV, resAll, ARes.ev, LV.flat, ite_true, ite_false, exists_eq_left', exists_eq_left, keyOf, implies_true, fillC, capOf]
      exact cmp_drop rfl
    · simp (disch := omega) only [e1, false_and, ↓SXd, SXu, slBounds, ↓sop, ↓aop, ↓reduceIte, LV.cells, AOp.dst, LV.I, LV.B, LV.U, LV.S, LV.nil, Nat.reduceEqDiff, Nat.reduceAdd, Nat.reduceMul, Nat.reduceSub, Nat.reduceLeDiff, Nat.reduceBEq, Nat.reduceDiv, Nat.reduceMod, Int.reduceToNat, Int.reduceLT, Int.reduceLE, Int.reduceAdd, Int.reduceSub, Int.reduceMul, Int.reduceEq, Int.reduceNeg, reduceCtorEq, resV, resAll, ARes.ev, LV.flat, ite_true, ite_false, exists_eq_left', exists_eq_left, keyOf, implies_true, fillC, capOf]
      exact cmp_drop rfl
  · simp (disch := omega) only [e2, false_and, ↓SXd, SXu, slBounds, ↓sop, ↓aop, ↓reduceIte, LV.cells, AOp.dst, LV.I, LV.B, LV.U, LV.S, LV.nil, Nat.reduceEqDiff, Nat.reduceAdd, Nat.reduceMul, Nat.reduceSub, Nat.reduceLeDiff, Nat.reduceBEq, Nat.reduceDiv, Nat.reduceMod, Int.reduceToNat, Int.reduceLT, Int.reduceLE, Int.reduceAdd, Int.reduceSub, Int.reduceMul, Int.reduceEq, Int.reduceNeg, reduceCtorEq, resV, resAll, ARes.ev, LV.flat, ite_true, ite_false, exists_eq_left', exists_eq_left, keyOf, implies_true, fillC, capOf]
    exact cmp_drop rfl
theorem h_l3Fit {x y z : Int} {t o t' o' t2 o2 : Nat} {tp fr sd : List Int} {M : Mem} (h1 : Ints M t o tp) (h2 : Ints M t' o' fr) (h3 : Ints M t2 o2 sd) (l1 : tp.length ≤ 1000000000) (l2 : fr.length ≤ 1000000000) (l3 : sd.length ≤ 1000000000) :
    CallsTo PG F.spec_l3Fit [.agg [.I x, .I y, .I z, .ref t o tp.length, .ref t' o' fr.length, .ref t2 o2 sd.length]] M (.B (decide (ShdOK x y z tp fr sd ∧ HasShd x y z tp fr sd (pick x y z (allowedB y z tp fr sd))))) M := by
  refine calls_run K.spec_l3Fit rfl ?_
  simp (disch := omega) only [C.spec_l3Fit, ↓SXd, SXu, slBounds, ↓sop, ↓aop, ↓reduceIte, LV.cells, AOp.dst, LV.I, LV.B, LV.U, LV.S, LV.nil, Nat.reduceEqDiff, Nat.reduceAdd, Nat.reduceMul, Nat.reduceSub, Nat.reduceLeDiff, Nat.reduceBEq, Nat.reduceDiv, Nat.reduceMod, Int.reduceToNat, Int.reduceLT, Int.reduceLE, Int.reduceAdd, Int.reduceSub, Int.reduceMul, Int.reduceEq, Int.reduceNeg, reduceCtorEq, resV, resAll, ARes.ev, LV.flat, ite_true, ite_false, exists_eq_left', exists_eq_left, keyOf, implies_true, fillC, capOf]
  refine callK_of (h_l3Shadow h1.app h2.app h3.app l1 l2 l3) ?_
  simp (disch := omega) only [↓SXd, SXu, slBounds, ↓sop, ↓aop, ↓reduceIte, LV.cells, AOp.dst, LV.I, LV.B, LV.U, LV.S, LV.nil, Nat.reduceEqDiff, Nat.reduceAdd, Nat.reduceMul, Nat.reduceSub, Nat.reduceLeDiff, Nat.reduceBEq, Nat.reduceDiv, Nat.reduceMod, Int.reduceToNat, Int.reduceLT, Int.reduceLE, Int.reduceAdd, Int.reduceSub, Int.reduceMul, Int.reduceEq, Int.reduceNeg, reduceCtorEq, resV, resAll, ARes.ev, LV.flat, ite_true, ite_false, exists_eq_left', exists_eq_left, keyOf, implies_true, fillC, capOf]
  by_cases hok : ShdOK x y z tp fr sd
  · simp (disch := omega) only [hok, true_and, ↓SXd, SXu, slBounds, ↓sop, ↓aop, ↓reduceIte, LV.cells, AOp.dst, LV.I, LV.B, LV.U, LV.S, LV.nil, Nat.reduceEqDiff, Nat.reduceAdd, Nat.reduceMul, Nat.reduceSub, Nat.reduceLeDiff, Nat.reduceBEq, Nat.reduceDiv, Nat.reduceMod, Int.reduceToNat, Int.reduceLT, Int.reduceLE, Int.reduceAdd, Int.reduceSub, Int.reduceMul, Int.reduceEq, Int.reduceNeg, reduceCtorEq, resV, resAll, ARes.ev, LV.flat, ite_true, ite_false, exists_eq_left', exists_eq_left, keyOf, implies_true, fillC, capOf]
    refine callK_of (h_l3Allowed h1.app h2.app h3.app hok) ?_
    simp (disch := omega) only [↓SXd, SXu, slBounds, ↓sop, ↓aop, ↓reduceIte, LV.cells, AOp.dst, LV.I, LV.B, LV.U, LV.S, LV.nil, Nat.reduceEqDiff, Nat.reduceAdd, Nat.reduceMul, Nat.reduceSub, Nat.reduceLeDiff, Nat.reduceBEq, Nat.reduceDiv, Nat.reduceMod, Int.reduceToNat, Int.reduceLT, Int.reduceLE, Int.reduceAdd, Int.reduceSub, Int.reduceMul, Int.reduceEq, Int.reduceNeg, reduceCtorEq, resV, resAll, ARes.ev, LV.flat, ite_true, ite_false, exists_eq_left', exists_eq_left, keyOf, implies_true, fillC, capOf]
    refine callK_of (h_l3Has h1.app h2.app h3.app l1 l2 l3 (Live.newj (M := M) (j := 1) (b := .row (triL (pick x y z (allowedB y z tp fr sd))) true 3) rfl).has (pick_ok hok.1 _)) ?_
    simp (disch := omega) only [↓SXd, SXu, slBounds, ↓sop, ↓aop, ↓reduceIte, LV.cells, AOp.dst, LV.I, LV.B, LV.U, LV.S, LV.nil, Nat.reduceEqDiff, Nat.reduceAdd, Nat.reduceMul, Nat.reduceSub, Nat.reduceLeDiff, Nat.reduceBEq, Nat.reduceDiv, Nat.reduceMod, Int.reduceToNat, Int.reduceLT, Int.reduceLE, Int.reduceAdd, Int.reduceSub, Int.reduceMul, Int.reduceEq, Int.reduceNeg, reduceCtorEq, resV, resAll, ARes.ev, LV.flat, ite_true, ite_false, exists_eq_left', exists_eq_left, keyOf, implies_true, fillC, capOf]
    exact cmp_drop rfl
  · simp (disch := omega) only [hok, false_and, ↓SXd, SXu, slBounds, ↓sop, ↓aop, ↓reduceIte, LV.cells, AOp.dst, LV.I, LV.B, LV.U, LV.S, LV.nil, Nat.reduceEqDiff, Nat.reduceAdd, Nat.reduceMul, Nat.reduceSub, Nat.reduceLeDiff, Nat.reduceBEq, Nat.reduceDiv, Nat.reduceMod, Int.reduceToNat, Int.reduceLT, Int.reduceLE, Int.reduceAdd, Int.reduceSub, Int.reduceMul, Int.reduceEq, Int.reduceNeg, reduceCtorEq, resV, resAll, ARes.ev, LV.flat, ite_true, ite_false, exists_eq_left', exists_eq_left, keyOf, implies_true, fillC, capOf]
    exact cmp_drop rfl
end Go.Ab

/- The abstract code of some functions (written by a program of mine from the translation, by way of prepF). -/
namespace Go.Ab.C
open Go.Ab
end Go.Ab.C

/- That the program has this code. -/
namespace Go.Ab.K
open Go Go.Ab
end Go.Ab.K

/- Contracts: marks in a shadow's lists. -/
namespace Go.Ab
open Go
set_option linter.unusedSimpArgs false
set_option linter.unusedVariables false

theorem SlC.at {M N : Mem} {w : LV} {l : List Cell} (h : SlC M w l) (hk : ∀ t o n, w = .ref t o n → N[t]? = M[t]?) : SlC N w l := by
  rcases h with h | ⟨t, ex, h1, h2⟩
  · exact .inl h
  · refine .inr ⟨t, ex, h1, ?_⟩
    unfold Live; rw [hk _ _ _ h1]; exact h2
theorem Live.at {M N : Mem} {t : Nat} {b : Blk} (h : Live M t b) (hk : N[t]? = M[t]?) : Live N t b := by unfold Live; rw [hk]; exact h

/-- What is left as it was by marks in three blocks. -/
def Pre3 (a b c : Nat) (M N : Mem) : Prop := M.length ≤ N.length ∧ ∀ u, u < M.length → u ≠ a → u ≠ b → u ≠ c → N[u]? = M[u]?
theorem Pre3.pre {a b c : Nat} {M0 M N : Mem} (hp : Pre3 a b c M N) (h : Pre M0 M) (h1 : M0.length ≤ a) (h2 : M0.length ≤ b) (h3 : M0.length ≤ c) : Pre M0 N := ⟨Nat.le_trans h.1 hp.1, fun u hu => by rw [hp.2 u (Nat.lt_of_lt_of_le hu h.1) (by omega) (by omega) (by omega)]; exact h.2 u hu⟩

end Go.Ab

/- Contracts: lit lines without a cube, the reference's side. -/
namespace Go.Ab
open Go
set_option linter.unusedSimpArgs false
set_option linter.unusedVariables false
set_option maxRecDepth 20000

theorem appendK_list {M : Mem} {t t2 o2 n n2 e b : Nat} {acc new : List LV} {A : LV → Mem → Prop} (ht : Live M t (.row acc true e)) (hn : acc.length = n * e) (h2 : Has M t2 o2 new) (hne : new.length = n2 * e) (hb : (n + n2) * b ≤ 140737488355328) (hl : n + n2 ≤ 9223372036854775807)
    (hA : ∀ u M', M.length ≤ M'.length → Live M' u (.row (acc ++ new) true e) → (u = t ∨ M.length ≤ u) → (∀ w, w ≠ t → w < M.length → M'[w]? = M[w]?) → A (.ref u 0 (n + n2)) M') : appendK e b (.ref t 0 n) (.ref t2 o2 n2) M A := by
  rcases Nat.eq_zero_or_pos n2 with h0 | h0
  · subst h0
    have : new = [] := List.eq_nil_of_length_eq_zero (by omega)
    subst this
    rw [appendK_zero]
    exact ⟨⟨by omega, by omega⟩, hA t M (Nat.le_refl _) (by rw [List.append_nil]; exact ht) (.inl rfl) fun _ _ _ => rfl⟩
  · rw [appendK_pos h0 (by rw [← hne]; exact h2.all) ht (by omega)]
    refine ⟨⟨hb, hl⟩, hA _ _ (by simp) ?_ (.inr (Nat.le_refl _)) fun w hw hwl => ?_⟩
    · unfold Live
      rw [List.getElem?_append_right (by simp)]
      simp [← hn]
    · rw [List.getElem?_append_left (by simpa using hwl), List.getElem?_set_ne (fun e => hw e.symm)]
theorem pre_stepL {M0 M M' : Mem} {t : Nat} (hp : Pre M0 M) (ht : M0.length ≤ t) (hl : M.length ≤ M'.length) (hu : ∀ u, u ≠ t → u < M.length → M'[u]? = M[u]?) : Pre M0 M' :=
  ⟨Nat.le_trans hp.1 hl, fun u hu' => by rw [hu u (by omega) (Nat.lt_of_lt_of_le hu' hp.1)]; exact hp.2 u hu'⟩

def boolL (v : List Bool) : List LV := v.map LV.B
theorem boolL_len (v : List Bool) : (boolL v).length = v.length := by simp [boolL]
theorem boolL_set {v : List Bool} {k : Nat} {b : Bool} : (boolL v).set k (.B b) = boolL (v.set k b) := by simp [boolL, List.map_set]
theorem boolL_get {v : List Bool} {k : Nat} (h : k < v.length) : (boolL v)[k]? = some (.B (v.getD k false)) := by simp [boolL, h]
theorem boolL_lo {n : Nat} (v : List Bool) : (boolL v).all (LV.lo1 n) = true := by
  rw [List.all_eq_true]; intro x hx
  obtain ⟨l, _, rfl⟩ := List.mem_map.1 hx
  rfl
theorem memK_bool {M : Mem} {t k : Nat} {v : List Bool} {b : Bool} {A : Mem → Prop} (ht : Live M t (.row (boolL v) true 1)) (hk : k < v.length)
    (hA : ∀ M', M'.length = M.length → Live M' t (.row (boolL (v.set k b)) true 1) → (∀ u, u ≠ t → u < M.length → M'[u]? = M[u]?) → A M') : memK (setCells M t k [.val (.bool b)]) A :=
  memK_one ht (by rw [boolL_len]; exact hk) fun M' h1 h2 h3 => hA M' h1 (by rw [← boolL_set]; exact h2) h3

theorem h_l1Own {xs : List Int} {t o : Nat} {M : Mem} (h : Ints M t o xs) (hn : xs.length ≤ 1000000000) : CallsTo PG F.spec_l1Own [.ref t o xs.length] M (.ref M.length 0 xs.length) (M ++ [some (.row (intL xs) true 1)]) := by
  refine calls_run K.spec_l1Own rfl ?_
  simp (disch := omega) only [C.spec_l1Own, ↓SXd, SXu, slBounds, ↓sop, ↓aop, ↓reduceIte, LV.cells, AOp.dst, LV.I, LV.B, LV.U, LV.S, LV.nil, Nat.reduceEqDiff, Nat.reduceAdd, Nat.reduceMul, Nat.reduceSub, Nat.reduceLeDiff, Nat.reduceBEq, Nat.reduceDiv, Nat.reduceMod, Int.reduceToNat, Int.reduceLT, Int.reduceLE, Int.reduceAdd, Int.reduceSub, Int.reduceMul, Int.reduceEq, Int.reduceNeg, reduceCtorEq, resV, resAll, ARes.ev, LV.flat, ite_true, ite_false, exists_eq_left', exists_eq_left, keyOf, implies_true, fillC, capOf]
  refine appendK_list (acc := []) (n := 0) Live.new rfl h.app (by rw [intL_len, Nat.mul_one]) (by omega) (by omega) fun u N k1 k2 k3 k4 => ?_
  simp (disch := omega) only [↓SXd, SXu, slBounds, ↓sop, ↓aop, ↓reduceIte, LV.cells, AOp.dst, LV.I, LV.B, LV.U, LV.S, LV.nil, Nat.reduceEqDiff, Nat.reduceAdd, Nat.reduceMul, Nat.reduceSub, Nat.reduceLeDiff, Nat.reduceBEq, Nat.reduceDiv, Nat.reduceMod, Int.reduceToNat, Int.reduceLT, Int.reduceLE, Int.reduceAdd, Int.reduceSub, Int.reduceMul, Int.reduceEq, Int.reduceNeg, reduceCtorEq, resV, resAll, ARes.ev, LV.flat, ite_true, ite_false, exists_eq_left', exists_eq_left, keyOf, implies_true, fillC, capOf]
  exact cmp_keepL (pre_stepL (Pre.app _ _) (t := M.length) (Nat.le_refl _) k1 k4) (by simp at k3; omega) k2 (intL_lo _) (by simp [rn, rn0, rn1])

theorem h_l3Lines {x y z : Int} {tp fr sd : List Int} {a b c' : LV} {c : Cell} {M : Mem} (hok : ShdOK x y z tp fr sd) (hc : c.inBox x y z) (ha : a.one = true ∧ a.cells = some [a]) (hb : b.one = true ∧ b.cells = some [b]) (hc' : c'.one = true ∧ c'.cells = some [c']) :
    CallsTo PG F.spec_l3Lines [.agg [.I x, .I y, .I z, a, b, c'], .agg [.I c.a, .I c.b, .I c.c]] M (.agg [.I (gl y z tp fr 2 c : Nat), .I (gl y z tp fr 1 c : Nat), .I (gl y z tp fr 0 c : Nat)]) M := by
  have hS := hok.1
  obtain ⟨⟨_, _⟩, ⟨_, _⟩, ⟨_, _⟩⟩ := prod_le hS
  have l0 := lineOf_in hS hc (d := 0) (by omega)
  have l1 := lineOf_in hS hc (d := 1) (by omega)
  have l2 := lineOf_in hS hc (d := 2) (by omega)
  have q0 := lines_le hS (d := 0) (by omega)
  have q1 := lines_le hS (d := 1) (by omega)
  have q2 := lines_le hS (d := 2) (by omega)
  have b1 : ((fr.length : Nat) : Int) = x * z := hok.2.2.1.2
  have b2 : ((tp.length : Nat) : Int) = x * y := hok.2.1.2
  have e0 : ((gl y z tp fr 0 c : Nat) : Int) = x * y + x * z + c.b * z + c.c := by
    have : lineOf y z c 0 = c.b * z + c.c := rfl
    simp only [gl, show offL tp fr 0 = tp.length + fr.length from rfl]; omega
  have e1 : ((gl y z tp fr 1 c : Nat) : Int) = x * y + c.a * z + c.c := by
    have : lineOf y z c 1 = c.a * z + c.c := rfl
    simp only [gl, show offL tp fr 1 = tp.length from rfl]; omega
  have e2 : ((gl y z tp fr 2 c : Nat) : Int) = c.a * y + c.b := by
    have : lineOf y z c 2 = c.a * y + c.b := rfl
    simp only [gl, show offL tp fr 2 = 0 from rfl]; omega
  have i0 : lineOf y z c 0 = c.b * z + c.c := rfl
  have i1 : lineOf y z c 1 = c.a * z + c.c := rfl
  have i2 : lineOf y z c 2 = c.a * y + c.b := rfl
  obtain ⟨⟨_, _⟩, ⟨_, _⟩, ⟨_, _⟩⟩ := id hc
  obtain ⟨⟨_, _⟩, ⟨_, _⟩, ⟨_, _⟩⟩ := id hS
  have hm : ∀ {a b : Int}, 0 ≤ a → a ≤ 3 → 1 ≤ b → b ≤ 4 → 0 ≤ a * b ∧ a * b ≤ 12 := fun {a b} h1 h2 h3 h4 => by
    rcases (show b = 1 ∨ b = 2 ∨ b = 3 ∨ b = 4 by omega) with rfl | rfl | rfl | rfl <;> omega
  obtain ⟨_, _⟩ := hm (a := c.a) (b := y) (by omega) (by omega) (by omega) (by omega)
  obtain ⟨_, _⟩ := hm (a := c.a) (b := z) (by omega) (by omega) (by omega) (by omega)
  obtain ⟨_, _⟩ := hm (a := c.b) (b := z) (by omega) (by omega) (by omega) (by omega)
  refine calls_run K.spec_l3Lines rfl ?_
  simp (disch := omega) only [C.spec_l3Lines, ha, hb, hc', splice, ↓SXd, SXu, slBounds, ↓sop, ↓aop, ↓reduceIte, LV.cells, AOp.dst, LV.I, LV.B, LV.U, LV.S, LV.nil, Nat.reduceEqDiff, Nat.reduceAdd, Nat.reduceMul, Nat.reduceSub, Nat.reduceLeDiff, Nat.reduceBEq, Nat.reduceDiv, Nat.reduceMod, Int.reduceToNat, Int.reduceLT, Int.reduceLE, Int.reduceAdd, Int.reduceSub, Int.reduceMul, Int.reduceEq, Int.reduceNeg, reduceCtorEq, resV, resAll, ARes.ev, LV.flat, ite_true, ite_false, exists_eq_left', exists_eq_left, keyOf, implies_true, fillC, capOf]
  rw [e0, e1, e2]
  refine cmp_pre (Pre.app _ _) rfl

def stepTo (y z : Int) (tp fr : List Int) (V : List Bool) (c : Cell) : Nat → List Bool
  | 0 => V
  | k + 1 => (stepTo y z tp fr V c k).set (gl y z tp fr (2 - k) c) false
theorem stepTo_len {y z : Int} {tp fr : List Int} {V : List Bool} {c : Cell} : ∀ {k : Nat}, (stepTo y z tp fr V c k).length = V.length
  | 0 => rfl
  | k + 1 => by rw [stepTo, List.length_set, stepTo_len]
theorem h_l3Dark {x y z : Int} {t o t' o' t2 o2 q r : Nat} {tp fr sd : List Int} {cs : List Cell} {M : Mem} (h1 : Ints M t o tp) (h2 : Ints M t' o' fr) (h3 : Ints M t2 o2 sd) (hok : ShdOK x y z tp fr sd) (h : Tri M q r cs) (hin : ∀ c ∈ cs, c.inBox x y z) (hn : cs.length ≤ 1000000) :
    CallsTo PG F.spec_l3Dark [.agg [.I x, .I y, .I z, .ref t o tp.length, .ref t' o' fr.length, .ref t2 o2 sd.length], .ref q r cs.length] M (.ref M.length 0 (darkL y z tp fr sd cs).length) (M ++ [some (.row (boolL (darkL y z tp fr sd cs)) true 1)]) := by
  have hS := hok.1
  have ht := h1.lt
  have ht' := h2.lt
  have ht2 := h3.lt
  have hq := h.lt
  have b0 : ((sd.length : Nat) : Int) = y * z := hok.2.2.2.2
  have b1 : ((fr.length : Nat) : Int) = x * z := hok.2.2.1.2
  have b2 : ((tp.length : Nat) : Int) = x * y := hok.2.1.2
  obtain ⟨⟨_, _⟩, ⟨_, _⟩, ⟨_, _⟩⟩ := prod_le hS
  refine calls_run K.spec_l3Dark rfl ?_
  simp (disch := omega) only [C.spec_l3Dark, ↓SXd, SXu, slBounds, ↓sop, ↓aop, ↓reduceIte, LV.cells, AOp.dst, LV.I, LV.B, LV.U, LV.S, LV.nil, Nat.reduceEqDiff, Nat.reduceAdd, Nat.reduceMul, Nat.reduceSub, Nat.reduceLeDiff, Nat.reduceBEq, Nat.reduceDiv, Nat.reduceMod, Int.reduceToNat, Int.reduceLT, Int.reduceLE, Int.reduceAdd, Int.reduceSub, Int.reduceMul, Int.reduceEq, Int.reduceNeg, reduceCtorEq, resV, resAll, ARes.ev, LV.flat, ite_true, ite_false, exists_eq_left', exists_eq_left, keyOf, implies_true, fillC, capOf]
  refine callK_of (h_l1Own h1.app (by omega)) ?_
  simp (disch := omega) only [↓SXd, SXu, slBounds, ↓sop, ↓aop, ↓reduceIte, LV.cells, AOp.dst, LV.I, LV.B, LV.U, LV.S, LV.nil, Nat.reduceEqDiff, Nat.reduceAdd, Nat.reduceMul, Nat.reduceSub, Nat.reduceLeDiff, Nat.reduceBEq, Nat.reduceDiv, Nat.reduceMod, Int.reduceToNat, Int.reduceLT, Int.reduceLE, Int.reduceAdd, Int.reduceSub, Int.reduceMul, Int.reduceEq, Int.reduceNeg, reduceCtorEq, resV, resAll, ARes.ev, LV.flat, ite_true, ite_false, exists_eq_left', exists_eq_left, keyOf, implies_true, fillC, capOf]
  refine appendK_list (Live.newj (M := M) (j := 2) (b := .row (intL tp) true 1) rfl) (by rw [intL_len, Nat.mul_one]) h2.app (by rw [intL_len, Nat.mul_one]) (by omega) (by omega) fun u N k1 k2 k3 k4 => ?_
  simp (disch := omega) only [↓SXd, SXu, slBounds, ↓sop, ↓aop, ↓reduceIte, LV.cells, AOp.dst, LV.I, LV.B, LV.U, LV.S, LV.nil, Nat.reduceEqDiff, Nat.reduceAdd, Nat.reduceMul, Nat.reduceSub, Nat.reduceLeDiff, Nat.reduceBEq, Nat.reduceDiv, Nat.reduceMod, Int.reduceToNat, Int.reduceLT, Int.reduceLE, Int.reduceAdd, Int.reduceSub, Int.reduceMul, Int.reduceEq, Int.reduceNeg, reduceCtorEq, resV, resAll, ARes.ev, LV.flat, ite_true, ite_false, exists_eq_left', exists_eq_left, keyOf, implies_true, fillC, capOf]
  have hbx : Live N M.length (.row [.I x, .I y, .I z, .ref t o tp.length, .ref t' o' fr.length, .ref t2 o2 sd.length] true 0) := Live.at Live.new (k4 _ (by omega) (by simp))
  have hb1 : Live N (M.length + 1) (.row [] true 1) := Live.at (Live.newj (j := 1) rfl) (k4 _ (by omega) (by simp))
  have hp1 : Pre M N := pre_stepL (Pre.app _ _) (t := M.length + 2) (by omega) k1 k4
  have hul : M.length + 2 ≤ u := by simp at k3; omega
  refine ⟨fun b hb => by rw [← hb]; exact hbx, ?_⟩
  refine appendK_list k2 (by rw [List.length_append, intL_len, intL_len, Nat.mul_one]) (h3.pre hp1) (by rw [intL_len, Nat.mul_one]) (by omega) (by omega) fun u2 N2 j1 j2 j3 j4 => ?_
  have hNl : M.length + 3 ≤ N.length := by simpa using k1
  have hu2l : M.length + 2 ≤ u2 := by omega
  have hbx2 := hbx.at (j4 _ (by omega) (by omega))
  have hb12 := hb1.at (j4 _ (by omega) (by omega))
  have hp2 : Pre M N2 := pre_stepL hp1 (t := u) (by omega) j1 j4
  rw [← intL_append, ← intL_append] at j2
  have hXl : tp.length + fr.length + sd.length = (tp ++ fr ++ sd).length := by rw [List.length_append, List.length_append]
  rw [hXl]
  have hXb : (tp ++ fr ++ sd).length ≤ 48 := by omega
  have hd0 : darkL y z tp fr sd cs = cs.foldl (darkStep y z tp fr) ((tp ++ fr ++ sd).map fun n => decide (n = 1)) := rfl
  have hdl := darkL_len (y := y) (z := z) (tp := tp) (fr := fr) (sd := sd) (cs := cs)
  have hglb : ∀ c ∈ cs, ∀ d, d < 3 → gl y z tp fr d c < (tp ++ fr ++ sd).length := fun c hc d hd => by
    have l0 := lineOf_in hS (hin c hc) (d := 0) (by omega)
    have l1 := lineOf_in hS (hin c hc) (d := 1) (by omega)
    have l2 := lineOf_in hS (hin c hc) (d := 2) (by omega)
    have q0 : linesOf x y z 0 = y * z := rfl
    have q1 : linesOf x y z 1 = x * z := rfl
    have q2 : linesOf x y z 2 = x * y := rfl
    rcases (show d = 0 ∨ d = 1 ∨ d = 2 by omega) with rfl | rfl | rfl
    · simp only [gl, show offL tp fr 0 = tp.length + fr.length from rfl]; omega
    · simp only [gl, show offL tp fr 1 = tp.length from rfl]; omega
    · simp only [gl, show offL tp fr 2 = 0 from rfl]; omega
  rw [hXl] at hdl
  rw [hd0] at hdl ⊢
  clear hd0
  generalize tp ++ fr ++ sd = X at j2 hXb hdl hglb ⊢
  simp (disch := omega) only [↓SXd, SXu, slBounds, ↓sop, ↓aop, ↓reduceIte, LV.cells, AOp.dst, LV.I, LV.B, LV.U, LV.S, LV.nil, Nat.reduceEqDiff, Nat.reduceAdd, Nat.reduceMul, Nat.reduceSub, Nat.reduceLeDiff, Nat.reduceBEq, Nat.reduceDiv, Nat.reduceMod, Int.reduceToNat, Int.reduceLT, Int.reduceLE, Int.reduceAdd, Int.reduceSub, Int.reduceMul, Int.reduceEq, Int.reduceNeg, reduceCtorEq, resV, resAll, ARes.ev, LV.flat, ite_true, ite_false, exists_eq_left', exists_eq_left, keyOf, implies_true, fillC, capOf]
  refine ev_loop (fun m fr1 M' => ∃ i v : Nat, i + m = X.length ∧ Pre M M' ∧ Live M' M.length (.row [.I x, .I y, .I z, .ref t o tp.length, .ref t' o' fr.length, .ref t2 o2 sd.length] true 0) ∧ Live M' u2 (.row (intL X) true 1) ∧ Live M' v (.row (boolL ((X.take i).map fun n => decide (n = 1))) true 1) ∧ M.length < v ∧ v ≠ u2 ∧
    fr1 1 = .ref q r cs.length ∧ fr1 2 = .ptr M.length 0 ∧ fr1 5 = .ref v 0 i ∧ fr1 6 = .ref u2 0 X.length ∧ fr1 7 = .I i) X.length
    ⟨0, M.length + 1, by omega, hp2, hbx2, j2, hb12, by omega, by omega, rfl, rfl, rfl, rfl, rfl⟩ ?_
  rintro m fr1 M' ⟨i, v, hi, p3, cb, cx, cv, hv, hvx, f1, f2, f5, f6, f7⟩
  simp (disch := omega) only [f1, f2, f5, f6, f7, ↓SXd, SXu, slBounds, ↓sop, ↓aop, ↓reduceIte, LV.cells, AOp.dst, LV.I, LV.B, LV.U, LV.S, LV.nil, Nat.reduceEqDiff, Nat.reduceAdd, Nat.reduceMul, Nat.reduceSub, Nat.reduceLeDiff, Nat.reduceBEq, Nat.reduceDiv, Nat.reduceMod, Int.reduceToNat, Int.reduceLT, Int.reduceLE, Int.reduceAdd, Int.reduceSub, Int.reduceMul, Int.reduceEq, Int.reduceNeg, reduceCtorEq, resV, resAll, ARes.ev, LV.flat, ite_true, ite_false, exists_eq_left', exists_eq_left, keyOf, implies_true, fillC, capOf]
  have hcx := cx.lt
  have hcb := cb.lt
  refine condC_dec (fun hlt => ?_) (fun hlt => ?_)
  · have hil : i < X.length := by omega
    have hg := Ints.get cx.has hil
    rw [Nat.zero_add] at hg
    have hts : (X.take (i + 1)).map (fun n => decide (n = 1)) = (X.take i).map (fun n => decide (n = 1)) ++ [decide (X.getD i 0 = 1)] := by
      have e : X.getD i 0 = X[i] := by simp [hil]
      rw [List.take_succ, List.getElem?_eq_getElem hil, List.map_append, e]; rfl
    simp (disch := omega) only [f1, f2, f5, f6, f7, hg, Nat.mul_one, ↓SXd, SXu, slBounds, ↓sop, ↓aop, ↓reduceIte, LV.cells, AOp.dst, LV.I, LV.B, LV.U, LV.S, LV.nil, Nat.reduceEqDiff, Nat.reduceAdd, Nat.reduceMul, Nat.reduceSub, Nat.reduceLeDiff, Nat.reduceBEq, Nat.reduceDiv, Nat.reduceMod, Int.reduceToNat, Int.reduceLT, Int.reduceLE, Int.reduceAdd, Int.reduceSub, Int.reduceMul, Int.reduceEq, Int.reduceNeg, reduceCtorEq, resV, resAll, ARes.ev, LV.flat, ite_true, ite_false, exists_eq_left', exists_eq_left, keyOf, implies_true, fillC, capOf]
    refine appendK_1 (n := i) (b := 1) (acc := boolL ((X.take i).map fun n => decide (n = 1))) (new := [.B (decide (X.getD i 0 = 1))]) cv (by rw [boolL_len, List.length_map, List.length_take]; omega) rfl (by omega) (by omega) (by omega) fun N3 e1 e2 e3 => ?_
    simp (disch := omega) only [f1, f2, f5, f6, f7, ↓SXd, SXu, slBounds, ↓sop, ↓aop, ↓reduceIte, LV.cells, AOp.dst, LV.I, LV.B, LV.U, LV.S, LV.nil, Nat.reduceEqDiff, Nat.reduceAdd, Nat.reduceMul, Nat.reduceSub, Nat.reduceLeDiff, Nat.reduceBEq, Nat.reduceDiv, Nat.reduceMod, Int.reduceToNat, Int.reduceLT, Int.reduceLE, Int.reduceAdd, Int.reduceSub, Int.reduceMul, Int.reduceEq, Int.reduceNeg, reduceCtorEq, resV, resAll, ARes.ev, LV.flat, ite_true, ite_false, exists_eq_left', exists_eq_left, keyOf, implies_true, fillC, capOf]
    rw [show boolL ((X.take i).map fun n => decide (n = 1)) ++ [.B (decide (X.getD i 0 = 1))] = boolL ((X.take (i + 1)).map fun n => decide (n = 1)) by rw [hts]; simp [boolL]] at e2
    exact ⟨m - 1, by omega, i + 1, M'.length + 1, by omega, pre_step p3 (by omega) e1 e3, live_step cb (by omega) e3, live_step cx (by omega) e3, e2, by omega, by omega, f1, f2, rfl, f6, eqI (natI _)⟩
  · simp (disch := omega) only [f1, f2, f5, f6, f7, ↓SXd, SXu, slBounds, ↓sop, ↓aop, ↓reduceIte, LV.cells, AOp.dst, LV.I, LV.B, LV.U, LV.S, LV.nil, Nat.reduceEqDiff, Nat.reduceAdd, Nat.reduceMul, Nat.reduceSub, Nat.reduceLeDiff, Nat.reduceBEq, Nat.reduceDiv, Nat.reduceMod, Int.reduceToNat, Int.reduceLT, Int.reduceLE, Int.reduceAdd, Int.reduceSub, Int.reduceMul, Int.reduceEq, Int.reduceNeg, reduceCtorEq, resV, resAll, ARes.ev, LV.flat, ite_true, ite_false, exists_eq_left', exists_eq_left, keyOf, implies_true, fillC, capOf]
    have : i = X.length := by omega
    subst this
    rw [List.take_length] at cv
    have hcl : (X.map fun n => decide (n = 1)).length = X.length := List.length_map ..
    generalize X.map (fun n => decide (n = 1)) = B at cv hdl hcl ⊢
    refine ev_loop (fun m fr1 M' => ∃ i : Nat, i + m = cs.length ∧ Pre M M' ∧ Live M' M.length (.row [.I x, .I y, .I z, .ref t o tp.length, .ref t' o' fr.length, .ref t2 o2 sd.length] true 0) ∧ Live M' v (.row (boolL ((cs.take i).foldl (darkStep y z tp fr) B)) true 1) ∧
      fr1 1 = .ref q r cs.length ∧ fr1 2 = .ptr M.length 0 ∧ fr1 5 = .ref v 0 X.length ∧ fr1 8 = .I i) cs.length
      ⟨0, by omega, p3, cb, cv, f1, f2, f5, rfl⟩ ?_
    clear f1 f2 f5 f6 f7 cb cv p3
    rintro m fr1 M' ⟨i, hi, p3, cb, cv, f1, f2, f5, f8⟩
    simp (disch := omega) only [f1, f2, f5, f8, ↓SXd, SXu, slBounds, ↓sop, ↓aop, ↓reduceIte, LV.cells, AOp.dst, LV.I, LV.B, LV.U, LV.S, LV.nil, Nat.reduceEqDiff, Nat.reduceAdd, Nat.reduceMul, Nat.reduceSub, Nat.reduceLeDiff, Nat.reduceBEq, Nat.reduceDiv, Nat.reduceMod, Int.reduceToNat, Int.reduceLT, Int.reduceLE, Int.reduceAdd, Int.reduceSub, Int.reduceMul, Int.reduceEq, Int.reduceNeg, reduceCtorEq, resV, resAll, ARes.ev, LV.flat, ite_true, ite_false, exists_eq_left', exists_eq_left, keyOf, implies_true, fillC, capOf]
    refine condC_dec (fun hlt => ?_) (fun hlt => ?_)
    · have hil : i < cs.length := by omega
      have hg := Tri.get (h.pre p3) hil
      have hci := hin _ (getD_mem' (d := default) hil)
      have hgi := hglb _ (getD_mem' (d := default) hil)
      have hts : (cs.take (i + 1)).foldl (darkStep y z tp fr) B = darkStep y z tp fr ((cs.take i).foldl (darkStep y z tp fr) B) (cs.getD i default) := by
        rw [List.take_succ, List.getElem?_eq_getElem hil, Option.toList_some, List.foldl_append]; simp [hil]
      have hVl := darkF_len (y := y) (z := z) (tp := tp) (fr := fr) (cs := cs.take i) (v := B)
      generalize cs.getD i default = c at hg hci hgi hts
      generalize (cs.take i).foldl (darkStep y z tp fr) B = V at cv hts hVl
      have hcb := cb.lt
      have hcv := cv.lt
      simp (disch := omega) only [f1, f2, f5, f8, hg, Cell.row, cb.cells, ↓SXd, SXu, slBounds, ↓sop, ↓aop, ↓reduceIte, LV.cells, AOp.dst, LV.I, LV.B, LV.U, LV.S, LV.nil, Nat.reduceEqDiff, Nat.reduceAdd, Nat.reduceMul, Nat.reduceSub, Nat.reduceLeDiff, Nat.reduceBEq, Nat.reduceDiv, Nat.reduceMod, Int.reduceToNat, Int.reduceLT, Int.reduceLE, Int.reduceAdd, Int.reduceSub, Int.reduceMul, Int.reduceEq, Int.reduceNeg, reduceCtorEq, resV, resAll, ARes.ev, LV.flat, ite_true, ite_false, exists_eq_left', exists_eq_left, keyOf, implies_true, fillC, capOf]
      refine callK_of (h_l3Lines hok hci ⟨rfl, rfl⟩ ⟨rfl, rfl⟩ ⟨rfl, rfl⟩) ?_
      simp (disch := omega) only [f1, f2, f5, f8, splice, ↓SXd, SXu, slBounds, ↓sop, ↓aop, ↓reduceIte, LV.cells, AOp.dst, LV.I, LV.B, LV.U, LV.S, LV.nil, Nat.reduceEqDiff, Nat.reduceAdd, Nat.reduceMul, Nat.reduceSub, Nat.reduceLeDiff, Nat.reduceBEq, Nat.reduceDiv, Nat.reduceMod, Int.reduceToNat, Int.reduceLT, Int.reduceLE, Int.reduceAdd, Int.reduceSub, Int.reduceMul, Int.reduceEq, Int.reduceNeg, reduceCtorEq, resV, resAll, ARes.ev, LV.flat, ite_true, ite_false, exists_eq_left', exists_eq_left, keyOf, implies_true, fillC, capOf]
      refine ev_loop (fun m2 fr2 M2 => ∃ k : Nat, k + m2 = 3 ∧ Pre M M2 ∧ Live M2 M.length (.row [.I x, .I y, .I z, .ref t o tp.length, .ref t' o' fr.length, .ref t2 o2 sd.length] true 0) ∧ Live M2 v (.row (boolL (stepTo y z tp fr V c k)) true 1) ∧ Live M2 M'.length (.row [.I (gl y z tp fr 2 c : Nat), .I (gl y z tp fr 1 c : Nat), .I (gl y z tp fr 0 c : Nat)] true 0) ∧
        fr2 1 = .ref q r cs.length ∧ fr2 2 = .ptr M.length 0 ∧ fr2 5 = .ref v 0 X.length ∧ fr2 8 = .I i ∧ fr2 9 = .ptr M'.length 0 ∧ fr2 10 = .I k) 3
        ⟨0, rfl, p3.app', cb.app, cv.app, Live.new, f1, f2, f5, f8, rfl, rfl⟩ ?_
      rintro m2 fr2 M2 ⟨k, hk, p4, db, dv, d9, g1, g2, g5, g8, g9, g10⟩
      simp (disch := omega) only [g1, g2, g5, g8, g9, g10, ↓SXd, SXu, slBounds, ↓sop, ↓aop, ↓reduceIte, LV.cells, AOp.dst, LV.I, LV.B, LV.U, LV.S, LV.nil, Nat.reduceEqDiff, Nat.reduceAdd, Nat.reduceMul, Nat.reduceSub, Nat.reduceLeDiff, Nat.reduceBEq, Nat.reduceDiv, Nat.reduceMod, Int.reduceToNat, Int.reduceLT, Int.reduceLE, Int.reduceAdd, Int.reduceSub, Int.reduceMul, Int.reduceEq, Int.reduceNeg, reduceCtorEq, resV, resAll, ARes.ev, LV.flat, ite_true, ite_false, exists_eq_left', exists_eq_left, keyOf, implies_true, fillC, capOf]
      have hsl := stepTo_len (y := y) (z := z) (tp := tp) (fr := fr) (V := V) (c := c) (k := k)
      refine condC_dec (fun hlt2 => ?_) (fun hlt2 => ?_)
      · have hk3 : k < 3 := by omega
        have hgk := hgi (2 - k) (by omega)
        have h9 := d9.cell (o := k)
        rw [show [LV.I (gl y z tp fr 2 c : Nat), .I (gl y z tp fr 1 c : Nat), .I (gl y z tp fr 0 c : Nat)][k]? = some (.I (gl y z tp fr (2 - k) c : Nat)) by
          rcases (show k = 0 ∨ k = 1 ∨ k = 2 by omega) with rfl | rfl | rfl <;> rfl] at h9
        simp (disch := omega) only [g1, g2, g5, g8, g9, g10, h9, Nat.mul_one, Nat.zero_add, ↓SXd, SXu, slBounds, ↓sop, ↓aop, ↓reduceIte, LV.cells, AOp.dst, LV.I, LV.B, LV.U, LV.S, LV.nil, Nat.reduceEqDiff, Nat.reduceAdd, Nat.reduceMul, Nat.reduceSub, Nat.reduceLeDiff, Nat.reduceBEq, Nat.reduceDiv, Nat.reduceMod, Int.reduceToNat, Int.reduceLT, Int.reduceLE, Int.reduceAdd, Int.reduceSub, Int.reduceMul, Int.reduceEq, Int.reduceNeg, reduceCtorEq, resV, resAll, ARes.ev, LV.flat, ite_true, ite_false, exists_eq_left', exists_eq_left, keyOf, implies_true, fillC, capOf]
        refine memK_bool dv (by omega) fun N3 e1 e2 e3 => ?_
        simp (disch := omega) only [g1, g2, g5, g8, g9, g10, ↓SXd, SXu, slBounds, ↓sop, ↓aop, ↓reduceIte, LV.cells, AOp.dst, LV.I, LV.B, LV.U, LV.S, LV.nil, Nat.reduceEqDiff, Nat.reduceAdd, Nat.reduceMul, Nat.reduceSub, Nat.reduceLeDiff, Nat.reduceBEq, Nat.reduceDiv, Nat.reduceMod, Int.reduceToNat, Int.reduceLT, Int.reduceLE, Int.reduceAdd, Int.reduceSub, Int.reduceMul, Int.reduceEq, Int.reduceNeg, reduceCtorEq, resV, resAll, ARes.ev, LV.flat, ite_true, ite_false, exists_eq_left', exists_eq_left, keyOf, implies_true, fillC, capOf]
        exact ⟨m2 - 1, by omega, k + 1, by omega, pre_step p4 (by omega) (j := 0) e1 e3, live_step db (by omega) e3, e2, live_step d9 (by omega) e3, g1, g2, g5, g8, g9, eqI (natI _)⟩
      · simp (disch := omega) only [g1, g2, g5, g8, g9, g10, ↓SXd, SXu, slBounds, ↓sop, ↓aop, ↓reduceIte, LV.cells, AOp.dst, LV.I, LV.B, LV.U, LV.S, LV.nil, Nat.reduceEqDiff, Nat.reduceAdd, Nat.reduceMul, Nat.reduceSub, Nat.reduceLeDiff, Nat.reduceBEq, Nat.reduceDiv, Nat.reduceMod, Int.reduceToNat, Int.reduceLT, Int.reduceLE, Int.reduceAdd, Int.reduceSub, Int.reduceMul, Int.reduceEq, Int.reduceNeg, reduceCtorEq, resV, resAll, ARes.ev, LV.flat, ite_true, ite_false, exists_eq_left', exists_eq_left, keyOf, implies_true, fillC, capOf]
        have : k = 3 := by omega
        subst this
        rw [show stepTo y z tp fr V c 3 = darkStep y z tp fr V c from rfl, ← hts] at dv
        exact ⟨m - 1, by omega, i + 1, by omega, p4, db, dv, g1, g2, g5, eqI (natI _)⟩
    · simp (disch := omega) only [f1, f2, f5, f8, ↓SXd, SXu, slBounds, ↓sop, ↓aop, ↓reduceIte, LV.cells, AOp.dst, LV.I, LV.B, LV.U, LV.S, LV.nil, Nat.reduceEqDiff, Nat.reduceAdd, Nat.reduceMul, Nat.reduceSub, Nat.reduceLeDiff, Nat.reduceBEq, Nat.reduceDiv, Nat.reduceMod, Int.reduceToNat, Int.reduceLT, Int.reduceLE, Int.reduceAdd, Int.reduceSub, Int.reduceMul, Int.reduceEq, Int.reduceNeg, reduceCtorEq, resV, resAll, ARes.ev, LV.flat, ite_true, ite_false, exists_eq_left', exists_eq_left, keyOf, implies_true, fillC, capOf]
      have : i = cs.length := by omega
      subst this
      rw [List.take_length] at cv
      rw [hdl]
      exact cmp_keepL p3 (by omega) cv (boolL_lo _) (by simp [rn, rn0, rn1])
end Go.Ab

/- The abstract code of some functions (written by a program of mine from the translation, by way of prepF). -/
namespace Go.Ab.C
open Go.Ab
end Go.Ab.C

/- That the program has this code. -/
namespace Go.Ab.K
open Go Go.Ab
end Go.Ab.K

/- The abstract code of some functions (written by a program of mine from the translation, by way of prepF). -/
namespace Go.Ab.C
open Go.Ab
def impl_Shadow_needs : AFn :=
  ⟨1, 37, [.tmp 2],
    .seq (.ops [(none, .box 1 (.t 0)),
       (none, .mv 2 (.c .nil))])
    (.seq (.ops [(none, .buildSl 8 0 1 [] []),
        (none, .loadN 9 6 (.t 1)),
        (none, .call (some 10) F.impl_Shadow_allowed [(.t 9)]),
        (none, .mv 3 (.t 8)),
        (none, .mv 4 (.t 10))])
     (.seq (.seq (.ops [(none, .mv 11 (.c (.I 0)))])
       (.block 0 (.loop (.seq (.ops [(none, .bin 12 .lss (.t 11) (.c (.I 3)))])
          (.seq (.cond (.t 12) (.skip)
            (.exit 0))
           (.seq (.block 1 (.seq (.ops [(none, .mv 13 (.t 11)),
                 (none, .alloc 5 [(.I 0)]),
                 (none, .store 1 (.t 5) (.t 13))])
              (.seq (.ops [(none, .loadN 14 6 (.t 1)),
                  (none, .load1 15 (.t 5)),
                  (none, .call (some 16) F.impl_Shadow_list [(.t 14), (.t 15)]),
                  (none, .len 17 (.t 16)),
                  (none, .mv 18 (.c (.I 0)))])
               (.block 2 (.loop (.seq (.ops [(none, .bin 19 .lss (.t 18) (.t 17))])
                  (.seq (.cond (.t 19) (.skip)
                    (.exit 2))
                   (.seq (.block 3 (.seq (.ops [(none, .mv 20 (.t 18)),
                         (none, .idxS 21 1 (.t 16) (.t 18)),
                         (none, .load1 22 (.t 21)),
                         (none, .alloc 6 [(.I 0)]),
                         (none, .store 1 (.t 6) (.t 20)),
                         (none, .mv 7 (.t 22))])
                      (.seq (.ops [(none, .mv 23 (.t 7)),
                          (none, .bin 24 .eql (.t 23) (.c (.I 1)))])
                       (.cond (.t 24) (.ops [(none, .mv 25 (.t 3)),
                           (none, .mv 26 (.t 4)),
                           (none, .loadN 27 6 (.t 1)),
                           (none, .call (some 28) F.impl_Shadow_box [(.t 27)]),
                           (none, .mkf 29 F.impl_Shadow_needs_1 [(.t 1), (.t 5), (.t 6)]),
                           (none, .call (some 30) F.impl_box_those [(.t 28), (.t 29)]),
                           (none, .bin 31 .and (.t 26) (.t 30)),
                           (none, .buildSl 32 1 1 [(.U 0)] [(0, 1, (.t 31))]),
                           (none, .append 33 1 8 (.t 25) (.t 32)),
                           (none, .mv 3 (.t 33))])
                        (.skip)))))
                    (.ops [(none, .bin 34 .add (.t 18) (.c (.I 1))),
                       (none, .mv 18 (.t 34))])))))))))
            (.ops [(none, .bin 35 .add (.t 11) (.c (.I 1))),
               (none, .mv 11 (.t 35))])))))))
      (.seq (.ops [(none, .mv 36 (.t 3)),
          (none, .mv 2 (.t 36))])
       (.ret))))⟩
def impl_Shadow_needs_1 : AFn :=
  ⟨4, 13, [.tmp 5],
    .seq (.ops [(none, .box 4 (.t 0)),
       (none, .mv 5 (.c (.B false)))])
    (.seq (.draw [⟨(none, .loadN 6 6 (.t 1)), [], []⟩,
        ⟨(none, .loadN 8 3 (.t 4)), [], []⟩,
        ⟨(none, .load1 9 (.t 2)), [], []⟩,
        ⟨(none, .load1 11 (.t 3)), [], []⟩,
        ⟨(none, .call (some 7) F.impl_Shadow_box [(.t 6)]), [], [1, 2, 3]⟩,
        ⟨(none, .call (some 10) F.impl_box_line [(.t 7), (.t 8), (.t 9)]), [], [3]⟩,
        ⟨(none, .bin 12 .eql (.t 10) (.t 11)), [], []⟩,
        ⟨(none, .mv 5 (.t 12)), [], []⟩])
     (.ret))⟩
def impl_Shadow_must : AFn :=
  ⟨1, 21, [.tmp 2],
    .seq (.ops [(none, .box 1 (.t 0)),
       (none, .mv 2 (.c (.U 0)))])
    (.seq (.ops [(none, .mv 3 (.c (.U 0)))])
     (.seq (.seq (.ops [(none, .loadN 6 6 (.t 1)),
          (none, .call (some 7) F.impl_Shadow_needs [(.t 6)]),
          (none, .len 8 (.t 7)),
          (none, .mv 9 (.c (.I 0)))])
       (.block 0 (.loop (.seq (.ops [(none, .bin 10 .lss (.t 9) (.t 8))])
          (.seq (.cond (.t 10) (.skip)
            (.exit 0))
           (.seq (.block 1 (.seq (.ops [(none, .idxS 11 1 (.t 7) (.t 9)),
                 (none, .load1 12 (.t 11)),
                 (none, .mv 5 (.t 12))])
              (.seq (.ops [(none, .mv 13 (.t 5)),
                  (none, .call (some 14) F.impl_set_count [(.t 13)]),
                  (none, .bin 15 .eql (.t 14) (.c (.I 1)))])
               (.cond (.t 15) (.ops [(none, .mv 16 (.t 3)),
                   (none, .mv 17 (.t 5)),
                   (none, .bin 18 .or (.t 16) (.t 17)),
                   (none, .mv 3 (.t 18))])
                (.skip)))))
            (.ops [(none, .bin 19 .add (.t 9) (.c (.I 1))),
               (none, .mv 9 (.t 19))])))))))
      (.seq (.ops [(none, .mv 20 (.t 3)),
          (none, .mv 2 (.t 20))])
       (.ret))))⟩
end Go.Ab.C

/- That the program has this code. -/
namespace Go.Ab.K
open Go Go.Ab
theorem impl_Shadow_needs : prepF Go.Proofs.Try.prog F.impl_Shadow_needs = some C.impl_Shadow_needs := by kernel_rfl
theorem impl_Shadow_needs_1 : prepF Go.Proofs.Try.prog F.impl_Shadow_needs_1 = some C.impl_Shadow_needs_1 := by kernel_rfl
theorem impl_Shadow_must : prepF Go.Proofs.Try.prog F.impl_Shadow_must = some C.impl_Shadow_must := by kernel_rfl
end Go.Ab.K

/- The abstract code of some functions (written by a program of mine from the translation, by way of prepF). -/
namespace Go.Ab.C
open Go.Ab
end Go.Ab.C

/- That the program has this code. -/
namespace Go.Ab.K
open Go Go.Ab
end Go.Ab.K

/- The abstract code of some functions (written by a program of mine from the translation, by way of prepF). -/
namespace Go.Ab.C
open Go.Ab
def impl_box_shadow : AFn :=
  ⟨2, 50, [.cellN 4 6],
    .seq (.ops [(none, .box 2 (.t 0)),
       (none, .alloc 4 [(.I 0), (.I 0), (.I 0), .nil, .nil, .nil])])
    (.seq (.ops [(none, .build 9 [.nil, .nil, .nil] []),
        (none, .alloc 5 [.nil, .nil, .nil]),
        (none, .store 3 (.t 5) (.t 9))])
     (.seq (.seq (.ops [(none, .mv 10 (.c (.I 0)))])
       (.block 0 (.loop (.seq (.ops [(none, .bin 11 .lss (.t 10) (.c (.I 3)))])
          (.seq (.cond (.t 11) (.skip)
            (.exit 0))
           (.seq (.block 1 (.seq (.ops [(none, .mv 12 (.t 10)),
                 (none, .mv 6 (.t 12))])
              (.seq (.ops [(none, .mv 13 (.t 6)),
                  (none, .loadN 14 3 (.t 2)),
                  (none, .mv 15 (.t 1)),
                  (none, .mv 16 (.t 6)),
                  (none, .call (some 17) F.impl_box_view [(.t 14), (.t 15), (.t 16)]),
                  (none, .idxA 18 3 1 (.t 5) (.t 13)),
                  (none, .store 1 (.t 18) (.t 17))])
               (.seq (.ops [(none, .mv 19 (.t 6)),
                   (none, .idxA 20 3 1 (.t 5) (.t 19)),
                   (none, .load1 21 (.t 20)),
                   (none, .len 22 (.t 21)),
                   (none, .mv 23 (.c (.I 0)))])
                (.block 2 (.loop (.seq (.ops [(none, .bin 24 .lss (.t 23) (.t 22))])
                   (.seq (.cond (.t 24) (.skip)
                     (.exit 2))
                    (.seq (.block 3 (.seq (.ops [(none, .mv 25 (.t 23)),
                          (none, .idxS 26 1 (.t 21) (.t 23)),
                          (none, .load1 27 (.t 26)),
                          (none, .mv 7 (.t 25)),
                          (none, .mv 8 (.t 27))])
                       (.ops [(none, .mv 28 (.t 6)),
                          (none, .idxA 29 3 1 (.t 5) (.t 28)),
                          (none, .load1 30 (.t 29)),
                          (none, .mv 31 (.t 7)),
                          (none, .mv 32 (.t 8)),
                          (none, .mm 33 false [(.t 32), (.c (.I 1))]),
                          (none, .idxS 34 1 (.t 30) (.t 31)),
                          (none, .store 1 (.t 34) (.t 33))])))
                     (.ops [(none, .bin 35 .add (.t 23) (.c (.I 1))),
                        (none, .mv 23 (.t 35))]))))))))))
            (.ops [(none, .bin 36 .add (.t 10) (.c (.I 1))),
               (none, .mv 10 (.t 36))])))))))
      (.seq (.ops [(none, .idxA 37 3 1 (.t 2) (.c (.I 0))),
          (none, .load1 38 (.t 37)),
          (none, .idxA 39 3 1 (.t 2) (.c (.I 1))),
          (none, .load1 40 (.t 39)),
          (none, .idxA 41 3 1 (.t 2) (.c (.I 2))),
          (none, .load1 42 (.t 41)),
          (none, .idxA 43 3 1 (.t 5) (.c (.I 2))),
          (none, .load1 44 (.t 43)),
          (none, .idxA 45 3 1 (.t 5) (.c (.I 1))),
          (none, .load1 46 (.t 45)),
          (none, .idxA 47 3 1 (.t 5) (.c (.I 0))),
          (none, .load1 48 (.t 47)),
          (none, .build 49 [(.I 0), (.I 0), (.I 0), .nil, .nil, .nil] [(0, 1, (.t 38)), (1, 1, (.t 40)), (2, 1, (.t 42)), (3, 1, (.t 44)), (4, 1, (.t 46)), (5, 1, (.t 48))]),
          (none, .store 6 (.t 4) (.t 49))])
       (.ret))))⟩
def impl_Shadow_same : AFn :=
  ⟨2, 31, [.tmp 4],
    .seq (.ops [(none, .box 2 (.t 0)),
       (none, .box 3 (.t 1)),
       (none, .mv 4 (.c (.B false)))])
    (.seq (.draw [⟨(none, .loadN 5 6 (.t 2)), [], []⟩,
        ⟨(none, .loadN 7 6 (.t 3)), [], []⟩,
        ⟨(none, .call (some 6) F.impl_Shadow_box [(.t 5)]), [], [1]⟩,
        ⟨(none, .call (some 8) F.impl_Shadow_box [(.t 7)]), [], []⟩,
        ⟨(none, .eqs 9 false 3 (.t 6) (.t 8)), [], []⟩,
        ⟨(none, .mv 10 (.t 9)), [], []⟩,
        ⟨(some (10, true), .fieldAddr 11 (.t 2) 3), [], []⟩,
        ⟨(some (10, true), .load1 12 (.t 11)), [], []⟩,
        ⟨(some (10, true), .fieldAddr 13 (.t 3) 3), [], []⟩,
        ⟨(some (10, true), .load1 14 (.t 13)), [], []⟩,
        ⟨(some (10, true), .call (some 15) F.slices_Equal_Sint_int [(.t 12), (.t 14)]), [], []⟩,
        ⟨(none, .pick 16 (.t 10) (.t 15) (.c (.B false))), [], []⟩,
        ⟨(none, .mv 17 (.t 16)), [], []⟩,
        ⟨(some (17, true), .fieldAddr 18 (.t 2) 4), [], []⟩,
        ⟨(some (17, true), .load1 19 (.t 18)), [], []⟩,
        ⟨(some (17, true), .fieldAddr 20 (.t 3) 4), [], []⟩,
        ⟨(some (17, true), .load1 21 (.t 20)), [], []⟩,
        ⟨(some (17, true), .call (some 22) F.slices_Equal_Sint_int [(.t 19), (.t 21)]), [], []⟩,
        ⟨(none, .pick 23 (.t 17) (.t 22) (.c (.B false))), [], []⟩,
        ⟨(none, .mv 24 (.t 23)), [], []⟩,
        ⟨(some (24, true), .fieldAddr 25 (.t 2) 5), [], []⟩,
        ⟨(some (24, true), .load1 26 (.t 25)), [], []⟩,
        ⟨(some (24, true), .fieldAddr 27 (.t 3) 5), [], []⟩,
        ⟨(some (24, true), .load1 28 (.t 27)), [], []⟩,
        ⟨(some (24, true), .call (some 29) F.slices_Equal_Sint_int [(.t 26), (.t 28)]), [], []⟩,
        ⟨(none, .pick 30 (.t 24) (.t 29) (.c (.B false))), [], []⟩,
        ⟨(none, .mv 4 (.t 30)), [], []⟩])
     (.ret))⟩
def impl_Shadow_isOf : AFn :=
  ⟨2, 11, [.tmp 4],
    .seq (.ops [(none, .box 2 (.t 0)),
       (none, .mv 4 (.c (.B false)))])
    (.seq (.draw [⟨(none, .loadN 5 6 (.t 2)), [], []⟩,
        ⟨(none, .loadN 6 6 (.t 2)), [], []⟩,
        ⟨(none, .mv 8 (.t 1)), [], []⟩,
        ⟨(none, .call (some 7) F.impl_Shadow_box [(.t 6)]), [], [0, 2]⟩,
        ⟨(none, .call (some 9) F.impl_box_shadow [(.t 7), (.t 8)]), [], [0]⟩,
        ⟨(none, .call (some 10) F.impl_Shadow_same [(.t 5), (.t 9)]), [], []⟩,
        ⟨(none, .mv 4 (.t 10)), [], []⟩])
     (.ret))⟩
def impl_Shadow_fits : AFn :=
  ⟨1, 7, [.tmp 2],
    .seq (.ops [(none, .box 1 (.t 0)),
       (none, .mv 2 (.c (.B false)))])
    (.seq (.draw [⟨(none, .loadN 3 6 (.t 1)), [], []⟩,
        ⟨(none, .loadN 4 6 (.t 1)), [], []⟩,
        ⟨(none, .call (some 5) F.impl_Shadow_allowed [(.t 4)]), [], [0]⟩,
        ⟨(none, .call (some 6) F.impl_Shadow_isOf [(.t 3), (.t 5)]), [], []⟩,
        ⟨(none, .mv 2 (.t 6)), [], []⟩])
     (.ret))⟩
def impl_isFitting : AFn :=
  ⟨1, 9, [.tmp 2],
    .seq (.ops [(none, .box 1 (.t 0)),
       (none, .mv 2 (.c (.B false)))])
    (.seq (.ops [(none, .loadN 3 6 (.t 1)),
        (none, .call (some 4) F.impl_IsShadow [(.t 3)]),
        (none, .mv 5 (.t 4)),
        (some (5, true), .loadN 6 6 (.t 1)),
        (some (5, true), .call (some 7) F.impl_Shadow_fits [(.t 6)]),
        (none, .pick 8 (.t 5) (.t 7) (.c (.B false))),
        (none, .mv 2 (.t 8))])
     (.ret))⟩
end Go.Ab.C

/- That the program has this code. -/
namespace Go.Ab.K
open Go Go.Ab
theorem impl_box_shadow : prepF Go.Proofs.Try.prog F.impl_box_shadow = some C.impl_box_shadow := by kernel_rfl
theorem impl_Shadow_same : prepF Go.Proofs.Try.prog F.impl_Shadow_same = some C.impl_Shadow_same := by kernel_rfl
theorem impl_Shadow_isOf : prepF Go.Proofs.Try.prog F.impl_Shadow_isOf = some C.impl_Shadow_isOf := by kernel_rfl
theorem impl_Shadow_fits : prepF Go.Proofs.Try.prog F.impl_Shadow_fits = some C.impl_Shadow_fits := by kernel_rfl
theorem impl_isFitting : prepF Go.Proofs.Try.prog F.impl_isFitting = some C.impl_isFitting := by kernel_rfl
end Go.Ab.K

/- Contracts: shadows of sets, the program's side. -/
namespace Go.Ab
open Go
set_option linter.unusedSimpArgs false
set_option linter.unusedVariables false
set_option maxRecDepth 20000

theorem keepL_pr {M N : Mem} (h : Pre M N) (ks : List Nat) : KeepL ks M N = True := by
  simp only [eq_iff_iff, iff_true]
  intro k _ b hb
  rw [h.2 k (by
    rcases Nat.lt_or_ge k M.length with h1 | h1
    · exact h1
    · rw [List.getElem?_eq_none h1] at hb; cases hb)]
  exact hb
def onesTo (k : Nat) (v : List Int) : List Int := onesL (v.take k) ++ v.drop k
theorem onesTo_step {v : List Int} {k : Nat} (h : k < v.length) : (onesTo k v).set k (min (v.getD k 0) 1) = onesTo (k + 1) v := by
  have hl : (onesL (v.take k)).length = k := by rw [onesL_len]; simp; omega
  unfold onesTo
  have e : v.getD k 0 = v[k] := by simp [h]
  rw [List.set_append_right _ _ (by omega), hl, Nat.sub_self, List.drop_eq_getElem_cons h, List.set_cons_zero, List.take_succ, List.getElem?_eq_getElem h, e]
  simp only [onesL, List.map_append, Option.toList_some, List.map_cons, List.map_nil, List.append_assoc, List.cons_append, List.nil_append]
theorem onesTo_get {v : List Int} {k : Nat} (h : k < v.length) : (onesTo k v).getD k 0 = v.getD k 0 := by
  have hl : (onesL (v.take k)).length = k := by rw [onesL_len]; simp; omega
  unfold onesTo
  rw [List.getD_eq_getElem?_getD, List.getElem?_append_right (by omega), hl, Nat.sub_self, List.getElem?_drop]
  simp [h]
theorem onesTo_len {v : List Int} {k : Nat} : (onesTo k v).length = v.length := by
  unfold onesTo; rw [List.length_append, onesL_len, ← List.length_append, List.take_append_drop]

theorem g_shadow {x y z : Int} {p : Cell → Bool} {M : Mem} (hS : Sides x y z) : CallsR PG F.impl_box_shadow [.agg [.I x, .I y, .I z], .W (bs x y z p)] M
    (ShdRes M x y z (shdOf x y z 2 (pick x y z p)) (shdOf x y z 1 (pick x y z p)) (shdOf x y z 0 (pick x y z p))) := by
  refine callsR_run K.impl_box_shadow rfl ?_
  simp (disch := omega) only [C.impl_box_shadow, ↓SXd, SXu, slBounds, ↓sop, ↓aop, ↓reduceIte, LV.cells, AOp.dst, LV.I, LV.B, LV.U, LV.S, LV.nil, Nat.reduceEqDiff, Nat.reduceAdd, Nat.reduceMul, Nat.reduceSub, Nat.reduceLeDiff, Nat.reduceBEq, Nat.reduceDiv, Nat.reduceMod, Int.reduceToNat, Int.reduceLT, Int.reduceLE, Int.reduceAdd, Int.reduceSub, Int.reduceMul, Int.reduceEq, Int.reduceNeg, reduceCtorEq, resV, resAll, ARes.ev, LV.flat, ite_true, ite_false, exists_eq_left', exists_eq_left, keyOf, implies_true, fillC, capOf]
  refine ev_loop (fun m fr M' => ∃ (d : Nat) (vs : List LV), d + m = 3 ∧ Pre M M' ∧ Live M' M.length (.row [.I x, .I y, .I z] true 0) ∧ Live M' (M.length + 1) (.row [.I 0, .I 0, .I 0, .nil, .nil, .nil] true 0) ∧ Live M' (M.length + 2) (.row vs true 0) ∧ vs.length = 3 ∧
    fr 1 = .W (bs x y z p) ∧ fr 2 = .ptr M.length 0 ∧ fr 4 = .ptr (M.length + 1) 0 ∧ fr 5 = .ptr (M.length + 2) 0 ∧ fr 10 = .I d ∧ (∀ j, j < d → ∃ a, vs[j]? = some (.ref a 0 (shdOf x y z j (pick x y z p)).length) ∧ M.length + 2 < a ∧ Live M' a (.row (intL (shdOf x y z j (pick x y z p))) true 1)) ∧
    (∀ i j a b n m, i < d → j < d → i ≠ j → vs[i]? = some (.ref a 0 n) → vs[j]? = some (.ref b 0 m) → a ≠ b)) 3
    ⟨0, [.nil, .nil, .nil], rfl, Pre.app _ _, Live.new, Live.newj rfl, Live.newj rfl, rfl, rfl, rfl, rfl, rfl, rfl, by omega, by omega⟩ ?_
  rintro m fr M' ⟨d, vs, hd, hpre, b2, b4, b5, hvl, f1, f2, f4, f5, f10, hj, hne⟩
  simp (disch := omega) only [f1, f2, f4, f5, f10, ↓SXd, SXu, slBounds, ↓sop, ↓aop, ↓reduceIte, LV.cells, AOp.dst, LV.I, LV.B, LV.U, LV.S, LV.nil, Nat.reduceEqDiff, Nat.reduceAdd, Nat.reduceMul, Nat.reduceSub, Nat.reduceLeDiff, Nat.reduceBEq, Nat.reduceDiv, Nat.reduceMod, Int.reduceToNat, Int.reduceLT, Int.reduceLE, Int.reduceAdd, Int.reduceSub, Int.reduceMul, Int.reduceEq, Int.reduceNeg, reduceCtorEq, resV, resAll, ARes.ev, LV.flat, ite_true, ite_false, exists_eq_left', exists_eq_left, keyOf, implies_true, fillC, capOf]
  refine condC_dec (fun hlt => ?_) (fun hlt => ?_)
  · have hd3 : d < 3 := by omega
    have hll := lines_le hS hd3
    have hvw := viewL_len (x := x) (y := y) (z := z) (d := d) (cs := pick x y z p)
    simp (disch := omega) only [f1, f2, f4, f5, f10, b2.cells, ↓SXd, SXu, slBounds, ↓sop, ↓aop, ↓reduceIte, LV.cells, AOp.dst, LV.I, LV.B, LV.U, LV.S, LV.nil, Nat.reduceEqDiff, Nat.reduceAdd, Nat.reduceMul, Nat.reduceSub, Nat.reduceLeDiff, Nat.reduceBEq, Nat.reduceDiv, Nat.reduceMod, Int.reduceToNat, Int.reduceLT, Int.reduceLE, Int.reduceAdd, Int.reduceSub, Int.reduceMul, Int.reduceEq, Int.reduceNeg, reduceCtorEq, resV, resAll, ARes.ev, LV.flat, ite_true, ite_false, exists_eq_left', exists_eq_left, keyOf, implies_true, fillC, capOf]
    refine callN_of (g_view hS hd3) ?_
    intro t N ht hp2 hn
    have b52 := b5.pre hp2
    simp (disch := omega) only [f1, f2, f4, f5, f10, ↓SXd, SXu, slBounds, ↓sop, ↓aop, ↓reduceIte, LV.cells, AOp.dst, LV.I, LV.B, LV.U, LV.S, LV.nil, Nat.reduceEqDiff, Nat.reduceAdd, Nat.reduceMul, Nat.reduceSub, Nat.reduceLeDiff, Nat.reduceBEq, Nat.reduceDiv, Nat.reduceMod, Int.reduceToNat, Int.reduceLT, Int.reduceLE, Int.reduceAdd, Int.reduceSub, Int.reduceMul, Int.reduceEq, Int.reduceNeg, reduceCtorEq, resV, resAll, ARes.ev, LV.flat, ite_true, ite_false, exists_eq_left', exists_eq_left, keyOf, implies_true, fillC, capOf]
    refine memK_one b52 (by omega) fun N2 k1 k2 k3 => ?_
    have hb5 := b5.lt
    have hn2 := live_step hn (by omega) k3
    have hset : (vs.set d (.ref t 0 (viewL x y z d (pick x y z p)).length))[d]? = some (.ref t 0 (viewL x y z d (pick x y z p)).length) := by rw [List.getElem?_set_self (by omega)]
    simp (disch := omega) only [f1, f2, f4, f5, f10, k2.cell, hset, ↓SXd, SXu, slBounds, ↓sop, ↓aop, ↓reduceIte, LV.cells, AOp.dst, LV.I, LV.B, LV.U, LV.S, LV.nil, Nat.reduceEqDiff, Nat.reduceAdd, Nat.reduceMul, Nat.reduceSub, Nat.reduceLeDiff, Nat.reduceBEq, Nat.reduceDiv, Nat.reduceMod, Int.reduceToNat, Int.reduceLT, Int.reduceLE, Int.reduceAdd, Int.reduceSub, Int.reduceMul, Int.reduceEq, Int.reduceNeg, reduceCtorEq, resV, resAll, ARes.ev, LV.flat, ite_true, ite_false, exists_eq_left', exists_eq_left, keyOf, implies_true, fillC, capOf]
    have hpre2 : Pre M N2 := pre_step (hpre.trans hp2) (by omega) (j := 0) k1 k3
    have hk2 := live_step (b2.pre hp2) (by omega) k3
    have hk4 := live_step (b4.pre hp2) (by omega) k3
    have hj2 : ∀ j, j < d → ∃ a, (vs.set d (.ref t 0 (viewL x y z d (pick x y z p)).length))[j]? = some (.ref a 0 (shdOf x y z j (pick x y z p)).length) ∧ M.length + 2 < a ∧ a ≠ t ∧ Live N2 a (.row (intL (shdOf x y z j (pick x y z p))) true 1) := fun j hjd => by
      obtain ⟨a, h1, h2, h3⟩ := hj j hjd
      have := h3.lt
      exact ⟨a, by rw [List.getElem?_set_ne (by omega)]; exact h1, h2, by omega, live_step (h3.pre hp2) (by omega) k3⟩
    generalize hV : vs.set d (.ref t 0 (viewL x y z d (pick x y z p)).length) = V at k2 hset hj2
    have hVl : V.length = 3 := by rw [← hV]; simpa using hvl
    refine ev_loop (fun m2 fr2 M2 => ∃ i : Nat, i + m2 = (viewL x y z d (pick x y z p)).length ∧ Pre M M2 ∧ Live M2 M.length (.row [.I x, .I y, .I z] true 0) ∧ Live M2 (M.length + 1) (.row [.I 0, .I 0, .I 0, .nil, .nil, .nil] true 0) ∧ Live M2 (M.length + 2) (.row V true 0) ∧
      Live M2 t (.row (intL (onesTo i (viewL x y z d (pick x y z p)))) true 1) ∧ (∀ j, j < d → ∃ a, V[j]? = some (.ref a 0 (shdOf x y z j (pick x y z p)).length) ∧ M.length + 2 < a ∧ a ≠ t ∧ Live M2 a (.row (intL (shdOf x y z j (pick x y z p))) true 1)) ∧
      fr2 1 = .W (bs x y z p) ∧ fr2 2 = .ptr M.length 0 ∧ fr2 4 = .ptr (M.length + 1) 0 ∧ fr2 5 = .ptr (M.length + 2) 0 ∧ fr2 6 = .I d ∧ fr2 10 = .I d ∧ fr2 21 = .ref t 0 (viewL x y z d (pick x y z p)).length ∧ fr2 22 = .I (viewL x y z d (pick x y z p)).length ∧ fr2 23 = .I i) (viewL x y z d (pick x y z p)).length
      ⟨0, by omega, hpre2, hk2, hk4, k2, hn2, hj2, f1, f2, f4, f5, rfl, f10, rfl, rfl, rfl⟩ ?_
    rintro m2 fr2 M2 ⟨i, hi, p2, c2, c4, c5, ct, cj, g1, g2, g4, g5, g6, g10, g21, g22, g23⟩
    simp (disch := omega) only [g1, g2, g4, g5, g6, g10, g21, g22, g23, ↓SXd, SXu, slBounds, ↓sop, ↓aop, ↓reduceIte, LV.cells, AOp.dst, LV.I, LV.B, LV.U, LV.S, LV.nil, Nat.reduceEqDiff, Nat.reduceAdd, Nat.reduceMul, Nat.reduceSub, Nat.reduceLeDiff, Nat.reduceBEq, Nat.reduceDiv, Nat.reduceMod, Int.reduceToNat, Int.reduceLT, Int.reduceLE, Int.reduceAdd, Int.reduceSub, Int.reduceMul, Int.reduceEq, Int.reduceNeg, reduceCtorEq, resV, resAll, ARes.ev, LV.flat, ite_true, ite_false, exists_eq_left', exists_eq_left, keyOf, implies_true, fillC, capOf]
    refine condC_dec (fun hlt2 => ?_) (fun hlt2 => ?_)
    · have hil : i < (viewL x y z d (pick x y z p)).length := by omega
      have hol := onesTo_len (v := viewL x y z d (pick x y z p)) (k := i)
      have hg := Ints.get ct.has (k := i) (by omega)
      rw [onesTo_get hil, Nat.zero_add] at hg
      have hst := onesTo_step hil
      simp (disch := omega) only [g1, g2, g4, g5, g6, g10, g21, g22, g23, hg, Nat.mul_one, c5.cell, hset, maxV, if_true, ite_true, ↓SXd, SXu, slBounds, ↓sop, ↓aop, ↓reduceIte, LV.cells, AOp.dst, LV.I, LV.B, LV.U, LV.S, LV.nil, Nat.reduceEqDiff, Nat.reduceAdd, Nat.reduceMul, Nat.reduceSub, Nat.reduceLeDiff, Nat.reduceBEq, Nat.reduceDiv, Nat.reduceMod, Int.reduceToNat, Int.reduceLT, Int.reduceLE, Int.reduceAdd, Int.reduceSub, Int.reduceMul, Int.reduceEq, Int.reduceNeg, reduceCtorEq, resV, resAll, ARes.ev, LV.flat, ite_true, ite_false, exists_eq_left', exists_eq_left, keyOf, implies_true, fillC, capOf]
      refine memK_int (k := i) ct (by omega) fun N3 q1 q2 q3 => ?_
      simp (disch := omega) only [g1, g2, g4, g5, g6, g10, g21, g22, g23, ↓SXd, SXu, slBounds, ↓sop, ↓aop, ↓reduceIte, LV.cells, AOp.dst, LV.I, LV.B, LV.U, LV.S, LV.nil, Nat.reduceEqDiff, Nat.reduceAdd, Nat.reduceMul, Nat.reduceSub, Nat.reduceLeDiff, Nat.reduceBEq, Nat.reduceDiv, Nat.reduceMod, Int.reduceToNat, Int.reduceLT, Int.reduceLE, Int.reduceAdd, Int.reduceSub, Int.reduceMul, Int.reduceEq, Int.reduceNeg, reduceCtorEq, resV, resAll, ARes.ev, LV.flat, ite_true, ite_false, exists_eq_left', exists_eq_left, keyOf, implies_true, fillC, capOf]
      rw [hst] at q2
      exact ⟨m2 - 1, by omega, i + 1, by omega, pre_step p2 (by omega) (j := 0) q1 q3, live_step c2 (by omega) q3, live_step c4 (by omega) q3, live_step c5 (by omega) q3, q2, fun j hjd => by
        obtain ⟨a, h1, h2, h3, h4⟩ := cj j hjd
        exact ⟨a, h1, h2, h3, live_step h4 h3 q3⟩, g1, g2, g4, g5, g6, g10, g21, g22, eqI (natI _)⟩
    · simp (disch := omega) only [g1, g2, g4, g5, g6, g10, g21, g22, g23, ↓SXd, SXu, slBounds, ↓sop, ↓aop, ↓reduceIte, LV.cells, AOp.dst, LV.I, LV.B, LV.U, LV.S, LV.nil, Nat.reduceEqDiff, Nat.reduceAdd, Nat.reduceMul, Nat.reduceSub, Nat.reduceLeDiff, Nat.reduceBEq, Nat.reduceDiv, Nat.reduceMod, Int.reduceToNat, Int.reduceLT, Int.reduceLE, Int.reduceAdd, Int.reduceSub, Int.reduceMul, Int.reduceEq, Int.reduceNeg, reduceCtorEq, resV, resAll, ARes.ev, LV.flat, ite_true, ite_false, exists_eq_left', exists_eq_left, keyOf, implies_true, fillC, capOf]
      have : i = (viewL x y z d (pick x y z p)).length := by omega
      subst this
      have hfin : onesTo (viewL x y z d (pick x y z p)).length (viewL x y z d (pick x y z p)) = shdOf x y z d (pick x y z p) := by unfold onesTo shdOf; simp
      rw [hfin] at ct
      have hsl : (viewL x y z d (pick x y z p)).length = (shdOf x y z d (pick x y z p)).length := by unfold shdOf; rw [onesL_len]
      rw [hsl] at hset
      have hall : ∀ j, j < d + 1 → ∃ a, V[j]? = some (.ref a 0 (shdOf x y z j (pick x y z p)).length) ∧ M.length + 2 < a ∧ (j = d → a = t) ∧ (j < d → a ≠ t) ∧ Live M2 a (.row (intL (shdOf x y z j (pick x y z p))) true 1) := fun j hjd => by
        rcases Nat.lt_or_ge j d with h | h
        · obtain ⟨a, h1, h2, h3, h4⟩ := cj j h
          exact ⟨a, h1, h2, by omega, fun _ => h3, h4⟩
        · have : j = d := by omega
          subst this
          exact ⟨t, hset, by omega, fun _ => rfl, by omega, ct⟩
      refine ⟨m - 1, by omega, d + 1, V, by omega, p2, c2, c4, c5, hVl, g1, g2, g4, g5, eqI (natI _), fun j hjd => ?_, ?_⟩
      · obtain ⟨a, h1, h2, _, _, h4⟩ := hall j hjd
        exact ⟨a, h1, h2, h4⟩
      · intro i j a b n m hi hj' hij ha hb
        obtain ⟨a', h1, _, h3, h4, _⟩ := hall i hi
        obtain ⟨b', k1, _, k3, k4, _⟩ := hall j hj'
        rw [h1] at ha
        rw [k1] at hb
        simp only [Option.some.injEq, LV.ref.injEq] at ha hb
        rcases Nat.lt_or_ge i d with hi1 | hi1
        · rcases Nat.lt_or_ge j d with hj1 | hj1
          · have hVi : V[i]? = vs[i]? := by rw [← hV, List.getElem?_set_ne (by omega)]
            have hVj : V[j]? = vs[j]? := by rw [← hV, List.getElem?_set_ne (by omega)]
            rw [hVi, ← ha.1.symm] at h1
            rw [hVj, ← hb.1.symm] at k1
            rw [← ha.1, ← hb.1]
            exact hne i j a' b' _ _ hi1 hj1 hij (by rw [← hVi, ‹V[i]? = vs[i]?›]; rw [ha.1]; exact h1) (by rw [hb.1]; exact k1)
          · have := h4 hi1; have := k3 (by omega); omega
        · have := h3 (by omega); have := k4 (by omega); omega
  · simp (disch := omega) only [f1, f2, f4, f5, f10, ↓SXd, SXu, slBounds, ↓sop, ↓aop, ↓reduceIte, LV.cells, AOp.dst, LV.I, LV.B, LV.U, LV.S, LV.nil, Nat.reduceEqDiff, Nat.reduceAdd, Nat.reduceMul, Nat.reduceSub, Nat.reduceLeDiff, Nat.reduceBEq, Nat.reduceDiv, Nat.reduceMod, Int.reduceToNat, Int.reduceLT, Int.reduceLE, Int.reduceAdd, Int.reduceSub, Int.reduceMul, Int.reduceEq, Int.reduceNeg, reduceCtorEq, resV, resAll, ARes.ev, LV.flat, ite_true, ite_false, exists_eq_left', exists_eq_left, keyOf, implies_true, fillC, capOf]
    have : d = 3 := by omega
    subst this
    obtain ⟨a0, e0, _, l0⟩ := hj 0 (by omega)
    obtain ⟨a1, e1, _, l1⟩ := hj 1 (by omega)
    obtain ⟨a2, e2, _, l2⟩ := hj 2 (by omega)
    have n01 := hne 0 1 _ _ _ _ (by omega) (by omega) (by omega) e0 e1
    have n02 := hne 0 2 _ _ _ _ (by omega) (by omega) (by omega) e0 e2
    have n12 := hne 1 2 _ _ _ _ (by omega) (by omega) (by omega) e1 e2
    simp (disch := omega) only [f1, f2, f4, f5, f10, b2.cell, b5.cell, e0, e1, e2, splice, ↓SXd, SXu, slBounds, ↓sop, ↓aop, ↓reduceIte, LV.cells, AOp.dst, LV.I, LV.B, LV.U, LV.S, LV.nil, Nat.reduceEqDiff, Nat.reduceAdd, Nat.reduceMul, Nat.reduceSub, Nat.reduceLeDiff, Nat.reduceBEq, Nat.reduceDiv, Nat.reduceMod, Int.reduceToNat, Int.reduceLT, Int.reduceLE, Int.reduceAdd, Int.reduceSub, Int.reduceMul, Int.reduceEq, Int.reduceNeg, reduceCtorEq, resV, resAll, ARes.ev, LV.flat, ite_true, ite_false, exists_eq_left', exists_eq_left, keyOf, implies_true, fillC, capOf]
    refine memK_box b4 (by simp) fun N3 q1 q2 q3 => ?_
    simp (disch := omega) only [f1, f2, f4, f5, f10, q2.cells, ↓SXd, SXu, slBounds, ↓sop, ↓aop, ↓reduceIte, LV.cells, AOp.dst, LV.I, LV.B, LV.U, LV.S, LV.nil, Nat.reduceEqDiff, Nat.reduceAdd, Nat.reduceMul, Nat.reduceSub, Nat.reduceLeDiff, Nat.reduceBEq, Nat.reduceDiv, Nat.reduceMod, Int.reduceToNat, Int.reduceLT, Int.reduceLE, Int.reduceAdd, Int.reduceSub, Int.reduceMul, Int.reduceEq, Int.reduceNeg, reduceCtorEq, resV, resAll, ARes.ev, LV.flat, ite_true, ite_false, exists_eq_left', exists_eq_left, keyOf, implies_true, fillC, capOf]
    exact ⟨a2, a1, a0, rfl, by omega, by omega, by omega, Ne.symm n12, Ne.symm n02, Ne.symm n01, live_step l2 (by omega) q3, live_step l1 (by omega) q3, live_step l0 (by omega) q3, pre_step hpre (by omega) (j := 0) q1 q3⟩
end Go.Ab

/- Contracts: whether a heap has a shadow, the program's side; IsShadowOf, both sides. -/
namespace Go.Ab
open Go
set_option linter.unusedSimpArgs false
set_option linter.unusedVariables false
set_option maxRecDepth 20000

theorem beqXYZ {a b c a' b' c' : Int} : (a == a' && (b == b' && c == c')) = decide (a = a' ∧ b = b' ∧ c = c') := by
  rw [Bool.eq_iff_iff]; simp
theorem g_Shadow_same {x y z x' y' z' : Int} {t o t' o' t2 o2 u v u' v' u2 v2 : Nat} {tp fr sd tp' fr' sd' : List Int} {M : Mem} (h1 : Ints M t o tp) (h2 : Ints M t' o' fr) (h3 : Ints M t2 o2 sd) (l1 : tp.length ≤ 1000000000) (l2 : fr.length ≤ 1000000000) (l3 : sd.length ≤ 1000000000)
    (k1 : Ints M u v tp') (k2 : Ints M u' v' fr') (k3 : Ints M u2 v2 sd') (m1 : tp'.length ≤ 1000000000) (m2 : fr'.length ≤ 1000000000) (m3 : sd'.length ≤ 1000000000) :
    CallsTo PG F.impl_Shadow_same [.agg [.I x, .I y, .I z, .ref t o tp.length, .ref t' o' fr.length, .ref t2 o2 sd.length], .agg [.I x', .I y', .I z', .ref u v tp'.length, .ref u' v' fr'.length, .ref u2 v2 sd'.length]] M
      (.B (decide ((x = x' ∧ y = y' ∧ z = z') ∧ tp = tp' ∧ fr = fr' ∧ sd = sd'))) M := by
  refine calls_run K.impl_Shadow_same rfl ?_
  simp (disch := omega) only [C.impl_Shadow_same, ↓SXd, SXu, slBounds, ↓sop, ↓aop, ↓reduceIte, LV.cells, AOp.dst, LV.I, LV.B, LV.U, LV.S, LV.nil, Nat.reduceEqDiff, Nat.reduceAdd, Nat.reduceMul, Nat.reduceSub, Nat.reduceLeDiff, Nat.reduceBEq, Nat.reduceDiv, Nat.reduceMod, Int.reduceToNat, Int.reduceLT, Int.reduceLE, Int.reduceAdd, Int.reduceSub, Int.reduceMul, Int.reduceEq, Int.reduceNeg, reduceCtorEq, resV, resAll, ARes.ev, LV.flat, ite_true, ite_false, exists_eq_left', exists_eq_left, keyOf, implies_true, fillC, capOf]
  refine callK_of (g_Shadow_box) ?_
  simp (disch := omega) only [↓SXd, SXu, slBounds, ↓sop, ↓aop, ↓reduceIte, LV.cells, AOp.dst, LV.I, LV.B, LV.U, LV.S, LV.nil, Nat.reduceEqDiff, Nat.reduceAdd, Nat.reduceMul, Nat.reduceSub, Nat.reduceLeDiff, Nat.reduceBEq, Nat.reduceDiv, Nat.reduceMod, Int.reduceToNat, Int.reduceLT, Int.reduceLE, Int.reduceAdd, Int.reduceSub, Int.reduceMul, Int.reduceEq, Int.reduceNeg, reduceCtorEq, resV, resAll, ARes.ev, LV.flat, ite_true, ite_false, exists_eq_left', exists_eq_left, keyOf, implies_true, fillC, capOf]
  refine callK_of (g_Shadow_box) ?_
  simp (disch := omega) only [eqV, eqC, if_true, ite_true, Bool.and_true, ↓SXd, SXu, slBounds, ↓sop, ↓aop, ↓reduceIte, LV.cells, AOp.dst, LV.I, LV.B, LV.U, LV.S, LV.nil, Nat.reduceEqDiff, Nat.reduceAdd, Nat.reduceMul, Nat.reduceSub, Nat.reduceLeDiff, Nat.reduceBEq, Nat.reduceDiv, Nat.reduceMod, Int.reduceToNat, Int.reduceLT, Int.reduceLE, Int.reduceAdd, Int.reduceSub, Int.reduceMul, Int.reduceEq, Int.reduceNeg, reduceCtorEq, resV, resAll, ARes.ev, LV.flat, ite_true, ite_false, exists_eq_left', exists_eq_left, keyOf, implies_true, fillC, capOf]
  rw [beqXYZ]
  by_cases hd : x = x' ∧ y = y' ∧ z = z'
  · simp (disch := omega) only [hd, true_and, ↓SXd, SXu, slBounds, ↓sop, ↓aop, ↓reduceIte, LV.cells, AOp.dst, LV.I, LV.B, LV.U, LV.S, LV.nil, Nat.reduceEqDiff, Nat.reduceAdd, Nat.reduceMul, Nat.reduceSub, Nat.reduceLeDiff, Nat.reduceBEq, Nat.reduceDiv, Nat.reduceMod, Int.reduceToNat, Int.reduceLT, Int.reduceLE, Int.reduceAdd, Int.reduceSub, Int.reduceMul, Int.reduceEq, Int.reduceNeg, reduceCtorEq, resV, resAll, ARes.ev, LV.flat, ite_true, ite_false, exists_eq_left', exists_eq_left, keyOf, implies_true, fillC, capOf]
    refine callK_of (g_equalI h1.app k1.app l1 m1) ?_
    simp (disch := omega) only [↓SXd, SXu, slBounds, ↓sop, ↓aop, ↓reduceIte, LV.cells, AOp.dst, LV.I, LV.B, LV.U, LV.S, LV.nil, Nat.reduceEqDiff, Nat.reduceAdd, Nat.reduceMul, Nat.reduceSub, Nat.reduceLeDiff, Nat.reduceBEq, Nat.reduceDiv, Nat.reduceMod, Int.reduceToNat, Int.reduceLT, Int.reduceLE, Int.reduceAdd, Int.reduceSub, Int.reduceMul, Int.reduceEq, Int.reduceNeg, reduceCtorEq, resV, resAll, ARes.ev, LV.flat, ite_true, ite_false, exists_eq_left', exists_eq_left, keyOf, implies_true, fillC, capOf]
    by_cases e1 : tp = tp'
    · simp (disch := omega) only [e1, true_and, ↓SXd, SXu, slBounds, ↓sop, ↓aop, ↓reduceIte, LV.cells, AOp.dst, LV.I, LV.B, LV.U, LV.S, LV.nil, Nat.reduceEqDiff, Nat.reduceAdd, Nat.reduceMul, Nat.reduceSub, Nat.reduceLeDiff, Nat.reduceBEq, Nat.reduceDiv, Nat.reduceMod, Int.reduceToNat, Int.reduceLT, Int.reduceLE, Int.reduceAdd, Int.reduceSub, Int.reduceMul, Int.reduceEq, Int.reduceNeg, reduceCtorEq, resV, resAll, ARes.ev, LV.flat, ite_true, ite_false, exists_eq_left', exists_eq_left, keyOf, implies_true, fillC, capOf]
      refine callK_of (g_equalI h2.app k2.app l2 m2) ?_
      simp (disch := omega) only [↓SXd, SXu, slBounds, ↓sop, ↓aop, ↓reduceIte, LV.cells, AOp.dst, LV.I, LV.B, LV.U, LV.S, LV.nil, Nat.reduceEqDiff, Nat.reduceAdd, Nat.reduceMul, Nat.reduceSub, Nat.reduceLeDiff, Nat.reduceBEq, Nat.reduceDiv, Nat.reduceMod, Int.reduceToNat, Int.reduceLT, Int.reduceLE, Int.reduceAdd, Int.reduceSub, Int.reduceMul, Int.reduceEq, Int.reduceNeg, reduceCtorEq, resV, resAll, ARes.ev, LV.flat, ite_true, ite_false, exists_eq_left', exists_eq_left, keyOf, implies_true, fillC, capOf]
      by_cases e2 : fr = fr'
      · simp (disch := omega) only [e2, true_and, ↓SXd, SXu, slBounds, ↓sop, ↓aop, ↓reduceIte, LV.cells, AOp.dst, LV.I, LV.B, LV.U, LV.S, LV.nil, Nat.reduceEqDiff, Nat.reduceAdd, Nat.reduceMul, Nat.reduceSub, Nat.reduceLeDiff, Nat.reduceBEq, Nat.reduceDiv, Nat.reduceMod, Int.reduceToNat, Int.reduceLT, Int.reduceLE, Int.reduceAdd, Int.reduceSub, Int.reduceMul, Int.reduceEq, Int.reduceNeg, reduceCtorEq, resV, resAll, ARes.ev, LV.flat, ite_true, ite_false, exists_eq_left', exists_eq_left, keyOf, implies_true, fillC, capOf]
        refine callK_of (g_equalI h3.app k3.app l3 m3) ?_
        simp (disch := omega) only [↓SXd, SXu, slBounds, ↓sop, ↓aop, ↓reduceIte, LV.cells, AOp.dst, LV.I, LV.B, LV.U, LV.S, LV.nil, Nat.reduceEqDiff, Nat.reduceAdd, Nat.reduceMul, Nat.reduceSub, Nat.reduceLeDiff, Nat.reduceBEq, Nat.reduceDiv, Nat.reduceMod, Int.reduceToNat, Int.reduceLT, Int.reduceLE, Int.reduceAdd, Int.reduceSub, Int.reduceMul, Int.reduceEq, Int.reduceNeg, reduceCtorEq, resV, resAll, ARes.ev, LV.flat, ite_true, ite_false, exists_eq_left', exists_eq_left, keyOf, implies_true, fillC, capOf]
        exact cmp_drop rfl
      · simp (disch := omega) only [e2, false_and, ↓SXd, SXu, slBounds, ↓sop, ↓aop, ↓reduceIte, LV.cells, AOp.dst, LV.I, LV.B, LV.U, LV.S, LV.nil, Nat.reduceEqDiff, Nat.reduceAdd, Nat.reduceMul, Nat.reduceSub, Nat.reduceLeDiff, Nat.reduceBEq, Nat.reduceDiv, Nat.reduceMod, Int.reduceToNat, Int.reduceLT, Int.reduceLE, Int.reduceAdd, Int.reduceSub, Int.reduceMul, Int.reduceEq, Int.reduceNeg, reduceCtorEq, resV, resAll, ARes.ev, LV.flat, ite_true, ite_false, exists_eq_left', exists_eq_left, keyOf, implies_true, fillC, capOf]
        exact cmp_drop rfl
    · simp (disch := omega) only [e1, false_and, ↓SXd, SXu, slBounds, ↓sop, ↓aop, ↓reduceIte, LV.cells, AOp.dst, LV.I, LV.B, LV.U, LV.S, LV.nil, Nat.reduceEqDiff, Nat.reduceAdd, Nat.reduceMul, Nat.reduceSub, Nat.reduceLeDiff, Nat.reduceBEq, Nat.reduceDiv, Nat.reduceMod, Int.reduceToNat, Int.reduceLT, Int.reduceLE, Int.reduceAdd, Int.reduceSub, Int.reduceMul, Int.reduceEq, Int.reduceNeg, reduceCtorEq, resV, resAll, ARes.ev, LV.flat, ite_true, ite_false, exists_eq_left', exists_eq_left, keyOf, implies_true, fillC, capOf]
      exact cmp_drop rfl
  · simp (disch := omega) only [hd, false_and, ↓SXd, SXu, slBounds, ↓sop, ↓aop, ↓reduceIte, LV.cells, AOp.dst, LV.I, LV.B, LV.U, LV.S, LV.nil, Nat.reduceEqDiff, Nat.reduceAdd, Nat.reduceMul, Nat.reduceSub, Nat.reduceLeDiff, Nat.reduceBEq, Nat.reduceDiv, Nat.reduceMod, Int.reduceToNat, Int.reduceLT, Int.reduceLE, Int.reduceAdd, Int.reduceSub, Int.reduceMul, Int.reduceEq, Int.reduceNeg, reduceCtorEq, resV, resAll, ARes.ev, LV.flat, ite_true, ite_false, exists_eq_left', exists_eq_left, keyOf, implies_true, fillC, capOf]
    exact cmp_drop rfl
section
variable {x y z : Int} {t o t' o' t2 o2 : Nat} {tp fr sd : List Int} {M : Mem} (h1 : Ints M t o tp) (h2 : Ints M t' o' fr) (h3 : Ints M t2 o2 sd) (l1 : tp.length ≤ 1000000000) (l2 : fr.length ≤ 1000000000) (l3 : sd.length ≤ 1000000000)
include h1 h2 h3 l1 l2 l3
theorem g_isOf {p : Cell → Bool} (hS : Sides x y z) :
    CallsR PG F.impl_Shadow_isOf [.agg [.I x, .I y, .I z, .ref t o tp.length, .ref t' o' fr.length, .ref t2 o2 sd.length], .W (bs x y z p)] M fun v N => v = .B (decide (HasShd x y z tp fr sd (pick x y z p))) ∧ Pre M N := by
  have q2 := lines_le hS (d := 2) (by omega)
  have q1 := lines_le hS (d := 1) (by omega)
  have q0 := lines_le hS (d := 0) (by omega)
  have k2 := shdOf_len (x := x) (y := y) (z := z) (d := 2) (cs := pick x y z p)
  have k1 := shdOf_len (x := x) (y := y) (z := z) (d := 1) (cs := pick x y z p)
  have k0 := shdOf_len (x := x) (y := y) (z := z) (d := 0) (cs := pick x y z p)
  refine callsR_run K.impl_Shadow_isOf rfl ?_
  simp (disch := omega) only [C.impl_Shadow_isOf, ↓SXd, SXu, slBounds, ↓sop, ↓aop, ↓reduceIte, LV.cells, AOp.dst, LV.I, LV.B, LV.U, LV.S, LV.nil, Nat.reduceEqDiff, Nat.reduceAdd, Nat.reduceMul, Nat.reduceSub, Nat.reduceLeDiff, Nat.reduceBEq, Nat.reduceDiv, Nat.reduceMod, Int.reduceToNat, Int.reduceLT, Int.reduceLE, Int.reduceAdd, Int.reduceSub, Int.reduceMul, Int.reduceEq, Int.reduceNeg, reduceCtorEq, resV, resAll, ARes.ev, LV.flat, ite_true, ite_false, exists_eq_left', exists_eq_left, keyOf, implies_true, fillC, capOf]
  refine callK_of (g_Shadow_box) ?_
  simp (disch := omega) only [↓SXd, SXu, slBounds, ↓sop, ↓aop, ↓reduceIte, LV.cells, AOp.dst, LV.I, LV.B, LV.U, LV.S, LV.nil, Nat.reduceEqDiff, Nat.reduceAdd, Nat.reduceMul, Nat.reduceSub, Nat.reduceLeDiff, Nat.reduceBEq, Nat.reduceDiv, Nat.reduceMod, Int.reduceToNat, Int.reduceLT, Int.reduceLE, Int.reduceAdd, Int.reduceSub, Int.reduceMul, Int.reduceEq, Int.reduceNeg, reduceCtorEq, resV, resAll, ARes.ev, LV.flat, ite_true, ite_false, exists_eq_left', exists_eq_left, keyOf, implies_true, fillC, capOf]
  refine callR_of (g_shadow hS) ?_
  rintro _ N ⟨a, b, c, rfl, ha, hb, hc, _, _, _, la, lb, lc, hp⟩
  have hM : Pre M N := (Pre.app _ _).trans hp
  simp (disch := omega) only [(keepL_pr hp), ↓SXd, SXu, slBounds, ↓sop, ↓aop, ↓reduceIte, LV.cells, AOp.dst, LV.I, LV.B, LV.U, LV.S, LV.nil, Nat.reduceEqDiff, Nat.reduceAdd, Nat.reduceMul, Nat.reduceSub, Nat.reduceLeDiff, Nat.reduceBEq, Nat.reduceDiv, Nat.reduceMod, Int.reduceToNat, Int.reduceLT, Int.reduceLE, Int.reduceAdd, Int.reduceSub, Int.reduceMul, Int.reduceEq, Int.reduceNeg, reduceCtorEq, resV, resAll, ARes.ev, LV.flat, ite_true, ite_false, exists_eq_left', exists_eq_left, keyOf, implies_true, fillC, capOf]
  refine callK_of (g_Shadow_same (h1.pre hM) (h2.pre hM) (h3.pre hM) l1 l2 l3 la.has lb.has lc.has (by omega) (by omega) (by omega)) ?_
  simp (disch := omega) only [↓SXd, SXu, slBounds, ↓sop, ↓aop, ↓reduceIte, LV.cells, AOp.dst, LV.I, LV.B, LV.U, LV.S, LV.nil, Nat.reduceEqDiff, Nat.reduceAdd, Nat.reduceMul, Nat.reduceSub, Nat.reduceLeDiff, Nat.reduceBEq, Nat.reduceDiv, Nat.reduceMod, Int.reduceToNat, Int.reduceLT, Int.reduceLE, Int.reduceAdd, Int.reduceSub, Int.reduceMul, Int.reduceEq, Int.reduceNeg, reduceCtorEq, resV, resAll, ARes.ev, LV.flat, ite_true, ite_false, exists_eq_left', exists_eq_left, keyOf, implies_true, fillC, capOf]
  refine ⟨eqB (decide_eq_decide.2 ⟨fun h => ⟨h.1.symm, h.2.1.symm, h.2.2.symm⟩, fun h => ⟨h.1.symm, h.2.1.symm, h.2.2.symm⟩⟩), hM⟩
theorem g_fits (hok : ShdOK x y z tp fr sd) :
    CallsR PG F.impl_Shadow_fits [.agg [.I x, .I y, .I z, .ref t o tp.length, .ref t' o' fr.length, .ref t2 o2 sd.length]] M fun v N => v = .B (decide (HasShd x y z tp fr sd (pick x y z (allowedB y z tp fr sd)))) ∧ Pre M N := by
  refine callsR_run K.impl_Shadow_fits rfl ?_
  simp (disch := omega) only [C.impl_Shadow_fits, ↓SXd, SXu, slBounds, ↓sop, ↓aop, ↓reduceIte, LV.cells, AOp.dst, LV.I, LV.B, LV.U, LV.S, LV.nil, Nat.reduceEqDiff, Nat.reduceAdd, Nat.reduceMul, Nat.reduceSub, Nat.reduceLeDiff, Nat.reduceBEq, Nat.reduceDiv, Nat.reduceMod, Int.reduceToNat, Int.reduceLT, Int.reduceLE, Int.reduceAdd, Int.reduceSub, Int.reduceMul, Int.reduceEq, Int.reduceNeg, reduceCtorEq, resV, resAll, ARes.ev, LV.flat, ite_true, ite_false, exists_eq_left', exists_eq_left, keyOf, implies_true, fillC, capOf]
  refine callK_of (g_allowed h1.app h2.app h3.app hok) ?_
  simp (disch := omega) only [↓SXd, SXu, slBounds, ↓sop, ↓aop, ↓reduceIte, LV.cells, AOp.dst, LV.I, LV.B, LV.U, LV.S, LV.nil, Nat.reduceEqDiff, Nat.reduceAdd, Nat.reduceMul, Nat.reduceSub, Nat.reduceLeDiff, Nat.reduceBEq, Nat.reduceDiv, Nat.reduceMod, Int.reduceToNat, Int.reduceLT, Int.reduceLE, Int.reduceAdd, Int.reduceSub, Int.reduceMul, Int.reduceEq, Int.reduceNeg, reduceCtorEq, resV, resAll, ARes.ev, LV.flat, ite_true, ite_false, exists_eq_left', exists_eq_left, keyOf, implies_true, fillC, capOf]
  refine callR_of (g_isOf h1.app h2.app h3.app l1 l2 l3 hok.1) ?_
  rintro _ N ⟨rfl, hp⟩
  simp (disch := omega) only [↓SXd, SXu, slBounds, ↓sop, ↓aop, ↓reduceIte, LV.cells, AOp.dst, LV.I, LV.B, LV.U, LV.S, LV.nil, Nat.reduceEqDiff, Nat.reduceAdd, Nat.reduceMul, Nat.reduceSub, Nat.reduceLeDiff, Nat.reduceBEq, Nat.reduceDiv, Nat.reduceMod, Int.reduceToNat, Int.reduceLT, Int.reduceLE, Int.reduceAdd, Int.reduceSub, Int.reduceMul, Int.reduceEq, Int.reduceNeg, reduceCtorEq, resV, resAll, ARes.ev, LV.flat, ite_true, ite_false, exists_eq_left', exists_eq_left, keyOf, implies_true, fillC, capOf]
  exact ⟨rfl, (Pre.app _ _).trans hp⟩
/-- A valid shadow whose lists fit together. -/
theorem g_isFitting :
    CallsR PG F.impl_isFitting [.agg [.I x, .I y, .I z, .ref t o tp.length, .ref t' o' fr.length, .ref t2 o2 sd.length]] M fun v N => v = .B (decide (ShdOK x y z tp fr sd ∧ HasShd x y z tp fr sd (pick x y z (allowedB y z tp fr sd)))) ∧ Pre M N := by
  refine callsR_run K.impl_isFitting rfl ?_
  simp (disch := omega) only [C.impl_isFitting, ↓SXd, SXu, slBounds, ↓sop, ↓aop, ↓reduceIte, LV.cells, AOp.dst, LV.I, LV.B, LV.U, LV.S, LV.nil, Nat.reduceEqDiff, Nat.reduceAdd, Nat.reduceMul, Nat.reduceSub, Nat.reduceLeDiff, Nat.reduceBEq, Nat.reduceDiv, Nat.reduceMod, Int.reduceToNat, Int.reduceLT, Int.reduceLE, Int.reduceAdd, Int.reduceSub, Int.reduceMul, Int.reduceEq, Int.reduceNeg, reduceCtorEq, resV, resAll, ARes.ev, LV.flat, ite_true, ite_false, exists_eq_left', exists_eq_left, keyOf, implies_true, fillC, capOf]
  refine callK_of (g_IsShadow h1.app h2.app h3.app l1 l2 l3) ?_
  simp (disch := omega) only [↓SXd, SXu, slBounds, ↓sop, ↓aop, ↓reduceIte, LV.cells, AOp.dst, LV.I, LV.B, LV.U, LV.S, LV.nil, Nat.reduceEqDiff, Nat.reduceAdd, Nat.reduceMul, Nat.reduceSub, Nat.reduceLeDiff, Nat.reduceBEq, Nat.reduceDiv, Nat.reduceMod, Int.reduceToNat, Int.reduceLT, Int.reduceLE, Int.reduceAdd, Int.reduceSub, Int.reduceMul, Int.reduceEq, Int.reduceNeg, reduceCtorEq, resV, resAll, ARes.ev, LV.flat, ite_true, ite_false, exists_eq_left', exists_eq_left, keyOf, implies_true, fillC, capOf]
  by_cases hok : ShdOK x y z tp fr sd
  · simp (disch := omega) only [hok, ↓SXd, SXu, slBounds, ↓sop, ↓aop, ↓reduceIte, LV.cells, AOp.dst, LV.I, LV.B, LV.U, LV.S, LV.nil, Nat.reduceEqDiff, Nat.reduceAdd, Nat.reduceMul, Nat.reduceSub, Nat.reduceLeDiff, Nat.reduceBEq, Nat.reduceDiv, Nat.reduceMod, Int.reduceToNat, Int.reduceLT, Int.reduceLE, Int.reduceAdd, Int.reduceSub, Int.reduceMul, Int.reduceEq, Int.reduceNeg, reduceCtorEq, resV, resAll, ARes.ev, LV.flat, ite_true, ite_false, exists_eq_left', exists_eq_left, keyOf, implies_true, fillC, capOf]
    refine callR_of (g_fits h1.app h2.app h3.app l1 l2 l3 hok) ?_
    rintro _ N ⟨rfl, hp⟩
    simp (disch := omega) only [↓SXd, SXu, slBounds, ↓sop, ↓aop, ↓reduceIte, LV.cells, AOp.dst, LV.I, LV.B, LV.U, LV.S, LV.nil, Nat.reduceEqDiff, Nat.reduceAdd, Nat.reduceMul, Nat.reduceSub, Nat.reduceLeDiff, Nat.reduceBEq, Nat.reduceDiv, Nat.reduceMod, Int.reduceToNat, Int.reduceLT, Int.reduceLE, Int.reduceAdd, Int.reduceSub, Int.reduceMul, Int.reduceEq, Int.reduceNeg, reduceCtorEq, resV, resAll, ARes.ev, LV.flat, ite_true, ite_false, exists_eq_left', exists_eq_left, keyOf, implies_true, fillC, capOf]
    exact ⟨rfl, (Pre.app _ _).trans hp⟩
  · simp (disch := omega) only [hok, false_and, ↓SXd, SXu, slBounds, ↓sop, ↓aop, ↓reduceIte, LV.cells, AOp.dst, LV.I, LV.B, LV.U, LV.S, LV.nil, Nat.reduceEqDiff, Nat.reduceAdd, Nat.reduceMul, Nat.reduceSub, Nat.reduceLeDiff, Nat.reduceBEq, Nat.reduceDiv, Nat.reduceMod, Int.reduceToNat, Int.reduceLT, Int.reduceLE, Int.reduceAdd, Int.reduceSub, Int.reduceMul, Int.reduceEq, Int.reduceNeg, reduceCtorEq, resV, resAll, ARes.ev, LV.flat, ite_true, ite_false, exists_eq_left', exists_eq_left, keyOf, implies_true, fillC, capOf]
    exact ⟨rfl, Pre.app _ _⟩

/-- What IsShadowOf returns. -/
noncomputable def isShdOf (x y z : Int) (tp fr sd : List Int) (x' y' z' : Int) (cs : List Cell) : LV := .tup [.B (decide ((ShdOK x y z tp fr sd ∧ HeapOK x' y' z' cs) ∧ (x = x' ∧ y = y' ∧ z = z') ∧ HasShd x y z tp fr sd cs)), .B (decide (ShdOK x y z tp fr sd ∧ HeapOK x' y' z' cs))]
variable {x' y' z' : Int} {q r : Nat} {cs : List Cell} (h : Tri M q r cs) (hn : cs.length ≤ 1000000000)
include h hn
end
end Go.Ab

/- The abstract code of some functions (written by a program of mine from the translation, by way of prepF). -/
namespace Go.Ab.C
open Go.Ab
def math_bits_OnesCount64 : AFn :=
  ⟨1, 35, [.tmp 2],
    .seq (.ops [(none, .mv 2 (.c (.I 0)))])
    (.seq (.ops [(none, .mv 3 (.t 0)),
        (none, .bin 4 .shr (.t 3) (.c (.U 1))),
        (none, .bin 5 .and (.t 4) (.c (.U 6148914691236517205))),
        (none, .mv 6 (.t 0)),
        (none, .bin 7 .and (.t 6) (.c (.U 6148914691236517205))),
        (none, .bin 8 .add (.t 5) (.t 7)),
        (none, .mv 0 (.t 8))])
     (.seq (.ops [(none, .mv 9 (.t 0)),
         (none, .bin 10 .shr (.t 9) (.c (.U 2))),
         (none, .bin 11 .and (.t 10) (.c (.U 3689348814741910323))),
         (none, .mv 12 (.t 0)),
         (none, .bin 13 .and (.t 12) (.c (.U 3689348814741910323))),
         (none, .bin 14 .add (.t 11) (.t 13)),
         (none, .mv 0 (.t 14))])
      (.seq (.ops [(none, .mv 15 (.t 0)),
          (none, .bin 16 .shr (.t 15) (.c (.U 4))),
          (none, .mv 17 (.t 0)),
          (none, .bin 18 .add (.t 16) (.t 17)),
          (none, .bin 19 .and (.t 18) (.c (.U 1085102592571150095))),
          (none, .mv 0 (.t 19))])
       (.seq (.ops [(none, .mv 20 (.t 0)),
           (none, .mv 21 (.t 0)),
           (none, .bin 22 .shr (.t 21) (.c (.U 8))),
           (none, .bin 23 .add (.t 20) (.t 22)),
           (none, .mv 0 (.t 23))])
        (.seq (.ops [(none, .mv 24 (.t 0)),
            (none, .mv 25 (.t 0)),
            (none, .bin 26 .shr (.t 25) (.c (.U 16))),
            (none, .bin 27 .add (.t 24) (.t 26)),
            (none, .mv 0 (.t 27))])
         (.seq (.ops [(none, .mv 28 (.t 0)),
             (none, .mv 29 (.t 0)),
             (none, .bin 30 .shr (.t 29) (.c (.U 32))),
             (none, .bin 31 .add (.t 28) (.t 30)),
             (none, .mv 0 (.t 31))])
          (.seq (.ops [(none, .mv 32 (.t 0)),
              (none, .conv 33 .i64 (.t 32)),
              (none, .bin 34 .and (.t 33) (.c (.I 127))),
              (none, .mv 2 (.t 34))])
           (.ret))))))))⟩
def impl_set_count : AFn :=
  ⟨1, 5, [.tmp 2],
    .seq (.ops [(none, .mv 2 (.c (.I 0)))])
    (.seq (.ops [(none, .mv 3 (.t 0)),
        (none, .call (some 4) F.math_bits_OnesCount64 [(.t 3)]),
        (none, .mv 2 (.t 4))])
     (.ret))⟩
end Go.Ab.C

/- That the program has this code. -/
namespace Go.Ab.K
open Go Go.Ab
theorem math_bits_OnesCount64 : prepF Go.Proofs.Try.prog F.math_bits_OnesCount64 = some C.math_bits_OnesCount64 := by kernel_rfl
theorem impl_set_count : prepF Go.Proofs.Try.prog F.impl_set_count = some C.impl_set_count := by kernel_rfl
end Go.Ab.K

/- Plain words: how many cells a set has, as the library counts. -/
namespace Go.Ab

def swar1 (x : BitVec 64) : BitVec 64 := (x >>> 1 &&& 6148914691236517205#64) + (x &&& 6148914691236517205#64)
def swar2 (x : BitVec 64) : BitVec 64 := (x >>> 2 &&& 3689348814741910323#64) + (x &&& 3689348814741910323#64)
def swar3 (x : BitVec 64) : BitVec 64 := (x >>> 4 + x) &&& 1085102592571150095#64
def swar4 (x : BitVec 64) : BitVec 64 := x + x >>> 8
def swar5 (x : BitVec 64) : BitVec 64 := x + x >>> 16
def swar6 (x : BitVec 64) : BitVec 64 := x + x >>> 32
def swar (x : BitVec 64) : BitVec 64 := swar6 (swar5 (swar4 (swar3 (swar2 (swar1 x))))) &&& 127#64

def onRim (x y z : Int) (c : Cell) : Bool := decide (c.a = 0 ∨ c.b = 0 ∨ c.c = 0 ∨ c.a = x - 1 ∨ c.b = y - 1 ∨ c.c = z - 1)
end Go.Ab

/- The abstract code of some functions (written by a program of mine from the translation, by way of prepF). -/
namespace Go.Ab.C
open Go.Ab
end Go.Ab.C

/- That the program has this code. -/
namespace Go.Ab.K
open Go Go.Ab
end Go.Ab.K

/- Contracts: neighbours; what grows. -/
namespace Go.Ab
open Go
set_option linter.unusedSimpArgs false
set_option linter.unusedVariables false

/-- The first k neighbours of a cell. -/
def nbrK (c : Cell) (k : Nat) (e : Cell) : Bool := decide (e ∈ (nbrs c).take k)
section
variable {x y z : Int} (hS : Sides x y z)
include hS
end
end Go.Ab

/- Contracts: counts of sets. -/
namespace Go.Ab
open Go
set_option linter.unusedSimpArgs false
set_option linter.unusedVariables false

theorem w_add {s u : BitVec 64} : binV .add (.val (.int .u64 ((s.toNat : Nat) : Int))) (.val (.int .u64 ((u.toNat : Nat) : Int))) = some (.val (.int .u64 (((s + u).toNat : Nat) : Int)), True) := by
  rw [bv_add, IntKind.wrap_u64, BitVec.toNat_add]
  congr 4
theorem w_andc {s : BitVec 64} {c : Nat} (hc : c < 18446744073709551616) : binV .and (.val (.int .u64 ((s.toNat : Nat) : Int))) (.val (.int .u64 (c : Int))) = some (.val (.int .u64 (((s &&& BitVec.ofNat 64 c).toNat : Nat) : Int)), True) := by
  have h := w_and (s := s) (u := BitVec.ofNat 64 c)
  rw [BitVec.toNat_ofNat, Nat.mod_eq_of_lt hc] at h; exact h
theorem w_m1 {s : BitVec 64} : binV .and (.val (.int .u64 ((s.toNat : Nat) : Int))) (.val (.int .u64 6148914691236517205)) = some (.val (.int .u64 (((s &&& 6148914691236517205#64).toNat : Nat) : Int)), True) := w_andc (c := 6148914691236517205) (by decide)
theorem w_m2 {s : BitVec 64} : binV .and (.val (.int .u64 ((s.toNat : Nat) : Int))) (.val (.int .u64 3689348814741910323)) = some (.val (.int .u64 (((s &&& 3689348814741910323#64).toNat : Nat) : Int)), True) := w_andc (c := 3689348814741910323) (by decide)
theorem w_m3 {s : BitVec 64} : binV .and (.val (.int .u64 ((s.toNat : Nat) : Int))) (.val (.int .u64 1085102592571150095)) = some (.val (.int .u64 (((s &&& 1085102592571150095#64).toNat : Nat) : Int)), True) := w_andc (c := 1085102592571150095) (by decide)

theorem conv_and {x : BitVec 64} : IntKind.i64.wrap (((BitVec.ofInt 64 (IntKind.i64.wrap ((x.toNat : Nat) : Int)) &&& BitVec.ofInt 64 127).toNat : Nat) : Int) = (((x &&& 127#64).toNat : Nat) : Int) := by
  have h1 : BitVec.ofInt 64 (IntKind.i64.wrap ((x.toNat : Nat) : Int)) = x := by
    apply BitVec.eq_of_toNat_eq
    have := x.isLt
    rw [BitVec.toNat_ofInt, IntKind.wrap_i64]
    omega
  have h2 : BitVec.ofInt 64 127 = 127#64 := rfl
  rw [h1, h2, IntKind.wrap_i64]
  have h3 : (x &&& 127#64).toNat ≤ 127 := by
    rw [BitVec.toNat_and]; exact Nat.and_le_right
  omega
theorem g_OnesCount64 {s : BitVec 64} {M : Mem} : CallsTo PG F.math_bits_OnesCount64 [.W s] M (.I (((swar s).toNat : Nat) : Int)) M := by
  refine calls_run K.math_bits_OnesCount64 rfl ?_
  simp (disch := omega) only [C.math_bits_OnesCount64, w_shr, w_m1, w_m2, w_m3, w_add, ↓SXd, SXu, slBounds, ↓sop, ↓aop, ↓reduceIte, LV.cells, AOp.dst, LV.I, LV.B, LV.U, LV.S, LV.nil, Nat.reduceEqDiff, Nat.reduceAdd, Nat.reduceMul, Nat.reduceSub, Nat.reduceLeDiff, Nat.reduceBEq, Nat.reduceDiv, Nat.reduceMod, Int.reduceToNat, Int.reduceLT, Int.reduceLE, Int.reduceAdd, Int.reduceSub, Int.reduceMul, Int.reduceEq, Int.reduceNeg, reduceCtorEq, resV, resAll, ARes.ev, LV.flat, ite_true, ite_false, exists_eq_left', exists_eq_left, keyOf, implies_true, fillC, capOf]
  rw [conv_and]
  exact cmp_pre (Pre.refl _) rfl
theorem g_count {s : BitVec 64} {M : Mem} : CallsTo PG F.impl_set_count [.W s] M (.I (((swar s).toNat : Nat) : Int)) M := by
  refine calls_run K.impl_set_count rfl ?_
  simp (disch := omega) only [C.impl_set_count, ↓SXd, SXu, slBounds, ↓sop, ↓aop, ↓reduceIte, LV.cells, AOp.dst, LV.I, LV.B, LV.U, LV.S, LV.nil, Nat.reduceEqDiff, Nat.reduceAdd, Nat.reduceMul, Nat.reduceSub, Nat.reduceLeDiff, Nat.reduceBEq, Nat.reduceDiv, Nat.reduceMod, Int.reduceToNat, Int.reduceLT, Int.reduceLE, Int.reduceAdd, Int.reduceSub, Int.reduceMul, Int.reduceEq, Int.reduceNeg, reduceCtorEq, resV, resAll, ARes.ev, LV.flat, ite_true, ite_false, exists_eq_left', exists_eq_left, keyOf, implies_true, fillC, capOf]
  refine callK_of (g_OnesCount64) ?_
  simp (disch := omega) only [↓SXd, SXu, slBounds, ↓sop, ↓aop, ↓reduceIte, LV.cells, AOp.dst, LV.I, LV.B, LV.U, LV.S, LV.nil, Nat.reduceEqDiff, Nat.reduceAdd, Nat.reduceMul, Nat.reduceSub, Nat.reduceLeDiff, Nat.reduceBEq, Nat.reduceDiv, Nat.reduceMod, Int.reduceToNat, Int.reduceLT, Int.reduceLE, Int.reduceAdd, Int.reduceSub, Int.reduceMul, Int.reduceEq, Int.reduceNeg, reduceCtorEq, resV, resAll, ARes.ev, LV.flat, ite_true, ite_false, exists_eq_left', exists_eq_left, keyOf, implies_true, fillC, capOf]
  exact cmp_pre (Pre.refl _) rfl

end Go.Ab

/- Plain words: the library's count of a 64-bit set is the number of its bits. -/
namespace Go.Ab

def rep : Nat → Nat → Nat
  | 0, _ => 0
  | k + 1, c => c + 256 * rep k c
def ofB : List Nat → Nat
  | [] => 0
  | l :: ls => l + 256 * ofB ls
theorem and_split {a b l c : Nat} (hl : l < 256) (hc : c < 256) : (l + 256 * a) &&& (c + 256 * b) = (l &&& c) + 256 * (a &&& b) := by
  have h1 : ((l + 256 * a) &&& (c + 256 * b)) % 2 ^ 8 = l &&& c := by
    rw [Nat.and_mod_two_pow]
    congr 1 <;> omega
  have h2 : ((l + 256 * a) &&& (c + 256 * b)) / 2 ^ 8 = a &&& b := by
    rw [Nat.and_div_two_pow]
    congr 1 <;> omega
  have := Nat.mod_add_div ((l + 256 * a) &&& (c + 256 * b)) (2 ^ 8)
  rw [h1, h2] at this
  rw [← this]
def a8 (l : Nat) : Nat := (l / 2 &&& 85) + (l &&& 85)
def b8 (l : Nat) : Nat := (l / 4 &&& 51) + (l &&& 51)
def c8 (l : Nat) : Nat := (l / 16 + l) % 16
theorem low_a : ∀ b, b < 2 → ∀ m, m < 128 → (128 * b + m) &&& 85 = m &&& 85 := by decide +kernel
theorem low_b : ∀ b, b < 4 → ∀ m, m < 64 → (64 * b + m) &&& 51 = m &&& 51 := by decide +kernel
theorem all_a : ∀ {ls : List Nat}, (∀ l ∈ ls, l < 256) → (ofB ls / 2 &&& rep ls.length 85) + (ofB ls &&& rep ls.length 85) = ofB (ls.map a8)
  | [], _ => rfl
  | l :: ls, h => by
    have hl := h l (by simp)
    have ih := all_a (ls := ls) fun m hm => h m (by simp [hm])
    simp only [ofB, List.length_cons, rep, List.map_cons]
    rw [and_split hl (by omega), show (l + 256 * ofB ls) / 2 = (128 * (ofB ls % 2) + l / 2) + 256 * (ofB ls / 2) by omega, and_split (by omega) (by omega), low_a _ (by omega) _ (by omega), ← ih]
    unfold a8; omega
theorem all_b : ∀ {ls : List Nat}, (∀ l ∈ ls, l < 256) → (ofB ls / 4 &&& rep ls.length 51) + (ofB ls &&& rep ls.length 51) = ofB (ls.map b8)
  | [], _ => rfl
  | l :: ls, h => by
    have hl := h l (by simp)
    have ih := all_b (ls := ls) fun m hm => h m (by simp [hm])
    simp only [ofB, List.length_cons, rep, List.map_cons]
    rw [and_split hl (by omega), show (l + 256 * ofB ls) / 4 = (64 * (ofB ls % 4) + l / 4) + 256 * (ofB ls / 4) by omega, and_split (by omega) (by omega), low_b _ (by omega) _ (by omega), ← ih]
    unfold b8; omega
theorem and15 (n : Nat) : n &&& 15 = n % 16 := Nat.and_two_pow_sub_one_eq_mod n 4
theorem all_c : ∀ {ls : List Nat}, (∀ l ∈ ls, l < 256 ∧ l % 16 ≤ 4 ∧ l / 16 ≤ 4) → (ofB ls / 16 + ofB ls &&& rep ls.length 15) = ofB (ls.map c8)
  | [], _ => rfl
  | l :: ls, h => by
    have hl := h l (by simp)
    have ih := all_c (ls := ls) fun m hm => h m (by simp [hm])
    have ht : ofB ls % 16 ≤ 4 := by
      cases ls with
      | nil => simp [ofB]
      | cons m ms => have := h m (by simp); simp only [ofB]; omega
    simp only [ofB, List.length_cons, rep, List.map_cons]
    rw [show (l + 256 * ofB ls) / 16 + (l + 256 * ofB ls) = (16 * (ofB ls % 16) + l / 16 + l) + 256 * (ofB ls / 16 + ofB ls) by omega, and_split (by omega) (by omega), ih, and15]
    unfold c8; omega
def pc8 (l : Nat) : Nat := (List.range 8).countP fun j => l.testBit j
theorem byte_ok : ∀ l, l < 256 → a8 l < 256 ∧ b8 (a8 l) < 256 ∧ b8 (a8 l) % 16 ≤ 4 ∧ b8 (a8 l) / 16 ≤ 4 ∧ c8 (b8 (a8 l)) = pc8 l ∧ pc8 l ≤ 8 := by decide +kernel

theorem m85 : (6148914691236517205#64).toNat = rep 8 85 := by decide +kernel
theorem m51 : (3689348814741910323#64).toNat = rep 8 51 := by decide +kernel
theorem m15 : (1085102592571150095#64).toNat = rep 8 15 := by decide +kernel
theorem ofB_lt : ∀ {ls : List Nat}, (∀ l ∈ ls, l < 256) → ofB ls < 256 ^ ls.length
  | [], _ => by simp [ofB]
  | l :: ls, h => by
    have h1 := h l (by simp)
    have ih := ofB_lt (ls := ls) fun m hm => h m (by simp [hm])
    simp only [ofB, List.length_cons, Nat.pow_succ]; omega
theorem ofB_le {k : Nat} : ∀ {ls : List Nat}, (∀ l ∈ ls, l ≤ k) → 255 * ofB ls + k ≤ k * 256 ^ ls.length
  | [], _ => by simp [ofB]
  | l :: ls, h => by
    have h1 := h l (by simp)
    have ih := ofB_le (ls := ls) fun m hm => h m (by simp [hm])
    rw [List.length_cons, Nat.pow_succ, ← Nat.mul_assoc]
    simp only [ofB]; omega
theorem p256 : (256 : Nat) ^ 8 = 18446744073709551616 := by decide +kernel
theorem ofB_lt8 {ls : List Nat} (hl : ls.length = 8) (h : ∀ l ∈ ls, l < 256) : ofB ls < 18446744073709551616 := by
  have := ofB_lt h
  rw [hl, p256] at this; exact this
theorem ofB_le8 {ls : List Nat} (hl : ls.length = 8) (h : ∀ l ∈ ls, l ≤ 68) : ofB ls < 9223372036854775808 := by
  have := ofB_le h
  rw [hl, p256] at this; omega
theorem ofB8_lt {a b c d e f g h : Nat} (h0 : a < 256) (h1 : b < 256) (h2 : c < 256) (h3 : d < 256) (h4 : e < 256) (h5 : f < 256) (h6 : g < 256) (h7 : h < 256) : ofB [a, b, c, d, e, f, g, h] < 18446744073709551616 :=
  ofB_lt8 rfl (by simp [h0, h1, h2, h3, h4, h5, h6, h7])
theorem ofB8_68 {a b c d e f g h : Nat} (h0 : a ≤ 68) (h1 : b ≤ 68) (h2 : c ≤ 68) (h3 : d ≤ 68) (h4 : e ≤ 68) (h5 : f ≤ 68) (h6 : g ≤ 68) (h7 : h ≤ 68) : ofB [a, b, c, d, e, f, g, h] < 9223372036854775808 :=
  ofB_le8 rfl (by simp [h0, h1, h2, h3, h4, h5, h6, h7])
theorem ofB_div {a : Nat} {ls : List Nat} (h : a < 256) : ofB (a :: ls) / 256 = ofB ls := by simp only [ofB]; omega
theorem p64 : (2 : Nat) ^ 64 = 18446744073709551616 := by decide +kernel
theorem swar1_b {ls : List Nat} (hl : ls.length = 8) (hb : ∀ l ∈ ls, l < 256) (hlt : ofB (ls.map a8) < 18446744073709551616) {x : BitVec 64} (hx : x.toNat = ofB ls) : (swar1 x).toNat = ofB (ls.map a8) := by
  have := all_a hb
  rw [hl] at this
  unfold swar1
  rw [BitVec.toNat_add, BitVec.toNat_and, BitVec.toNat_and, BitVec.toNat_ushiftRight, hx, Nat.shiftRight_eq_div_pow, m85, Nat.pow_one, this, p64, Nat.mod_eq_of_lt hlt]
theorem swar2_b {ls : List Nat} (hl : ls.length = 8) (hb : ∀ l ∈ ls, l < 256) (hlt : ofB (ls.map b8) < 18446744073709551616) {x : BitVec 64} (hx : x.toNat = ofB ls) : (swar2 x).toNat = ofB (ls.map b8) := by
  have := all_b hb
  rw [hl] at this
  unfold swar2
  rw [BitVec.toNat_add, BitVec.toNat_and, BitVec.toNat_and, BitVec.toNat_ushiftRight, hx, Nat.shiftRight_eq_div_pow, m51, show (2 : Nat) ^ 2 = 4 from rfl, this, p64, Nat.mod_eq_of_lt hlt]
theorem swar3_b {ls : List Nat} (hl : ls.length = 8) (hb : ∀ l ∈ ls, l < 256 ∧ l % 16 ≤ 4 ∧ l / 16 ≤ 4) (hlt : ofB ls < 9223372036854775808) {x : BitVec 64} (hx : x.toNat = ofB ls) : (swar3 x).toNat = ofB (ls.map c8) := by
  have := all_c hb
  rw [hl] at this
  unfold swar3
  rw [BitVec.toNat_and, BitVec.toNat_add, BitVec.toNat_ushiftRight, hx, Nat.shiftRight_eq_div_pow, m15, show (2 : Nat) ^ 4 = 16 from rfl, p64, Nat.mod_eq_of_lt (by omega), this]
theorem swar_tail {a b c d e f g h : Nat} (h0 : a ≤ 8) (h1 : b ≤ 8) (h2 : c ≤ 8) (h3 : d ≤ 8) (h4 : e ≤ 8) (h5 : f ≤ 8) (h6 : g ≤ 8) (h7 : h ≤ 8) {y : BitVec 64} (hy : y.toNat = ofB [a, b, c, d, e, f, g, h]) :
    (swar6 (swar5 (swar4 y)) &&& 127#64).toNat = a + b + c + d + e + f + g + h := by
  have e4 : (swar4 y).toNat = ofB [a + b, b + c, c + d, d + e, e + f, f + g, g + h, h] := by
    have hs : ofB [a, b, c, d, e, f, g, h] + ofB [b, c, d, e, f, g, h] = ofB [a + b, b + c, c + d, d + e, e + f, f + g, g + h, h] := by simp only [ofB]; omega
    have hlt := ofB8_lt (a := a + b) (b := b + c) (c := c + d) (d := d + e) (e := e + f) (f := f + g) (g := g + h) (h := h) (by omega) (by omega) (by omega) (by omega) (by omega) (by omega) (by omega) (by omega)
    unfold swar4
    rw [BitVec.toNat_add, BitVec.toNat_ushiftRight, Nat.shiftRight_eq_div_pow, hy, show (2 : Nat) ^ 8 = 256 from rfl, ofB_div (by omega), hs, p64, Nat.mod_eq_of_lt hlt]
  have e5 : (swar5 (swar4 y)).toNat = ofB [a + b + (c + d), b + c + (d + e), c + d + (e + f), d + e + (f + g), e + f + (g + h), f + g + h, g + h, h] := by
    have hs : ofB [a + b, b + c, c + d, d + e, e + f, f + g, g + h, h] + ofB [c + d, d + e, e + f, f + g, g + h, h] = ofB [a + b + (c + d), b + c + (d + e), c + d + (e + f), d + e + (f + g), e + f + (g + h), f + g + h, g + h, h] := by simp only [ofB]; omega
    have hlt := ofB8_lt (a := a + b + (c + d)) (b := b + c + (d + e)) (c := c + d + (e + f)) (d := d + e + (f + g)) (e := e + f + (g + h)) (f := f + g + h) (g := g + h) (h := h) (by omega) (by omega) (by omega) (by omega) (by omega) (by omega) (by omega) (by omega)
    unfold swar5
    rw [BitVec.toNat_add, BitVec.toNat_ushiftRight, Nat.shiftRight_eq_div_pow, e4, show (2 : Nat) ^ 16 = 256 * 256 from rfl, ← Nat.div_div_eq_div_mul, ofB_div (by omega), ofB_div (by omega), hs, p64, Nat.mod_eq_of_lt hlt]
  have e6 : (swar6 (swar5 (swar4 y))).toNat % 256 = a + b + c + d + e + f + g + h := by
    unfold swar6
    rw [BitVec.toNat_add, BitVec.toNat_ushiftRight, Nat.shiftRight_eq_div_pow, e5, show (2 : Nat) ^ 32 = 256 * 256 * 256 * 256 from rfl, ← Nat.div_div_eq_div_mul, ← Nat.div_div_eq_div_mul, ← Nat.div_div_eq_div_mul, ofB_div (by omega), ofB_div (by omega), ofB_div (by omega), ofB_div (by omega), p64]
    simp only [ofB]; omega
  rw [BitVec.toNat_and, show (127#64).toNat = 2 ^ 7 - 1 from rfl, Nat.and_two_pow_sub_one_eq_mod]
  omega
set_option maxHeartbeats 2000000 in
theorem swar_bytes {l0 l1 l2 l3 l4 l5 l6 l7 : Nat} (h0 : l0 < 256) (h1 : l1 < 256) (h2 : l2 < 256) (h3 : l3 < 256) (h4 : l4 < 256) (h5 : l5 < 256) (h6 : l6 < 256) (h7 : l7 < 256) {x : BitVec 64} (hx : x.toNat = ofB [l0, l1, l2, l3, l4, l5, l6, l7]) :
    (swar x).toNat = pc8 l0 + pc8 l1 + pc8 l2 + pc8 l3 + pc8 l4 + pc8 l5 + pc8 l6 + pc8 l7 := by
  obtain ⟨f0, g0, q0, r0, e30, u0⟩ := byte_ok l0 h0
  obtain ⟨f1, g1, q1, r1, e31, u1⟩ := byte_ok l1 h1
  obtain ⟨f2, g2, q2, r2, e32, u2⟩ := byte_ok l2 h2
  obtain ⟨f3, g3, q3, r3, e33, u3⟩ := byte_ok l3 h3
  obtain ⟨f4, g4, q4, r4, e34, u4⟩ := byte_ok l4 h4
  obtain ⟨f5, g5, q5, r5, e35, u5⟩ := byte_ok l5 h5
  obtain ⟨f6, g6, q6, r6, e36, u6⟩ := byte_ok l6 h6
  obtain ⟨f7, g7, q7, r7, e37, u7⟩ := byte_ok l7 h7
  have e1 := swar1_b (ls := [l0, l1, l2, l3, l4, l5, l6, l7]) rfl (by simp [h0, h1, h2, h3, h4, h5, h6, h7]) (ofB8_lt f0 f1 f2 f3 f4 f5 f6 f7) hx
  simp only [List.map_cons, List.map_nil] at e1
  have e2 := swar2_b (ls := [a8 l0, a8 l1, a8 l2, a8 l3, a8 l4, a8 l5, a8 l6, a8 l7]) rfl (by simp [f0, f1, f2, f3, f4, f5, f6, f7]) (ofB8_lt g0 g1 g2 g3 g4 g5 g6 g7) e1
  simp only [List.map_cons, List.map_nil] at e2
  have e3 := swar3_b (ls := [b8 (a8 l0), b8 (a8 l1), b8 (a8 l2), b8 (a8 l3), b8 (a8 l4), b8 (a8 l5), b8 (a8 l6), b8 (a8 l7)]) rfl (by simp [g0, g1, g2, g3, g4, g5, g6, g7, q0, q1, q2, q3, q4, q5, q6, q7, r0, r1, r2, r3, r4, r5, r6, r7]) (ofB8_68 (by omega) (by omega) (by omega) (by omega) (by omega) (by omega) (by omega) (by omega)) e2
  simp only [List.map_cons, List.map_nil, e30, e31, e32, e33, e34, e35, e36, e37] at e3
  exact swar_tail u0 u1 u2 u3 u4 u5 u6 u7 e3
theorem byte_bit (x : BitVec 64) (k j : Nat) (hj : j < 8) : (x.toNat / 256 ^ k % 256).testBit j = x.getLsbD (8 * k + j) := by
  rw [show (256 : Nat) = 2 ^ 8 from rfl, Nat.testBit_mod_two_pow, decide_eq_true hj, Bool.true_and, ← Nat.pow_mul, Nat.testBit_div_two_pow, Nat.add_comm]
  rfl
theorem pc8_byte (x : BitVec 64) (k : Nat) : pc8 (x.toNat / 256 ^ k % 256) = (List.range 8).countP fun j => x.getLsbD (8 * k + j) := by
  unfold pc8
  apply List.countP_congr
  intro j hj
  rw [byte_bit x k j (List.mem_range.1 hj)]
theorem range64 : List.range 64 = (List.range 8).flatMap fun k => (List.range 8).map fun j => 8 * k + j := by decide +kernel
/-- The library's count is the number of bits. -/
theorem swar_eq (x : BitVec 64) : (swar x).toNat = (List.range 64).countP x.getLsbD := by
  have hx := x.isLt
  have hb : ∀ n, n % 256 < 256 := fun n => Nat.mod_lt _ (by omega)
  rw [swar_bytes (x := x) (l0 := x.toNat / 256 ^ 0 % 256) (l1 := x.toNat / 256 ^ 1 % 256) (l2 := x.toNat / 256 ^ 2 % 256) (l3 := x.toNat / 256 ^ 3 % 256) (l4 := x.toNat / 256 ^ 4 % 256) (l5 := x.toNat / 256 ^ 5 % 256) (l6 := x.toNat / 256 ^ 6 % 256) (l7 := x.toNat / 256 ^ 7 % 256)
    (hb _) (hb _) (hb _) (hb _) (hb _) (hb _) (hb _) (hb _) (by simp only [ofB, Nat.reducePow]; omega)]
  simp only [pc8_byte]
  rw [range64, List.countP_flatMap]
  simp only [show List.range 8 = [0, 1, 2, 3, 4, 5, 6, 7] from rfl, List.map_cons, List.map_nil, List.sum_cons, List.sum_nil, Function.comp, Nat.add_zero, Nat.add_assoc]
  rfl
theorem swar_bs {x y z : Int} (hS : Sides x y z) (p : Cell → Bool) : (swar (bs x y z p)).toNat = (pick x y z p).length := by
  have hv := vol_cast hS
  rw [swar_eq, show List.range 64 = List.range (vol x y z) ++ (List.range (64 - vol x y z)).map (vol x y z + ·) by rw [← List.range_add]; congr 1; omega, List.countP_append]
  have h1 : (List.range (vol x y z)).countP (bs x y z p).getLsbD = (pick x y z p).length := by
    unfold pick cellsOf
    rw [← List.countP_eq_length_filter, List.countP_map]
    apply List.countP_congr
    intro i hi
    rw [bs_bit hS, decide_eq_true (List.mem_range.1 hi), Bool.true_and]; rfl
  have h2 : ((List.range (64 - vol x y z)).map (vol x y z + ·)).countP (bs x y z p).getLsbD = 0 := by
    rw [List.countP_eq_zero]
    intro i hi
    obtain ⟨j, _, rfl⟩ := List.mem_map.1 hi
    rw [bs_bit hS, decide_eq_false (by omega)]; simp
  rw [h1, h2, Nat.add_zero]
end Go.Ab
