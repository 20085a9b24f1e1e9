/- Parts of the proof of FnShadowsSaid: C_Jq K_Jq C_Jj K_Jj Jj Jq C_Jr K_Jr C_Je K_Je Je Jr. -/
import Derived.Test.YthgljdbfkojpeaaGreatA3
import Derived.Test.YthgljdbfkojpeaaGreatA4
import Derived.Test.YthgljdbfkojpeaaGreatProg
import Derived.KernelRfl
import Derived.Test.YthgljdbfkojpeaaGreatA5
import Derived.Test.YthgljdbfkojpeaaGreatA8
import Derived.Test.YthgljdbfkojpeaaGreatA7
import Derived.Test.YthgljdbfkojpeaaGreatA10
set_option linter.all false
/- The abstract code of some functions (written by a program of mine from the translation, by way of prepF). -/
namespace Go.Ab.C
open Go.Ab
def spec_l1Cur_shadow3 : AFn :=
 ⟨1, 86, [.cellN 2 6],
 .seq (.ops [(none, .alloc 2 [(.I 0), (.I 0), (.I 0), .nil, .nil, .nil])])
 (.seq (.ops [(none, .mv 5 (.t 0)),
 (none, .call (some 6) F.spec_l1Cur_heap [(.t 5)]),
 (none, .alloc 3 [(.I 0), (.I 0), (.I 0), .nil]),
 (none, .store 4 (.t 3) (.t 6))])
 (.seq (.seq (.ops [(none, .loadN 7 4 (.t 3)),
 (none, .call (some 8) F.spec_l2Heap [(.t 7)]),
 (none, .un 9 .not (.t 8))])
 (.cond (.t 9) (.seq (.ops [(none, .fieldAddr 10 (.t 3) 0),
 (none, .load1 11 (.t 10)),
 (none, .fieldAddr 12 (.t 3) 1),
 (none, .load1 13 (.t 12)),
 (none, .fieldAddr 14 (.t 3) 2),
 (none, .load1 15 (.t 14)),
 (none, .buildSl 16 1 1 [(.I 0)] [(0, 1, (.c (.I 1)))]),
 (none, .buildSl 17 0 1 [] []),
 (none, .buildSl 18 0 1 [] []),
 (none, .build 19 [(.I 0), (.I 0), (.I 0), .nil, .nil, .nil] [(0, 1, (.t 11)), (1, 1, (.t 13)), (2, 1, (.t 15)), (3, 1, (.t 16)), (4, 1, (.t 17)), (5, 1, (.t 18))]),
 (none, .store 6 (.t 2) (.t 19))])
 (.ret))
 (.skip)))
 (.seq (.ops [(none, .loadN 20 4 (.t 3)),
 (none, .call (some 21) F.spec_l3Of [(.t 20)]),
 (none, .alloc 4 [(.I 0), (.I 0), (.I 0), .nil, .nil, .nil]),
 (none, .store 6 (.t 4) (.t 21))])
 (.seq (.seq (.ops [(none, .mv 22 (.t 0)),
 (none, .call (some 23) F.spec_l1Cur_pick [(.t 22), (.c (.I 16))])])
 (.block 0 (.seq (.ops [(none, .bin 25 .eql (.t 23) (.c (.I 0))),
 (none, .mv 24 (.t 25))])
 (.cond (.t 24) (.draw [⟨(none, .fieldAddr 26 (.t 4) 3), [], []⟩,
 ⟨(none, .load1 27 (.t 26)), [], []⟩,
 ⟨(none, .mv 28 (.t 0)), [], []⟩,
 ⟨(none, .fieldAddr 29 (.t 4) 3), [], []⟩,
 ⟨(none, .load1 30 (.t 29)), [], []⟩,
 ⟨(none, .len 31 (.t 30)), [], []⟩,
 ⟨(none, .mv 33 (.t 0)), [], []⟩,
 ⟨(none, .call (some 32) F.spec_l1Cur_pick [(.t 28), (.t 31)]), [], [0, 1, 6]⟩,
 ⟨(none, .call (some 34) F.spec_l1Cur_pick [(.t 33), (.c (.I 2))]), [], [0, 1]⟩,
 ⟨(none, .idxS 35 1 (.t 27) (.t 32)), [], []⟩,
 ⟨(none, .store 1 (.t 35) (.t 34)), [], []⟩])
 (.seq (.ops [(none, .bin 37 .eql (.t 23) (.c (.I 1))),
 (none, .mv 36 (.t 37))])
 (.cond (.t 36) (.seq (.draw [⟨(none, .fieldAddr 38 (.t 4) 5), [], []⟩,
 ⟨(none, .load1 39 (.t 38)), [], []⟩,
 ⟨(none, .mv 40 (.t 0)), [], []⟩,
 ⟨(none, .fieldAddr 41 (.t 4) 5), [], []⟩,
 ⟨(none, .load1 42 (.t 41)), [], []⟩,
 ⟨(none, .len 43 (.t 42)), [], []⟩,
 ⟨(none, .mv 45 (.t 0)), [], []⟩,
 ⟨(none, .call (some 44) F.spec_l1Cur_pick [(.t 40), (.t 43)]), [], [0, 1, 6]⟩,
 ⟨(none, .call (some 46) F.spec_l1Cur_pick [(.t 45), (.c (.I 2))]), [], [0, 1]⟩,
 ⟨(none, .idxS 47 1 (.t 39) (.t 44)), [], []⟩,
 ⟨(none, .store 1 (.t 47) (.t 46)), [], []⟩])
 (.draw [⟨(none, .fieldAddr 48 (.t 4) 4), [], []⟩,
 ⟨(none, .load1 49 (.t 48)), [], []⟩,
 ⟨(none, .mv 50 (.t 0)), [], []⟩,
 ⟨(none, .fieldAddr 51 (.t 4) 4), [], []⟩,
 ⟨(none, .load1 52 (.t 51)), [], []⟩,
 ⟨(none, .len 53 (.t 52)), [], []⟩,
 ⟨(none, .mv 55 (.t 0)), [], []⟩,
 ⟨(none, .call (some 54) F.spec_l1Cur_pick [(.t 50), (.t 53)]), [], [0, 1, 6]⟩,
 ⟨(none, .call (some 56) F.spec_l1Cur_pick [(.t 55), (.c (.I 2))]), [], [0, 1]⟩,
 ⟨(none, .idxS 57 1 (.t 49) (.t 54)), [], []⟩,
 ⟨(none, .store 1 (.t 57) (.t 56)), [], []⟩]))
 (.skip)))))))
 (.seq (.seq (.ops [(none, .mv 58 (.t 0)),
 (none, .call (some 59) F.spec_l1Cur_pick [(.t 58), (.c (.I 50))])])
 (.block 1 (.seq (.ops [(none, .bin 61 .eql (.t 59) (.c (.I 0))),
 (none, .mv 60 (.t 61))])
 (.cond (.t 60) (.ops [(none, .fieldAddr 62 (.t 4) 3),
 (none, .load1 63 (.t 62)),
 (none, .buildSl 64 1 1 [(.I 0)] [(0, 1, (.c (.I 0)))]),
 (none, .append 65 1 8 (.t 63) (.t 64)),
 (none, .fieldAddr 66 (.t 4) 3),
 (none, .store 1 (.t 66) (.t 65))])
 (.seq (.ops [(none, .bin 68 .eql (.t 59) (.c (.I 1))),
 (none, .mv 67 (.t 68))])
 (.cond (.t 67) (.draw [⟨(none, .fieldAddr 69 (.t 4) 4), [], []⟩,
 ⟨(none, .load1 70 (.t 69)), [], []⟩,
 ⟨(none, .mv 71 (.t 0)), [], []⟩,
 ⟨(none, .buildSl 72 2 1 [(.I 0), (.I 0)] [(0, 1, (.c (.I 2))), (1, 1, (.c (.I (-1))))]), [], []⟩,
 ⟨(none, .call (some 73) F.spec_l1Cur_among [(.t 71), (.t 72)]), [], [0, 1]⟩,
 ⟨(none, .idxS 74 1 (.t 70) (.c (.I 0))), [], []⟩,
 ⟨(none, .store 1 (.t 74) (.t 73)), [], []⟩])
 (.seq (.ops [(none, .bin 76 .eql (.t 59) (.c (.I 2))),
 (none, .mv 75 (.t 76))])
 (.cond (.t 75) (.ops [(none, .buildSl 77 0 1 [] []),
 (none, .fieldAddr 78 (.t 4) 5),
 (none, .store 1 (.t 78) (.t 77))])
 (.seq (.ops [(none, .bin 80 .eql (.t 59) (.c (.I 3))),
 (none, .mv 79 (.t 80))])
 (.cond (.t 79) (.ops [(none, .mv 81 (.t 0)),
 (none, .buildSl 82 3 1 [(.I 0), (.I 0), (.I 0)] [(0, 1, (.c (.I 0))), (1, 1, (.c (.I 5))), (2, 1, (.c (.I 4611686018427387904)))]),
 (none, .call (some 83) F.spec_l1Cur_among [(.t 81), (.t 82)]),
 (none, .fieldAddr 84 (.t 4) 2),
 (none, .store 1 (.t 84) (.t 83))])
 (.skip)))))))))))
 (.seq (.ops [(none, .loadN 85 6 (.t 4)),
 (none, .store 6 (.t 2) (.t 85))])
 (.ret)))))))⟩
def spec_DrawIsShadow : AFn :=
 ⟨1, 9, [.cellN 2 6],
 .seq (.ops [(none, .alloc 2 [(.I 0), (.I 0), (.I 0), .nil, .nil, .nil])])
 (.seq (.ops [(none, .mv 4 (.t 0)),
 (none, .build 5 [.nil, (.I 0), (.U 0)] [(0, 1, (.t 4))]),
 (none, .box 6 (.t 5)),
 (none, .mv 3 (.t 6))])
 (.seq (.ops [(none, .mv 7 (.t 3)),
 (none, .call (some 8) F.spec_l1Cur_shadow3 [(.t 7)]),
 (none, .store 6 (.t 2) (.t 8))])
 (.ret)))⟩
def spec_DrawFitTogether : AFn :=
 ⟨1, 5, [.cellN 2 6],
 .seq (.ops [(none, .alloc 2 [(.I 0), (.I 0), (.I 0), .nil, .nil, .nil])])
 (.seq (.ops [(none, .mv 3 (.t 0)),
 (none, .call (some 4) F.spec_DrawIsShadow [(.t 3)]),
 (none, .store 6 (.t 2) (.t 4))])
 (.ret))⟩
def spec_DrawIsShadowOf : AFn :=
 ⟨1, 53, [.cellN 2 6, .cellN 3 4],
 .seq (.ops [(none, .alloc 2 [(.I 0), (.I 0), (.I 0), .nil, .nil, .nil]),
 (none, .alloc 3 [(.I 0), (.I 0), (.I 0), .nil])])
 (.seq (.ops [(none, .mv 9 (.t 0)),
 (none, .build 10 [.nil, (.I 0), (.U 0)] [(0, 1, (.t 9))]),
 (none, .box 11 (.t 10)),
 (none, .mv 4 (.t 11))])
 (.seq (.ops [(none, .mv 12 (.t 4)),
 (none, .call (some 13) F.spec_l1Cur_shadow3 [(.t 12)]),
 (none, .alloc 5 [(.I 0), (.I 0), (.I 0), .nil, .nil, .nil]),
 (none, .store 6 (.t 5) (.t 13))])
 (.seq (.seq (.ops [(none, .loadN 15 6 (.t 5)),
 (none, .call (some 16) F.spec_GreatestHeap [(.t 15)]),
 (none, .mv 14 (.t 16)),
 (none, .extract 17 (.t 14) 0),
 (none, .extract 18 (.t 14) 1),
 (none, .alloc 6 [(.I 0), (.I 0), (.I 0), .nil]),
 (none, .store 4 (.t 6) (.t 17)),
 (none, .mv 7 (.t 18))])
 (.seq (.ops [(none, .mv 19 (.t 7)),
 (none, .mv 20 (.t 19)),
 (some (20, true), .mv 21 (.t 4)),
 (some (20, true), .call (some 22) F.spec_l1Cur_one [(.t 21), (.c (.I 4))]),
 (some (20, true), .un 23 .not (.t 22)),
 (none, .pick 24 (.t 20) (.t 23) (.c (.B false)))])
 (.cond (.t 24) (.seq (.seq (.ops [(none, .mv 25 (.t 4)),
 (none, .call (some 26) F.spec_l1Cur_pick [(.t 25), (.c (.I 3))]),
 (none, .mv 8 (.t 26))])
 (.block 0 (.loop (.seq (.seq (.ops [(none, .mv 27 (.t 8)),
 (none, .bin 28 .gtr (.t 27) (.c (.I 0))),
 (none, .mv 29 (.t 28)),
 (some (29, true), .fieldAddr 30 (.t 6) 3),
 (some (29, true), .load1 31 (.t 30)),
 (some (29, true), .len 32 (.t 31)),
 (some (29, true), .bin 33 .gtr (.t 32) (.c (.I 0))),
 (none, .pick 34 (.t 29) (.t 33) (.c (.B false)))])
 (.cond (.t 34) (.skip)
 (.exit 0)))
 (.seq (.block 1 (.draw [⟨(none, .loadN 37 4 (.t 6)), [], []⟩,
 ⟨(none, .fieldAddr 38 (.t 6) 3), [], []⟩,
 ⟨(none, .load1 39 (.t 38)), [], []⟩,
 ⟨(none, .mv 40 (.t 4)), [], []⟩,
 ⟨(none, .fieldAddr 41 (.t 6) 3), [], []⟩,
 ⟨(none, .load1 42 (.t 41)), [], []⟩,
 ⟨(none, .len 43 (.t 42)), [], []⟩,
 ⟨(none, .call (some 44) F.spec_l1Cur_pick [(.t 40), (.t 43)]), [], [0, 1, 2]⟩,
 ⟨(none, .idxS 45 3 (.t 39) (.t 44)), [], []⟩,
 ⟨(none, .loadN 46 3 (.t 45)), [], []⟩,
 ⟨(none, .call (some 47) F.spec_l2Without [(.t 37), (.t 46)]), [], []⟩,
 ⟨(none, .store 4 (.t 6) (.t 47)), [], []⟩]))
 (.ops [(none, .mv 35 (.t 8)),
 (none, .bin 36 .sub (.t 35) (.c (.I 1))),
 (none, .mv 8 (.t 36))]))))))
 (.seq (.draw [⟨(none, .loadN 48 6 (.t 5)), [], []⟩,
 ⟨(none, .loadN 49 4 (.t 6)), [], []⟩,
 ⟨(none, .store 6 (.t 2) (.t 48)), [], [1]⟩,
 ⟨(none, .store 4 (.t 3) (.t 49)), [], []⟩])
 (.ret)))
 (.skip))))
 (.seq (.draw [⟨(none, .loadN 50 6 (.t 5)), [], []⟩,
 ⟨(none, .mv 51 (.t 4)), [], []⟩,
 ⟨(none, .call (some 52) F.spec_l1Cur_heap [(.t 51)]), [], [0]⟩,
 ⟨(none, .store 6 (.t 2) (.t 50)), [], []⟩,
 ⟨(none, .store 4 (.t 3) (.t 52)), [], []⟩])
 (.ret)))))⟩
end Go.Ab.C

/- That the program has this code. -/
namespace Go.Ab.K
open Go Go.Ab
theorem spec_l1Cur_shadow3 : prepF Go.Proofs.Tryz.prog F.spec_l1Cur_shadow3 = some C.spec_l1Cur_shadow3 := by kernel_rfl
theorem spec_DrawIsShadow : prepF Go.Proofs.Tryz.prog F.spec_DrawIsShadow = some C.spec_DrawIsShadow := by kernel_rfl
theorem spec_DrawFitTogether : prepF Go.Proofs.Tryz.prog F.spec_DrawFitTogether = some C.spec_DrawFitTogether := by kernel_rfl
theorem spec_DrawIsShadowOf : prepF Go.Proofs.Tryz.prog F.spec_DrawIsShadowOf = some C.spec_DrawIsShadowOf := by kernel_rfl
end Go.Ab.K

/- The abstract code of some functions (written by a program of mine from the translation, by way of prepF). -/
namespace Go.Ab.C
open Go.Ab
end Go.Ab.C

/- That the program has this code. -/
namespace Go.Ab.K
open Go Go.Ab
end Go.Ab.K

/- Contracts: what the law of heaps' forms draws. -/
namespace Go.Ab
open Go
set_option linter.unusedSimpArgs false
set_option linter.unusedVariables false
set_option maxRecDepth 20000

/-- A guarded step, an if, and then the rest: the rest is shown once. -/
theorem guard_cut {P : Program} {o : AOp} {w : Bool} {r : List GOp} {b c : ACode} {fr : Fr} {v : LV} {M : Mem} {Q : AExit → Fr → Mem → Prop} (I : Fr → Mem → Prop) (h : guardO v w P o fr M (opsK P r (seqK P b (thenK I Q) .normal))) (hb : ∀ fr M, I fr M → EvC P c fr M Q) : guardO v w P o fr M (opsK P r (seqK P b (seqK P c Q) .normal)) := by
  have hm : ∀ e fr M, thenK I Q e fr M → seqK P c Q e fr M := fun e fr M hh => by
    cases e with
    | normal => exact hb _ _ hh
    | exit i => exact hh
    | ret => exact hh
  have hK : ∀ fr M, opsK P r (seqK P b (thenK I Q) .normal) fr M → opsK P r (seqK P b (seqK P c Q) .normal) fr M := fun fr M h => evops_mono (fun fr M hh => evc_mono hm hh) h
  have hA : EvOp P o fr M (opsK P r (seqK P b (thenK I Q) .normal)) → EvOp P o fr M (opsK P r (seqK P b (seqK P c Q) .normal)) := fun h => evg_mono (g := (none, o)) hK h
  revert h
  unfold guardO guardV
  split
  · intro h
    unfold condB at *
    exact ⟨fun e => hA (h.1 e), fun e => hK _ _ (h.2 e)⟩
  · exact fun h => hK _ _ h
  · exact id
theorem CurAt.new3 {t o : Nat} {bs : List Nat} {M : Mem} {b c : Option Blk} (hB : Bytes M t o bs) (h255 : ∀ b ∈ bs, b ≤ 255) (hl : bs.length ≤ 1000000000) : CurAt (M ++ [b, c, some (.row [.ref t o bs.length, .I 0, .val (.int .u64 0)] true 0)]) (M.length + 2) t o bs 0 := by
  have := CurAt.new (M := M ++ [b, c]) (t := t) (o := o) (bs := bs) (Has.app hB) h255 hl
  rw [List.append_assoc, List.length_append] at this
  exact this
section
variable {t o : Nat} {bs : List Nat} {M : Mem} (hB : Bytes M t o bs) (h255 : ∀ b ∈ bs, b ≤ 255) (hl : bs.length ≤ 1000000000)
include hB h255 hl
end
end Go.Ab

/- Contracts: the shadows that a law draws. -/
namespace Go.Ab
open Go
set_option linter.unusedSimpArgs false
set_option linter.unusedVariables false
set_option maxRecDepth 20000

/-- A heap whose cells lie in a block of their own. -/
def HeapL (v : LV) (N : Mem) : Prop := ∃ (x y z : Int) (cs : List Cell) (u : Nat), v = .agg [.I x, .I y, .I z, .ref u 0 cs.length] ∧ Live N u (.row (triL cs) true 3) ∧ cs.length ≤ 65
theorem CurAt.ne3 {M : Mem} {p t o a u : Nat} {bs : List Nat} {cs : List LV} {w : Bool} (h : CurAt M p t o bs a) (hu : Live M u (.row cs w 3)) : u ≠ p := by
  obtain ⟨⟨_, _, _, hp⟩, _⟩ := h
  exact hu.ne_esz hp (by decide)
/-- A drawn shadow: its lists lie in new blocks. -/
def ShdL (M : Mem) (v : LV) (N : Mem) : Prop := ∃ (x y z : Int) (tp fr sd : List Int) (a b c : Nat), v = .agg [.I x, .I y, .I z, .ref a 0 tp.length, .ref b 0 fr.length, .ref c 0 sd.length] ∧
  Live N a (.row (intL tp) true 1) ∧ Live N b (.row (intL fr) true 1) ∧ Live N c (.row (intL sd) true 1) ∧ M.length ≤ a ∧ M.length ≤ b ∧ M.length ≤ c ∧ tp.length ≤ 17 ∧ fr.length ≤ 17 ∧ sd.length ≤ 17
theorem d_shadow3 {p t o a : Nat} {bs : List Nat} {M : Mem} (h : CurAt M p t o bs a) (ha : a ≤ 980000) : CallsR PG F.spec_l1Cur_shadow3 [.ptr p 0] M fun v N => ShdL M v N ∧ DrawN M p t o bs (a + 180) N := by
  obtain ⟨⟨_, _, _, hpl'⟩, hB, _⟩ := id h
  have hpl := hpl'.lt
  have htM := hB.lt
  refine callsR_run K.spec_l1Cur_shadow3 rfl ?_
  simp (disch := omega) only [C.spec_l1Cur_shadow3, ↓SXd, SXu, slBounds, ↓sop, ↓aop, ↓reduceIte, LV.cells, AOp.dst, LV.I, LV.B, LV.U, LV.S, LV.nil, Nat.reduceEqDiff, Nat.reduceAdd, Nat.reduceMul, Nat.reduceSub, Nat.reduceLeDiff, Nat.reduceBEq, Nat.reduceDiv, Nat.reduceMod, Int.reduceToNat, Int.reduceLT, Int.reduceLE, Int.reduceAdd, Int.reduceSub, Int.reduceMul, Int.reduceEq, Int.reduceNeg, reduceCtorEq, resV, resAll, ARes.ev, LV.flat, ite_true, ite_false, exists_eq_left', exists_eq_left, keyOf, implies_true, fillC, capOf]
  refine callR_of (d_heapE (h.pre (Pre.app _ _)) (by omega)) ?_
  rintro _ N1 ⟨⟨x, y, z, cs, u, rfl, hu, hul, hcl⟩, hd1⟩
  rw [List.length_append, List.length_singleton] at hul
  have b2 : Live N1 M.length (.row [.I 0, .I 0, .I 0, .nil, .nil, .nil] true 0) := hd1.live Live.new (by omega)
  have hD1 : DrawN M p t o bs (a + 160) N1 := DrawN.of_pre (Pre.app _ _) hd1
  have hull := hu.lt
  simp (disch := omega) only [splice, ↓SXd, SXu, slBounds, ↓sop, ↓aop, ↓reduceIte, LV.cells, AOp.dst, LV.I, LV.B, LV.U, LV.S, LV.nil, Nat.reduceEqDiff, Nat.reduceAdd, Nat.reduceMul, Nat.reduceSub, Nat.reduceLeDiff, Nat.reduceBEq, Nat.reduceDiv, Nat.reduceMod, Int.reduceToNat, Int.reduceLT, Int.reduceLE, Int.reduceAdd, Int.reduceSub, Int.reduceMul, Int.reduceEq, Int.reduceNeg, reduceCtorEq, resV, resAll, ARes.ev, LV.flat, ite_true, ite_false, exists_eq_left', exists_eq_left, keyOf, implies_true, fillC, capOf]
  have c3 : Live (N1 ++ [some (.row [.I x, .I y, .I z, .ref u 0 cs.length] true 0)]) N1.length (.row [.I x, .I y, .I z, .ref u 0 cs.length] true 0) := Live.new
  have c2 := b2.app (L := [some (.row [.I x, .I y, .I z, .ref u 0 cs.length] true 0)])
  have cu := hu.app (L := [some (.row [.I x, .I y, .I z, .ref u 0 cs.length] true 0)])
  have hD2 : DrawN M p t o bs (a + 160) (N1 ++ [some (.row [.I x, .I y, .I z, .ref u 0 cs.length] true 0)]) := hD1.keep hpl htM (Nat.le_refl _) (by simp) fun q q1 => List.getElem?_append_left (by have := hD1.2.1; omega)
  have hM1 := hD1.2.1
  generalize hm3 : N1.length = m3 at c3 ⊢
  generalize N1 ++ [some (Blk.row [.I x, .I y, .I z, .ref u 0 cs.length] true 0)] = N2 at c3 c2 cu hD2 ⊢
  refine callK_of (h_l2Heap cu.has (by omega)) ?_
  simp (disch := omega) only [↓SXd, SXu, slBounds, ↓sop, ↓aop, ↓reduceIte, LV.cells, AOp.dst, LV.I, LV.B, LV.U, LV.S, LV.nil, Nat.reduceEqDiff, Nat.reduceAdd, Nat.reduceMul, Nat.reduceSub, Nat.reduceLeDiff, Nat.reduceBEq, Nat.reduceDiv, Nat.reduceMod, Int.reduceToNat, Int.reduceLT, Int.reduceLE, Int.reduceAdd, Int.reduceSub, Int.reduceMul, Int.reduceEq, Int.reduceNeg, reduceCtorEq, resV, resAll, ARes.ev, LV.flat, ite_true, ite_false, exists_eq_left', exists_eq_left, keyOf, implies_true, fillC, capOf]
  by_cases hH : HeapOK x y z cs
  rotate_left
  · simp (disch := omega) only [hH, c3.cell, splice, ↓SXd, SXu, slBounds, ↓sop, ↓aop, ↓reduceIte, LV.cells, AOp.dst, LV.I, LV.B, LV.U, LV.S, LV.nil, Nat.reduceEqDiff, Nat.reduceAdd, Nat.reduceMul, Nat.reduceSub, Nat.reduceLeDiff, Nat.reduceBEq, Nat.reduceDiv, Nat.reduceMod, Int.reduceToNat, Int.reduceLT, Int.reduceLE, Int.reduceAdd, Int.reduceSub, Int.reduceMul, Int.reduceEq, Int.reduceNeg, reduceCtorEq, resV, resAll, ARes.ev, LV.flat, ite_true, ite_false, exists_eq_left', exists_eq_left, keyOf, implies_true, fillC, capOf]
    refine memK_box c2.app (by simp) fun N3 k1 k2 k3 => ?_
    simp (disch := omega) only [k2.cells, ↓SXd, SXu, slBounds, ↓sop, ↓aop, ↓reduceIte, LV.cells, AOp.dst, LV.I, LV.B, LV.U, LV.S, LV.nil, Nat.reduceEqDiff, Nat.reduceAdd, Nat.reduceMul, Nat.reduceSub, Nat.reduceLeDiff, Nat.reduceBEq, Nat.reduceDiv, Nat.reduceMod, Int.reduceToNat, Int.reduceLT, Int.reduceLE, Int.reduceAdd, Int.reduceSub, Int.reduceMul, Int.reduceEq, Int.reduceNeg, reduceCtorEq, resV, resAll, ARes.ev, LV.flat, ite_true, ite_false, exists_eq_left', exists_eq_left, keyOf, implies_true, fillC, capOf]
    have c2l := c2.lt
    have e1 : Live N3 N2.length (.row (intL [1]) true 1) := live_step (Live.newj (j := 0) rfl) (by omega) k3
    have e2 : Live N3 (N2.length + 1) (.row (intL []) true 1) := live_step (Live.newj (j := 1) rfl) (by omega) k3
    have e3 : Live N3 (N2.length + 2) (.row (intL []) true 1) := live_step (Live.newj (j := 2) rfl) (by omega) k3
    refine ⟨⟨x, y, z, [1], [], [], N2.length, N2.length + 1, N2.length + 2, rfl, e1, e2, e3, by omega, by omega, by omega, by simp, by simp, by simp⟩, ?_⟩
    refine (hD2.keep (N' := N3) hpl htM (by omega) ?_ fun q q1 => ?_)
    · rw [k1]; simp
    · rw [k3 q (by omega) (by rw [List.length_append]; omega)]
      exact List.getElem?_append_left (by omega)
  simp (disch := omega) only [hH, c3.cells, ↓SXd, SXu, slBounds, ↓sop, ↓aop, ↓reduceIte, LV.cells, AOp.dst, LV.I, LV.B, LV.U, LV.S, LV.nil, Nat.reduceEqDiff, Nat.reduceAdd, Nat.reduceMul, Nat.reduceSub, Nat.reduceLeDiff, Nat.reduceBEq, Nat.reduceDiv, Nat.reduceMod, Int.reduceToNat, Int.reduceLT, Int.reduceLE, Int.reduceAdd, Int.reduceSub, Int.reduceMul, Int.reduceEq, Int.reduceNeg, reduceCtorEq, resV, resAll, ARes.ev, LV.flat, ite_true, ite_false, exists_eq_left', exists_eq_left, keyOf, implies_true, fillC, capOf]
  refine callR_of (h_l3Of cu.has hH) ?_
  rintro _ N3 ⟨A, B, C, rfl, hA, hB', hC, hAB, hAC, hBC, lA, lB, lC, hp3⟩
  have hl2 := shdOf_len (x := x) (y := y) (z := z) (d := 2) (cs := cs)
  have hl1 := shdOf_len (x := x) (y := y) (z := z) (d := 1) (cs := cs)
  have hl0 := shdOf_len (x := x) (y := y) (z := z) (d := 0) (cs := cs)
  have q2 := lines_le hH.1 (d := 2) (by omega)
  have q1 := lines_le hH.1 (d := 1) (by omega)
  have q0 := lines_le hH.1 (d := 0) (by omega)
  generalize shdOf x y z 2 cs = tp at lA hl2 ⊢
  generalize shdOf x y z 1 cs = fr at lB hl1 ⊢
  generalize shdOf x y z 0 cs = sd at lC hl0 ⊢
  have hN2 := hD2.2.1
  have c2l := c2.lt
  have hN3 := hp3.1
  simp (disch := omega) only [splice, ↓SXd, SXu, slBounds, ↓sop, ↓aop, ↓reduceIte, LV.cells, AOp.dst, LV.I, LV.B, LV.U, LV.S, LV.nil, Nat.reduceEqDiff, Nat.reduceAdd, Nat.reduceMul, Nat.reduceSub, Nat.reduceLeDiff, Nat.reduceBEq, Nat.reduceDiv, Nat.reduceMod, Int.reduceToNat, Int.reduceLT, Int.reduceLE, Int.reduceAdd, Int.reduceSub, Int.reduceMul, Int.reduceEq, Int.reduceNeg, reduceCtorEq, resV, resAll, ARes.ev, LV.flat, ite_true, ite_false, exists_eq_left', exists_eq_left, keyOf, implies_true, fillC, capOf]
  have b4 : Live (N3 ++ [some (.row [.I x, .I y, .I z, .ref A 0 tp.length, .ref B 0 fr.length, .ref C 0 sd.length] true 0)]) N3.length (.row [.I x, .I y, .I z, .ref A 0 tp.length, .ref B 0 fr.length, .ref C 0 sd.length] true 0) := Live.new
  have d2 := (c2.pre hp3).app (L := [some (.row [.I x, .I y, .I z, .ref A 0 tp.length, .ref B 0 fr.length, .ref C 0 sd.length] true 0)])
  have dA := lA.app (L := [some (.row [.I x, .I y, .I z, .ref A 0 tp.length, .ref B 0 fr.length, .ref C 0 sd.length] true 0)])
  have dB := lB.app (L := [some (.row [.I x, .I y, .I z, .ref A 0 tp.length, .ref B 0 fr.length, .ref C 0 sd.length] true 0)])
  have dC := lC.app (L := [some (.row [.I x, .I y, .I z, .ref A 0 tp.length, .ref B 0 fr.length, .ref C 0 sd.length] true 0)])
  have hD4 : DrawN M p t o bs (a + 160) (N3 ++ [some (.row [.I x, .I y, .I z, .ref A 0 tp.length, .ref B 0 fr.length, .ref C 0 sd.length] true 0)]) := hD2.keep hpl htM (Nat.le_refl _) (by rw [List.length_append]; omega) fun q q1 => by rw [List.getElem?_append_left (by omega)]; exact hp3.2 q (by omega)
  have lA' := lA.lt
  have lB' := lB.lt
  have lC' := lC.lt
  generalize hm4 : N3.length = m4 at b4 hN3 ⊢
  generalize N3 ++ [some (Blk.row [.I x, .I y, .I z, .ref A 0 tp.length, .ref B 0 fr.length, .ref C 0 sd.length] true 0)] = N4 at b4 d2 dA dB dC hD4 ⊢
  rw [hm4] at lA' lB' lC'
  clear lA lB lC hp3 c2 c3 cu hu hD1 hD2 hd1
  refine callR_of (d_pick hD4.1 (by omega)) ?_
  rintro _ N5 ⟨⟨k, rfl, _⟩, hd5⟩
  have hD5 := hD4.trans hd5
  have e4 := hd5.live b4 (by omega)
  have e2 := hd5.live d2 (by omega)
  have eA := hd5.live dA (by omega)
  have eB := hd5.live dB (by omega)
  have eC := hd5.live dC (by omega)
  clear b4 d2 dA dB dC hD4 hd5
  refine put_cut (fun fr' N => ∃ (x y z : Int) (tp fr sd : List Int) (A B C a' : Nat), a' ≤ a + 170 ∧ DrawN M p t o bs a' N ∧ Live N M.length (.row [.I 0, .I 0, .I 0, .nil, .nil, .nil] true 0) ∧ Live N m4 (.row [.I x, .I y, .I z, .ref A 0 tp.length, .ref B 0 fr.length, .ref C 0 sd.length] true 0) ∧ Live N A (.row (intL tp) true 1) ∧ Live N B (.row (intL fr) true 1) ∧ Live N C (.row (intL sd) true 1) ∧ A ≠ B ∧ A ≠ C ∧ B ≠ C ∧ M.length < A ∧ M.length < B ∧ M.length < C ∧ (1 ≤ tp.length ∧ tp.length ≤ 16) ∧ (1 ≤ fr.length ∧ fr.length ≤ 16) ∧ (1 ≤ sd.length ∧ sd.length ≤ 16) ∧ M.length < m4 ∧
    fr' 0 = .ptr p 0 ∧ fr' 2 = .ptr M.length 0 ∧ fr' 4 = .ptr m4 0) ?_ ?_
  · by_cases k0 : (k : Int) = 0
    · simp (disch := omega) only [k0, e4.cell, ↓SXd, SXu, slBounds, ↓sop, ↓aop, ↓reduceIte, LV.cells, AOp.dst, LV.I, LV.B, LV.U, LV.S, LV.nil, Nat.reduceEqDiff, Nat.reduceAdd, Nat.reduceMul, Nat.reduceSub, Nat.reduceLeDiff, Nat.reduceBEq, Nat.reduceDiv, Nat.reduceMod, Int.reduceToNat, Int.reduceLT, Int.reduceLE, Int.reduceAdd, Int.reduceSub, Int.reduceMul, Int.reduceEq, Int.reduceNeg, reduceCtorEq, resV, resAll, ARes.ev, LV.flat, ite_true, ite_false, exists_eq_left', exists_eq_left, keyOf, implies_true, fillC, capOf]
      refine callR_of (d_pick hD5.1 (by omega)) ?_
      rintro _ P6 ⟨⟨i6, rfl, hi6⟩, hd6⟩
      have g46 := hd6.live e4 (by omega)
      have g26 := hd6.live e2 (by omega)
      have gA6 := hd6.live eA (by omega)
      have gB6 := hd6.live eB (by omega)
      have gC6 := hd6.live eC (by omega)
      simp (disch := omega) only [↓SXd, SXu, slBounds, ↓sop, ↓aop, ↓reduceIte, LV.cells, AOp.dst, LV.I, LV.B, LV.U, LV.S, LV.nil, Nat.reduceEqDiff, Nat.reduceAdd, Nat.reduceMul, Nat.reduceSub, Nat.reduceLeDiff, Nat.reduceBEq, Nat.reduceDiv, Nat.reduceMod, Int.reduceToNat, Int.reduceLT, Int.reduceLE, Int.reduceAdd, Int.reduceSub, Int.reduceMul, Int.reduceEq, Int.reduceNeg, reduceCtorEq, resV, resAll, ARes.ev, LV.flat, ite_true, ite_false, exists_eq_left', exists_eq_left, keyOf, implies_true, fillC, capOf]
      refine ⟨hd6.stay e4.lt (by omega), ?_⟩
      refine callR_of (d_pick hd6.1 (by omega)) ?_
      rintro _ P7 ⟨⟨v6, rfl, _⟩, hd7⟩
      have g47 := hd7.live g46 (by omega)
      have g27 := hd7.live g26 (by omega)
      have gA7 := hd7.live gA6 (by omega)
      have gB7 := hd7.live gB6 (by omega)
      have gC7 := hd7.live gC6 (by omega)
      simp (disch := omega) only [↓SXd, SXu, slBounds, ↓sop, ↓aop, ↓reduceIte, LV.cells, AOp.dst, LV.I, LV.B, LV.U, LV.S, LV.nil, Nat.reduceEqDiff, Nat.reduceAdd, Nat.reduceMul, Nat.reduceSub, Nat.reduceLeDiff, Nat.reduceBEq, Nat.reduceDiv, Nat.reduceMod, Int.reduceToNat, Int.reduceLT, Int.reduceLE, Int.reduceAdd, Int.reduceSub, Int.reduceMul, Int.reduceEq, Int.reduceNeg, reduceCtorEq, resV, resAll, ARes.ev, LV.flat, ite_true, ite_false, exists_eq_left', exists_eq_left, keyOf, implies_true, fillC, capOf]
      refine ⟨hd7.stay g46.lt (by omega), ?_⟩
      refine memK_int gA7 (show i6 < tp.length by omega) fun P8 l1 l2 l3 => ?_
      have hD8 := ((hD5.trans hd6).trans hd7).keep (N' := P8) hpl htM (Nat.le_refl _) (by omega) fun q q1 => l3 q (by omega) (by have := hd6.2.1; have := hd7.2.1; have := hD5.2.1; omega)
      have g48 := live_step g47 (by omega) l3
      have g28 := live_step g27 (by omega) l3
      have gA8 := l2
      have gB8 := live_step gB7 (by omega) l3
      have gC8 := live_step gC7 (by omega) l3
      have hset6 : (tp.set i6 v6).length = tp.length := List.length_set
      simp (disch := omega) only [↓SXd, SXu, slBounds, ↓sop, ↓aop, ↓reduceIte, LV.cells, AOp.dst, LV.I, LV.B, LV.U, LV.S, LV.nil, Nat.reduceEqDiff, Nat.reduceAdd, Nat.reduceMul, Nat.reduceSub, Nat.reduceLeDiff, Nat.reduceBEq, Nat.reduceDiv, Nat.reduceMod, Int.reduceToNat, Int.reduceLT, Int.reduceLE, Int.reduceAdd, Int.reduceSub, Int.reduceMul, Int.reduceEq, Int.reduceNeg, reduceCtorEq, resV, resAll, ARes.ev, LV.flat, ite_true, ite_false, exists_eq_left', exists_eq_left, keyOf, implies_true, fillC, capOf]
      exact ⟨x, y, z, tp.set i6 v6, fr, sd, A, B, C, _, by omega, hD8, g28, by rw [hset6]; exact g48, gA8, gB8, gC8, hAB, hAC, hBC, by omega, by omega, by omega, by omega, by omega, by omega, by omega⟩
    by_cases k1 : (k : Int) = 1
    · simp (disch := omega) only [k0, k1, e4.cell, ↓SXd, SXu, slBounds, ↓sop, ↓aop, ↓reduceIte, LV.cells, AOp.dst, LV.I, LV.B, LV.U, LV.S, LV.nil, Nat.reduceEqDiff, Nat.reduceAdd, Nat.reduceMul, Nat.reduceSub, Nat.reduceLeDiff, Nat.reduceBEq, Nat.reduceDiv, Nat.reduceMod, Int.reduceToNat, Int.reduceLT, Int.reduceLE, Int.reduceAdd, Int.reduceSub, Int.reduceMul, Int.reduceEq, Int.reduceNeg, reduceCtorEq, resV, resAll, ARes.ev, LV.flat, ite_true, ite_false, exists_eq_left', exists_eq_left, keyOf, implies_true, fillC, capOf]
      refine callR_of (d_pick hD5.1 (by omega)) ?_
      rintro _ P6 ⟨⟨i6, rfl, hi6⟩, hd6⟩
      have g46 := hd6.live e4 (by omega)
      have g26 := hd6.live e2 (by omega)
      have gA6 := hd6.live eA (by omega)
      have gB6 := hd6.live eB (by omega)
      have gC6 := hd6.live eC (by omega)
      simp (disch := omega) only [↓SXd, SXu, slBounds, ↓sop, ↓aop, ↓reduceIte, LV.cells, AOp.dst, LV.I, LV.B, LV.U, LV.S, LV.nil, Nat.reduceEqDiff, Nat.reduceAdd, Nat.reduceMul, Nat.reduceSub, Nat.reduceLeDiff, Nat.reduceBEq, Nat.reduceDiv, Nat.reduceMod, Int.reduceToNat, Int.reduceLT, Int.reduceLE, Int.reduceAdd, Int.reduceSub, Int.reduceMul, Int.reduceEq, Int.reduceNeg, reduceCtorEq, resV, resAll, ARes.ev, LV.flat, ite_true, ite_false, exists_eq_left', exists_eq_left, keyOf, implies_true, fillC, capOf]
      refine ⟨hd6.stay e4.lt (by omega), ?_⟩
      refine callR_of (d_pick hd6.1 (by omega)) ?_
      rintro _ P7 ⟨⟨v6, rfl, _⟩, hd7⟩
      have g47 := hd7.live g46 (by omega)
      have g27 := hd7.live g26 (by omega)
      have gA7 := hd7.live gA6 (by omega)
      have gB7 := hd7.live gB6 (by omega)
      have gC7 := hd7.live gC6 (by omega)
      simp (disch := omega) only [↓SXd, SXu, slBounds, ↓sop, ↓aop, ↓reduceIte, LV.cells, AOp.dst, LV.I, LV.B, LV.U, LV.S, LV.nil, Nat.reduceEqDiff, Nat.reduceAdd, Nat.reduceMul, Nat.reduceSub, Nat.reduceLeDiff, Nat.reduceBEq, Nat.reduceDiv, Nat.reduceMod, Int.reduceToNat, Int.reduceLT, Int.reduceLE, Int.reduceAdd, Int.reduceSub, Int.reduceMul, Int.reduceEq, Int.reduceNeg, reduceCtorEq, resV, resAll, ARes.ev, LV.flat, ite_true, ite_false, exists_eq_left', exists_eq_left, keyOf, implies_true, fillC, capOf]
      refine ⟨hd7.stay g46.lt (by omega), ?_⟩
      refine memK_int gC7 (show i6 < sd.length by omega) fun P8 l1 l2 l3 => ?_
      have hD8 := ((hD5.trans hd6).trans hd7).keep (N' := P8) hpl htM (Nat.le_refl _) (by omega) fun q q1 => l3 q (by omega) (by have := hd6.2.1; have := hd7.2.1; have := hD5.2.1; omega)
      have g48 := live_step g47 (by omega) l3
      have g28 := live_step g27 (by omega) l3
      have gA8 := live_step gA7 (by omega) l3
      have gB8 := live_step gB7 (by omega) l3
      have gC8 := l2
      have hset6 : (sd.set i6 v6).length = sd.length := List.length_set
      simp (disch := omega) only [g48.cell, ↓SXd, SXu, slBounds, ↓sop, ↓aop, ↓reduceIte, LV.cells, AOp.dst, LV.I, LV.B, LV.U, LV.S, LV.nil, Nat.reduceEqDiff, Nat.reduceAdd, Nat.reduceMul, Nat.reduceSub, Nat.reduceLeDiff, Nat.reduceBEq, Nat.reduceDiv, Nat.reduceMod, Int.reduceToNat, Int.reduceLT, Int.reduceLE, Int.reduceAdd, Int.reduceSub, Int.reduceMul, Int.reduceEq, Int.reduceNeg, reduceCtorEq, resV, resAll, ARes.ev, LV.flat, ite_true, ite_false, exists_eq_left', exists_eq_left, keyOf, implies_true, fillC, capOf]
      refine callR_of (d_pick hD8.1 (by omega)) ?_
      rintro _ P9 ⟨⟨i9, rfl, hi9⟩, hd9⟩
      have g49 := hd9.live g48 (by omega)
      have g29 := hd9.live g28 (by omega)
      have gA9 := hd9.live gA8 (by omega)
      have gB9 := hd9.live gB8 (by omega)
      have gC9 := hd9.live gC8 (by omega)
      simp (disch := omega) only [↓SXd, SXu, slBounds, ↓sop, ↓aop, ↓reduceIte, LV.cells, AOp.dst, LV.I, LV.B, LV.U, LV.S, LV.nil, Nat.reduceEqDiff, Nat.reduceAdd, Nat.reduceMul, Nat.reduceSub, Nat.reduceLeDiff, Nat.reduceBEq, Nat.reduceDiv, Nat.reduceMod, Int.reduceToNat, Int.reduceLT, Int.reduceLE, Int.reduceAdd, Int.reduceSub, Int.reduceMul, Int.reduceEq, Int.reduceNeg, reduceCtorEq, resV, resAll, ARes.ev, LV.flat, ite_true, ite_false, exists_eq_left', exists_eq_left, keyOf, implies_true, fillC, capOf]
      refine ⟨hd9.stay g48.lt (by omega), ?_⟩
      refine callR_of (d_pick hd9.1 (by omega)) ?_
      rintro _ P10 ⟨⟨v9, rfl, _⟩, hd10⟩
      have g410 := hd10.live g49 (by omega)
      have g210 := hd10.live g29 (by omega)
      have gA10 := hd10.live gA9 (by omega)
      have gB10 := hd10.live gB9 (by omega)
      have gC10 := hd10.live gC9 (by omega)
      simp (disch := omega) only [↓SXd, SXu, slBounds, ↓sop, ↓aop, ↓reduceIte, LV.cells, AOp.dst, LV.I, LV.B, LV.U, LV.S, LV.nil, Nat.reduceEqDiff, Nat.reduceAdd, Nat.reduceMul, Nat.reduceSub, Nat.reduceLeDiff, Nat.reduceBEq, Nat.reduceDiv, Nat.reduceMod, Int.reduceToNat, Int.reduceLT, Int.reduceLE, Int.reduceAdd, Int.reduceSub, Int.reduceMul, Int.reduceEq, Int.reduceNeg, reduceCtorEq, resV, resAll, ARes.ev, LV.flat, ite_true, ite_false, exists_eq_left', exists_eq_left, keyOf, implies_true, fillC, capOf]
      refine ⟨hd10.stay g49.lt (by omega), ?_⟩
      refine memK_int gB10 (show i9 < fr.length by omega) fun P11 l1 l2 l3 => ?_
      have hD11 := ((hD8.trans hd9).trans hd10).keep (N' := P11) hpl htM (Nat.le_refl _) (by omega) fun q q1 => l3 q (by omega) (by have := hd9.2.1; have := hd10.2.1; have := hD8.2.1; omega)
      have g411 := live_step g410 (by omega) l3
      have g211 := live_step g210 (by omega) l3
      have gA11 := live_step gA10 (by omega) l3
      have gB11 := l2
      have gC11 := live_step gC10 (by omega) l3
      have hset9 : (fr.set i9 v9).length = fr.length := List.length_set
      simp (disch := omega) only [↓SXd, SXu, slBounds, ↓sop, ↓aop, ↓reduceIte, LV.cells, AOp.dst, LV.I, LV.B, LV.U, LV.S, LV.nil, Nat.reduceEqDiff, Nat.reduceAdd, Nat.reduceMul, Nat.reduceSub, Nat.reduceLeDiff, Nat.reduceBEq, Nat.reduceDiv, Nat.reduceMod, Int.reduceToNat, Int.reduceLT, Int.reduceLE, Int.reduceAdd, Int.reduceSub, Int.reduceMul, Int.reduceEq, Int.reduceNeg, reduceCtorEq, resV, resAll, ARes.ev, LV.flat, ite_true, ite_false, exists_eq_left', exists_eq_left, keyOf, implies_true, fillC, capOf]
      exact ⟨x, y, z, tp, fr.set i9 v9, sd.set i6 v6, A, B, C, _, by omega, hD11, g211, by rw [hset6, hset9]; exact g411, gA11, gB11, gC11, hAB, hAC, hBC, by omega, by omega, by omega, by omega, by omega, by omega, by omega⟩
    simp (disch := omega) only [k0, k1, ↓SXd, SXu, slBounds, ↓sop, ↓aop, ↓reduceIte, LV.cells, AOp.dst, LV.I, LV.B, LV.U, LV.S, LV.nil, Nat.reduceEqDiff, Nat.reduceAdd, Nat.reduceMul, Nat.reduceSub, Nat.reduceLeDiff, Nat.reduceBEq, Nat.reduceDiv, Nat.reduceMod, Int.reduceToNat, Int.reduceLT, Int.reduceLE, Int.reduceAdd, Int.reduceSub, Int.reduceMul, Int.reduceEq, Int.reduceNeg, reduceCtorEq, resV, resAll, ARes.ev, LV.flat, ite_true, ite_false, exists_eq_left', exists_eq_left, keyOf, implies_true, fillC, capOf]
    exact ⟨x, y, z, tp, fr, sd, A, B, C, a + 160 + 2, by omega, hD5, e2, e4, eA, eB, eC, hAB, hAC, hBC, by omega, by omega, by omega, by omega, by omega, by omega, by omega⟩
  clear hD5 e2 e4 eA eB eC hAB hAC hBC hl2 hl1 hl0 q2 q1 q0 hA hB' hC lA' lB' lC' hH hcl hul hull hN2 hN3 c2l hm3 hm4 hM1
  rintro fr' N6 ⟨x, y, z, tp, fr, sd, A, B, C, a', ha', hD6, e2, e4, eA, eB, eC, hAB, hAC, hBC, hA, hB2, hC, ht1, hf1, hs1, hm4, f0, f2, f4⟩
  have e4l := e4.lt
  have hM6 := hD6.2.1
  simp (disch := omega) only [f0, f2, f4, ↓SXd, SXu, slBounds, ↓sop, ↓aop, ↓reduceIte, LV.cells, AOp.dst, LV.I, LV.B, LV.U, LV.S, LV.nil, Nat.reduceEqDiff, Nat.reduceAdd, Nat.reduceMul, Nat.reduceSub, Nat.reduceLeDiff, Nat.reduceBEq, Nat.reduceDiv, Nat.reduceMod, Int.reduceToNat, Int.reduceLT, Int.reduceLE, Int.reduceAdd, Int.reduceSub, Int.reduceMul, Int.reduceEq, Int.reduceNeg, reduceCtorEq, resV, resAll, ARes.ev, LV.flat, ite_true, ite_false, exists_eq_left', exists_eq_left, keyOf, implies_true, fillC, capOf]
  refine callR_of (d_pick hD6.1 (by omega)) ?_
  rintro _ N7 ⟨⟨k, rfl, _⟩, hd7⟩
  have hD7 := hD6.trans hd7
  have c4 := hd7.live e4 (by omega)
  have c2 := hd7.live e2 (by omega)
  have cA := hd7.live eA (by omega)
  have cB := hd7.live eB (by omega)
  have cC := hd7.live eC (by omega)
  have hM7 := hD7.2.1
  have cAl := cA.lt
  have cBl := cB.lt
  have cCl := cC.lt
  have c2l := c2.lt
  refine put_cut (fun fr' N => ∃ (x y z : Int) (tp fr sd : List Int) (A B C a' : Nat), a' ≤ a + 180 ∧ DrawN M p t o bs a' N ∧ Live N M.length (.row [.I 0, .I 0, .I 0, .nil, .nil, .nil] true 0) ∧ Live N m4 (.row [.I x, .I y, .I z, .ref A 0 tp.length, .ref B 0 fr.length, .ref C 0 sd.length] true 0) ∧ Live N A (.row (intL tp) true 1) ∧ Live N B (.row (intL fr) true 1) ∧ Live N C (.row (intL sd) true 1) ∧ M.length < A ∧ M.length < B ∧ M.length < C ∧ tp.length ≤ 17 ∧ fr.length ≤ 17 ∧ sd.length ≤ 17 ∧ M.length < m4 ∧
    fr' 0 = .ptr p 0 ∧ fr' 2 = .ptr M.length 0 ∧ fr' 4 = .ptr m4 0) ?_ ?_
  · by_cases k0 : (k : Int) = 0
    · simp (disch := omega) only [f0, f2, f4, k0, c4.cell, splice, ↓SXd, SXu, slBounds, ↓sop, ↓aop, ↓reduceIte, LV.cells, AOp.dst, LV.I, LV.B, LV.U, LV.S, LV.nil, Nat.reduceEqDiff, Nat.reduceAdd, Nat.reduceMul, Nat.reduceSub, Nat.reduceLeDiff, Nat.reduceBEq, Nat.reduceDiv, Nat.reduceMod, Int.reduceToNat, Int.reduceLT, Int.reduceLE, Int.reduceAdd, Int.reduceSub, Int.reduceMul, Int.reduceEq, Int.reduceNeg, reduceCtorEq, resV, resAll, ARes.ev, LV.flat, ite_true, ite_false, exists_eq_left', exists_eq_left, keyOf, implies_true, fillC, capOf]
      refine appendK_int cA (by omega) fun N8 l1 l2 l3 => ?_
      have d4 := live_step c4 (cA.ne_esz c4 (by decide)).symm l3
      simp (disch := omega) only [f0, f2, f4, ↓SXd, SXu, slBounds, ↓sop, ↓aop, ↓reduceIte, LV.cells, AOp.dst, LV.I, LV.B, LV.U, LV.S, LV.nil, Nat.reduceEqDiff, Nat.reduceAdd, Nat.reduceMul, Nat.reduceSub, Nat.reduceLeDiff, Nat.reduceBEq, Nat.reduceDiv, Nat.reduceMod, Int.reduceToNat, Int.reduceLT, Int.reduceLE, Int.reduceAdd, Int.reduceSub, Int.reduceMul, Int.reduceEq, Int.reduceNeg, reduceCtorEq, resV, resAll, ARes.ev, LV.flat, ite_true, ite_false, exists_eq_left', exists_eq_left, keyOf, implies_true, fillC, capOf]
      refine memK_at d4 (show 3 < 6 by omega) fun N9 r1 r2 r3 => ?_
      have hne := l2.ne_esz d4 (by decide)
      have hne2 := cA.ne_esz c4 (by decide)
      have hneB := cB.ne_esz c4 (by decide)
      have hneC := cC.ne_esz c4 (by decide)
      simp (disch := omega) only [f0, f2, f4, ↓SXd, SXu, slBounds, ↓sop, ↓aop, ↓reduceIte, LV.cells, AOp.dst, LV.I, LV.B, LV.U, LV.S, LV.nil, Nat.reduceEqDiff, Nat.reduceAdd, Nat.reduceMul, Nat.reduceSub, Nat.reduceLeDiff, Nat.reduceBEq, Nat.reduceDiv, Nat.reduceMod, Int.reduceToNat, Int.reduceLT, Int.reduceLE, Int.reduceAdd, Int.reduceSub, Int.reduceMul, Int.reduceEq, Int.reduceNeg, reduceCtorEq, resV, resAll, ARes.ev, LV.flat, ite_true, ite_false, exists_eq_left', exists_eq_left, keyOf, implies_true, fillC, capOf]
      exact ⟨x, y, z, tp ++ [0], fr, sd, N7.length + 1, B, C, _, by omega, hD7.keep (N' := N9) hpl htM (Nat.le_refl _) (by omega) fun q q1 => by rw [r3 q (by omega) (by omega)]; exact l3 q (by omega) (by omega), live_step (live_step c2 (by omega) l3) (by omega) r3, r2, live_step l2 hne r3, live_step (live_step cB hAB.symm l3) hneB r3, live_step (live_step cC hAC.symm l3) hneC r3, by omega, by omega, by omega, by simp; omega, by omega, by omega, hm4⟩
    by_cases k1 : (k : Int) = 1
    · simp (disch := omega) only [f0, f2, f4, k0, k1, c4.cell, splice, ↓SXd, SXu, slBounds, ↓sop, ↓aop, ↓reduceIte, LV.cells, AOp.dst, LV.I, LV.B, LV.U, LV.S, LV.nil, Nat.reduceEqDiff, Nat.reduceAdd, Nat.reduceMul, Nat.reduceSub, Nat.reduceLeDiff, Nat.reduceBEq, Nat.reduceDiv, Nat.reduceMod, Int.reduceToNat, Int.reduceLT, Int.reduceLE, Int.reduceAdd, Int.reduceSub, Int.reduceMul, Int.reduceEq, Int.reduceNeg, reduceCtorEq, resV, resAll, ARes.ev, LV.flat, ite_true, ite_false, exists_eq_left', exists_eq_left, keyOf, implies_true, fillC, capOf]
      refine callR_of (d_amongNew (xs := [2, -1]) hD7.1 (by omega) (by simp) (by simp)) ?_
      rintro _ N8 ⟨⟨v, rfl, _⟩, hd8⟩
      have d4 := hd8.live c4 (by omega)
      have d2 := hd8.live c2 (by omega)
      have dA := hd8.live cA (by omega)
      have dB := hd8.live cB (by omega)
      have dC := hd8.live cC (by omega)
      have hD8 := hD7.trans hd8
      have hM8 := hd8.2.1
      simp (disch := omega) only [f0, f2, f4, ↓SXd, SXu, slBounds, ↓sop, ↓aop, ↓reduceIte, LV.cells, AOp.dst, LV.I, LV.B, LV.U, LV.S, LV.nil, Nat.reduceEqDiff, Nat.reduceAdd, Nat.reduceMul, Nat.reduceSub, Nat.reduceLeDiff, Nat.reduceBEq, Nat.reduceDiv, Nat.reduceMod, Int.reduceToNat, Int.reduceLT, Int.reduceLE, Int.reduceAdd, Int.reduceSub, Int.reduceMul, Int.reduceEq, Int.reduceNeg, reduceCtorEq, resV, resAll, ARes.ev, LV.flat, ite_true, ite_false, exists_eq_left', exists_eq_left, keyOf, implies_true, fillC, capOf]
      refine ⟨fun b hb => hd8.stay c4.lt (by omega) b (by rw [List.getElem?_append_left c4.lt] at hb; exact hb), ?_⟩
      refine memK_int dB (show 0 < fr.length by omega) fun N9 r1 r2 r3 => ?_
      have hneB := dB.ne_esz d4 (by decide)
      have hset : (fr.set 0 v).length = fr.length := List.length_set
      simp (disch := omega) only [f0, f2, f4, ↓SXd, SXu, slBounds, ↓sop, ↓aop, ↓reduceIte, LV.cells, AOp.dst, LV.I, LV.B, LV.U, LV.S, LV.nil, Nat.reduceEqDiff, Nat.reduceAdd, Nat.reduceMul, Nat.reduceSub, Nat.reduceLeDiff, Nat.reduceBEq, Nat.reduceDiv, Nat.reduceMod, Int.reduceToNat, Int.reduceLT, Int.reduceLE, Int.reduceAdd, Int.reduceSub, Int.reduceMul, Int.reduceEq, Int.reduceNeg, reduceCtorEq, resV, resAll, ARes.ev, LV.flat, ite_true, ite_false, exists_eq_left', exists_eq_left, keyOf, implies_true, fillC, capOf]
      exact ⟨x, y, z, tp, fr.set 0 v, sd, A, B, C, _, by omega, hD8.keep (N' := N9) hpl htM (Nat.le_refl _) (by omega) fun q q1 => r3 q (by omega) (by omega), live_step d2 (by omega) r3, by rw [hset]; exact live_step d4 hneB.symm r3, live_step dA hAB r3, r2, live_step dC hBC.symm r3, by omega, by omega, by omega, by omega, by omega, by omega, hm4⟩
    by_cases k2 : (k : Int) = 2
    · simp (disch := omega) only [f0, f2, f4, k0, k1, k2, splice, ↓SXd, SXu, slBounds, ↓sop, ↓aop, ↓reduceIte, LV.cells, AOp.dst, LV.I, LV.B, LV.U, LV.S, LV.nil, Nat.reduceEqDiff, Nat.reduceAdd, Nat.reduceMul, Nat.reduceSub, Nat.reduceLeDiff, Nat.reduceBEq, Nat.reduceDiv, Nat.reduceMod, Int.reduceToNat, Int.reduceLT, Int.reduceLE, Int.reduceAdd, Int.reduceSub, Int.reduceMul, Int.reduceEq, Int.reduceNeg, reduceCtorEq, resV, resAll, ARes.ev, LV.flat, ite_true, ite_false, exists_eq_left', exists_eq_left, keyOf, implies_true, fillC, capOf]
      refine memK_at c4.app (show 5 < 6 by omega) fun N9 r1 r2 r3 => ?_
      have hneA := cA.ne_esz c4 (by decide)
      have hneB := cB.ne_esz c4 (by decide)
      have c4l := c4.lt
      rw [List.length_append, List.length_singleton] at r1 r3
      have e9 : Live N9 N7.length (.row (intL []) true 1) := by
        unfold Live
        rw [r3 _ (by omega) (by omega)]
        exact Live.newj (j := 0) rfl
      have r3' : ∀ u, u ≠ m4 → u < N7.length → N9[u]? = N7[u]? := fun u h1 h2 => by rw [r3 u h1 (by omega)]; exact List.getElem?_append_left h2
      simp (disch := omega) only [f0, f2, f4, ↓SXd, SXu, slBounds, ↓sop, ↓aop, ↓reduceIte, LV.cells, AOp.dst, LV.I, LV.B, LV.U, LV.S, LV.nil, Nat.reduceEqDiff, Nat.reduceAdd, Nat.reduceMul, Nat.reduceSub, Nat.reduceLeDiff, Nat.reduceBEq, Nat.reduceDiv, Nat.reduceMod, Int.reduceToNat, Int.reduceLT, Int.reduceLE, Int.reduceAdd, Int.reduceSub, Int.reduceMul, Int.reduceEq, Int.reduceNeg, reduceCtorEq, resV, resAll, ARes.ev, LV.flat, ite_true, ite_false, exists_eq_left', exists_eq_left, keyOf, implies_true, fillC, capOf]
      exact ⟨x, y, z, tp, fr, [], A, B, N7.length, _, by omega, hD7.keep (N' := N9) hpl htM (Nat.le_refl _) (by omega) fun q q1 => r3' q (by omega) (by omega), live_step c2 (by omega) r3', r2, live_step cA hneA r3', live_step cB hneB r3', e9, by omega, by omega, by omega, by omega, by omega, by simp, hm4⟩
    by_cases k3 : (k : Int) = 3
    · simp (disch := omega) only [f0, f2, f4, k0, k1, k2, k3, splice, ↓SXd, SXu, slBounds, ↓sop, ↓aop, ↓reduceIte, LV.cells, AOp.dst, LV.I, LV.B, LV.U, LV.S, LV.nil, Nat.reduceEqDiff, Nat.reduceAdd, Nat.reduceMul, Nat.reduceSub, Nat.reduceLeDiff, Nat.reduceBEq, Nat.reduceDiv, Nat.reduceMod, Int.reduceToNat, Int.reduceLT, Int.reduceLE, Int.reduceAdd, Int.reduceSub, Int.reduceMul, Int.reduceEq, Int.reduceNeg, reduceCtorEq, resV, resAll, ARes.ev, LV.flat, ite_true, ite_false, exists_eq_left', exists_eq_left, keyOf, implies_true, fillC, capOf]
      refine callR_of (d_amongNew (xs := [0, 5, 4611686018427387904]) hD7.1 (by omega) (by simp) (by simp)) ?_
      rintro _ N8 ⟨⟨v, rfl, _⟩, hd8⟩
      have d4 := hd8.live c4 (by omega)
      have d2 := hd8.live c2 (by omega)
      have dA := hd8.live cA (by omega)
      have dB := hd8.live cB (by omega)
      have dC := hd8.live cC (by omega)
      have hD8 := hD7.trans hd8
      have hM8 := hd8.2.1
      simp (disch := omega) only [f0, f2, f4, ↓SXd, SXu, slBounds, ↓sop, ↓aop, ↓reduceIte, LV.cells, AOp.dst, LV.I, LV.B, LV.U, LV.S, LV.nil, Nat.reduceEqDiff, Nat.reduceAdd, Nat.reduceMul, Nat.reduceSub, Nat.reduceLeDiff, Nat.reduceBEq, Nat.reduceDiv, Nat.reduceMod, Int.reduceToNat, Int.reduceLT, Int.reduceLE, Int.reduceAdd, Int.reduceSub, Int.reduceMul, Int.reduceEq, Int.reduceNeg, reduceCtorEq, resV, resAll, ARes.ev, LV.flat, ite_true, ite_false, exists_eq_left', exists_eq_left, keyOf, implies_true, fillC, capOf]
      refine memK_at d4 (show 2 < 6 by omega) fun N9 r1 r2 r3 => ?_
      have hneA := dA.ne_esz d4 (by decide)
      have hneB := dB.ne_esz d4 (by decide)
      have hneC := dC.ne_esz d4 (by decide)
      simp (disch := omega) only [f0, f2, f4, ↓SXd, SXu, slBounds, ↓sop, ↓aop, ↓reduceIte, LV.cells, AOp.dst, LV.I, LV.B, LV.U, LV.S, LV.nil, Nat.reduceEqDiff, Nat.reduceAdd, Nat.reduceMul, Nat.reduceSub, Nat.reduceLeDiff, Nat.reduceBEq, Nat.reduceDiv, Nat.reduceMod, Int.reduceToNat, Int.reduceLT, Int.reduceLE, Int.reduceAdd, Int.reduceSub, Int.reduceMul, Int.reduceEq, Int.reduceNeg, reduceCtorEq, resV, resAll, ARes.ev, LV.flat, ite_true, ite_false, exists_eq_left', exists_eq_left, keyOf, implies_true, fillC, capOf]
      exact ⟨x, y, v, tp, fr, sd, A, B, C, _, by omega, hD8.keep (N' := N9) hpl htM (Nat.le_refl _) (by omega) fun q q1 => r3 q (by omega) (by omega), live_step d2 (by omega) r3, r2, live_step dA hneA r3, live_step dB hneB r3, live_step dC hneC r3, by omega, by omega, by omega, by omega, by omega, by omega, hm4⟩
    simp (disch := omega) only [f0, f2, f4, k0, k1, k2, k3, ↓SXd, SXu, slBounds, ↓sop, ↓aop, ↓reduceIte, LV.cells, AOp.dst, LV.I, LV.B, LV.U, LV.S, LV.nil, Nat.reduceEqDiff, Nat.reduceAdd, Nat.reduceMul, Nat.reduceSub, Nat.reduceLeDiff, Nat.reduceBEq, Nat.reduceDiv, Nat.reduceMod, Int.reduceToNat, Int.reduceLT, Int.reduceLE, Int.reduceAdd, Int.reduceSub, Int.reduceMul, Int.reduceEq, Int.reduceNeg, reduceCtorEq, resV, resAll, ARes.ev, LV.flat, ite_true, ite_false, exists_eq_left', exists_eq_left, keyOf, implies_true, fillC, capOf]
    exact ⟨x, y, z, tp, fr, sd, A, B, C, _, by omega, hD7, c2, c4, cA, cB, cC, by omega, by omega, by omega, by omega, by omega, by omega, hm4⟩
  clear hD6 hD7 hd7 e2 e4 eA eB eC c2 c4 cA cB cC hAB hAC hBC hA hB2 hC ht1 hf1 hs1 f0 f2 f4 hM6 hM7 cAl cBl cCl c2l e4l ha'
  rintro fr' N8 ⟨x, y, z, tp, fr, sd, A, B, C, a', ha', hD8, e2, e4, eA, eB, eC, hA, hB2, hC, ht1, hf1, hs1, hm4, f0, f2, f4⟩
  simp (disch := omega) only [f0, f2, f4, e4.cells, ↓SXd, SXu, slBounds, ↓sop, ↓aop, ↓reduceIte, LV.cells, AOp.dst, LV.I, LV.B, LV.U, LV.S, LV.nil, Nat.reduceEqDiff, Nat.reduceAdd, Nat.reduceMul, Nat.reduceSub, Nat.reduceLeDiff, Nat.reduceBEq, Nat.reduceDiv, Nat.reduceMod, Int.reduceToNat, Int.reduceLT, Int.reduceLE, Int.reduceAdd, Int.reduceSub, Int.reduceMul, Int.reduceEq, Int.reduceNeg, reduceCtorEq, resV, resAll, ARes.ev, LV.flat, ite_true, ite_false, exists_eq_left', exists_eq_left, keyOf, implies_true, fillC, capOf]
  refine memK_box e2 (by simp) fun N9 r1 r2 r3 => ?_
  have e2l := e2.lt
  simp (disch := omega) only [f0, f2, f4, r2.cells, ↓SXd, SXu, slBounds, ↓sop, ↓aop, ↓reduceIte, LV.cells, AOp.dst, LV.I, LV.B, LV.U, LV.S, LV.nil, Nat.reduceEqDiff, Nat.reduceAdd, Nat.reduceMul, Nat.reduceSub, Nat.reduceLeDiff, Nat.reduceBEq, Nat.reduceDiv, Nat.reduceMod, Int.reduceToNat, Int.reduceLT, Int.reduceLE, Int.reduceAdd, Int.reduceSub, Int.reduceMul, Int.reduceEq, Int.reduceNeg, reduceCtorEq, resV, resAll, ARes.ev, LV.flat, ite_true, ite_false, exists_eq_left', exists_eq_left, keyOf, implies_true, fillC, capOf]
  exact ⟨⟨x, y, z, tp, fr, sd, A, B, C, rfl, live_step eA (by omega) r3, live_step eB (by omega) r3, live_step eC (by omega) r3, by omega, by omega, by omega, ht1, hf1, hs1⟩, hD8.keep (N' := N9) hpl htM (by omega) (by omega) fun q q1 => r3 q (by omega) (by have := hD8.2.1; omega)⟩
section
variable {t o : Nat} {bs : List Nat} {M : Mem} (hB : Bytes M t o bs) (h255 : ∀ b ∈ bs, b ≤ 255) (hl : bs.length ≤ 1000000000)
include hB h255 hl
theorem d_DrawIsShadow : CallsR PG F.spec_DrawIsShadow [.ref t o bs.length] M fun v N => ShdL M v N ∧ Pre M N := by
  have htM := hB.lt
  refine callsR_run K.spec_DrawIsShadow rfl ?_
  simp (disch := omega) only [C.spec_DrawIsShadow, splice, ↓SXd, SXu, slBounds, ↓sop, ↓aop, ↓reduceIte, LV.cells, AOp.dst, LV.I, LV.B, LV.U, LV.S, LV.nil, Nat.reduceEqDiff, Nat.reduceAdd, Nat.reduceMul, Nat.reduceSub, Nat.reduceLeDiff, Nat.reduceBEq, Nat.reduceDiv, Nat.reduceMod, Int.reduceToNat, Int.reduceLT, Int.reduceLE, Int.reduceAdd, Int.reduceSub, Int.reduceMul, Int.reduceEq, Int.reduceNeg, reduceCtorEq, resV, resAll, ARes.ev, LV.flat, ite_true, ite_false, exists_eq_left', exists_eq_left, keyOf, implies_true, fillC, capOf]
  have hc := CurAt.new2 (b := some (.row [.I 0, .I 0, .I 0, .nil, .nil, .nil] true 0)) hB h255 hl
  refine callR_of (d_shadow3 hc (by omega)) ?_
  rintro _ N1 ⟨⟨x, y, z, tp, fr, sd, A, B, C, rfl, lA, lB, lC, hA, hB', hC, h1, h2, h3⟩, hd1⟩
  rw [List.length_append] at hA hB' hC
  simp only [List.length_cons, List.length_nil] at hA hB' hC
  have b2 : Live N1 M.length (.row [.I 0, .I 0, .I 0, .nil, .nil, .nil] true 0) := hd1.live Live.new (by omega)
  have hP1 : Pre M N1 := hd1.pre (Pre.app _ _) (by omega)
  simp (disch := omega) only [↓SXd, SXu, slBounds, ↓sop, ↓aop, ↓reduceIte, LV.cells, AOp.dst, LV.I, LV.B, LV.U, LV.S, LV.nil, Nat.reduceEqDiff, Nat.reduceAdd, Nat.reduceMul, Nat.reduceSub, Nat.reduceLeDiff, Nat.reduceBEq, Nat.reduceDiv, Nat.reduceMod, Int.reduceToNat, Int.reduceLT, Int.reduceLE, Int.reduceAdd, Int.reduceSub, Int.reduceMul, Int.reduceEq, Int.reduceNeg, reduceCtorEq, resV, resAll, ARes.ev, LV.flat, ite_true, ite_false, exists_eq_left', exists_eq_left, keyOf, implies_true, fillC, capOf]
  refine memK_box b2 (by simp) fun N5 i1 i2 i3 => ?_
  simp (disch := omega) only [i2.cells, ↓SXd, SXu, slBounds, ↓sop, ↓aop, ↓reduceIte, LV.cells, AOp.dst, LV.I, LV.B, LV.U, LV.S, LV.nil, Nat.reduceEqDiff, Nat.reduceAdd, Nat.reduceMul, Nat.reduceSub, Nat.reduceLeDiff, Nat.reduceBEq, Nat.reduceDiv, Nat.reduceMod, Int.reduceToNat, Int.reduceLT, Int.reduceLE, Int.reduceAdd, Int.reduceSub, Int.reduceMul, Int.reduceEq, Int.reduceNeg, reduceCtorEq, resV, resAll, ARes.ev, LV.flat, ite_true, ite_false, exists_eq_left', exists_eq_left, keyOf, implies_true, fillC, capOf]
  exact ⟨⟨x, y, z, tp, fr, sd, A, B, C, rfl, live_step lA (by omega) i3, live_step lB (by omega) i3, live_step lC (by omega) i3, by omega, by omega, by omega, h1, h2, h3⟩, pre_step hP1 (by omega) (j := 0) i1 i3⟩
theorem d_DrawFitTogether : CallsR PG F.spec_DrawFitTogether [.ref t o bs.length] M fun v N => ShdL M v N ∧ Pre M N := by
  refine callsR_run K.spec_DrawFitTogether rfl ?_
  simp (disch := omega) only [C.spec_DrawFitTogether, splice, ↓SXd, SXu, slBounds, ↓sop, ↓aop, ↓reduceIte, LV.cells, AOp.dst, LV.I, LV.B, LV.U, LV.S, LV.nil, Nat.reduceEqDiff, Nat.reduceAdd, Nat.reduceMul, Nat.reduceSub, Nat.reduceLeDiff, Nat.reduceBEq, Nat.reduceDiv, Nat.reduceMod, Int.reduceToNat, Int.reduceLT, Int.reduceLE, Int.reduceAdd, Int.reduceSub, Int.reduceMul, Int.reduceEq, Int.reduceNeg, reduceCtorEq, resV, resAll, ARes.ev, LV.flat, ite_true, ite_false, exists_eq_left', exists_eq_left, keyOf, implies_true, fillC, capOf]
  refine callR_of (d_DrawIsShadow (M := M ++ [some (.row [.I 0, .I 0, .I 0, .nil, .nil, .nil] true 0)]) (Has.app hB) h255 hl) ?_
  rintro _ N1 ⟨⟨x, y, z, tp, fr, sd, A, B, C, rfl, lA, lB, lC, hA, hB', hC, h1, h2, h3⟩, hp1⟩
  rw [List.length_append] at hA hB' hC
  simp only [List.length_cons, List.length_nil] at hA hB' hC
  have b2 : Live N1 M.length (.row [.I 0, .I 0, .I 0, .nil, .nil, .nil] true 0) := Live.new.pre hp1
  have hP1 : Pre M N1 := (Pre.app _ _).trans hp1
  have b2l := b2.lt
  simp (disch := omega) only [↓SXd, SXu, slBounds, ↓sop, ↓aop, ↓reduceIte, LV.cells, AOp.dst, LV.I, LV.B, LV.U, LV.S, LV.nil, Nat.reduceEqDiff, Nat.reduceAdd, Nat.reduceMul, Nat.reduceSub, Nat.reduceLeDiff, Nat.reduceBEq, Nat.reduceDiv, Nat.reduceMod, Int.reduceToNat, Int.reduceLT, Int.reduceLE, Int.reduceAdd, Int.reduceSub, Int.reduceMul, Int.reduceEq, Int.reduceNeg, reduceCtorEq, resV, resAll, ARes.ev, LV.flat, ite_true, ite_false, exists_eq_left', exists_eq_left, keyOf, implies_true, fillC, capOf]
  refine memK_box b2 (by simp) fun N5 i1 i2 i3 => ?_
  simp (disch := omega) only [i2.cells, ↓SXd, SXu, slBounds, ↓sop, ↓aop, ↓reduceIte, LV.cells, AOp.dst, LV.I, LV.B, LV.U, LV.S, LV.nil, Nat.reduceEqDiff, Nat.reduceAdd, Nat.reduceMul, Nat.reduceSub, Nat.reduceLeDiff, Nat.reduceBEq, Nat.reduceDiv, Nat.reduceMod, Int.reduceToNat, Int.reduceLT, Int.reduceLE, Int.reduceAdd, Int.reduceSub, Int.reduceMul, Int.reduceEq, Int.reduceNeg, reduceCtorEq, resV, resAll, ARes.ev, LV.flat, ite_true, ite_false, exists_eq_left', exists_eq_left, keyOf, implies_true, fillC, capOf]
  exact ⟨⟨x, y, z, tp, fr, sd, A, B, C, rfl, live_step lA (by omega) i3, live_step lB (by omega) i3, live_step lC (by omega) i3, by omega, by omega, by omega, h1, h2, h3⟩, pre_step hP1 (by omega) (j := 0) i1 i3⟩
theorem grt_len {x y z : Int} {tp fr sd : List Int} : ((grtOf x y z tp fr sd).getD Hp.none).cs.length ≤ 64 := by
  clear hB h255 hl
  unfold grtOf
  split
  · rename_i h
    exact (pick_ok h.1.1 _).len
  · simp [Hp.none]
theorem d_DrawIsShadowOf : CallsR PG F.spec_DrawIsShadowOf [.ref t o bs.length] M fun v N => (∃ g h : LV, v = .tup [g, h] ∧ ShdL M g N ∧ HeapL h N) ∧ Pre M N := by
  have htM := hB.lt
  refine callsR_run K.spec_DrawIsShadowOf rfl ?_
  simp (disch := omega) only [C.spec_DrawIsShadowOf, splice, ↓SXd, SXu, slBounds, ↓sop, ↓aop, ↓reduceIte, LV.cells, AOp.dst, LV.I, LV.B, LV.U, LV.S, LV.nil, Nat.reduceEqDiff, Nat.reduceAdd, Nat.reduceMul, Nat.reduceSub, Nat.reduceLeDiff, Nat.reduceBEq, Nat.reduceDiv, Nat.reduceMod, Int.reduceToNat, Int.reduceLT, Int.reduceLE, Int.reduceAdd, Int.reduceSub, Int.reduceMul, Int.reduceEq, Int.reduceNeg, reduceCtorEq, resV, resAll, ARes.ev, LV.flat, ite_true, ite_false, exists_eq_left', exists_eq_left, keyOf, implies_true, fillC, capOf]
  have hc := CurAt.new3 (b := some (.row [.I 0, .I 0, .I 0, .nil, .nil, .nil] true 0)) (c := some (.row [.I 0, .I 0, .I 0, .nil] true 0)) hB h255 hl
  refine callR_of (d_shadow3 hc (by omega)) ?_
  rintro _ N1 ⟨⟨x, y, z, tp, fr, sd, A, B, C, rfl, lA, lB, lC, hA, hB', hC, h1, h2, h3⟩, hd1⟩
  rw [List.length_append] at hA hB' hC
  simp only [List.length_cons, List.length_nil] at hA hB' hC
  have b2 : Live N1 M.length (.row [.I 0, .I 0, .I 0, .nil, .nil, .nil] true 0) := hd1.live Live.new (by omega)
  have b3 : Live N1 (M.length + 1) (.row [.I 0, .I 0, .I 0, .nil] true 0) := hd1.live (Live.newj (j := 1) rfl) (by omega)
  have hP1 : Pre M N1 := hd1.pre (Pre.app _ _) (by omega)
  have hlN := hd1.2.1
  simp only [List.length_append, List.length_cons, List.length_nil] at hlN
  have lAl := lA.lt
  have lBl := lB.lt
  have lCl := lC.lt
  simp (disch := omega) only [splice, ↓SXd, SXu, slBounds, ↓sop, ↓aop, ↓reduceIte, LV.cells, AOp.dst, LV.I, LV.B, LV.U, LV.S, LV.nil, Nat.reduceEqDiff, Nat.reduceAdd, Nat.reduceMul, Nat.reduceSub, Nat.reduceLeDiff, Nat.reduceBEq, Nat.reduceDiv, Nat.reduceMod, Int.reduceToNat, Int.reduceLT, Int.reduceLE, Int.reduceAdd, Int.reduceSub, Int.reduceMul, Int.reduceEq, Int.reduceNeg, reduceCtorEq, resV, resAll, ARes.ev, LV.flat, ite_true, ite_false, exists_eq_left', exists_eq_left, keyOf, implies_true, fillC, capOf]
  have hc1 : CurAt (N1 ++ [some (.row [.I x, .I y, .I z, .ref A 0 tp.length, .ref B 0 fr.length, .ref C 0 sd.length] true 0)]) (M.length + 2) t o bs 180 := hd1.1.pre (Pre.app _ _)
  have b5 : Live (N1 ++ [some (.row [.I x, .I y, .I z, .ref A 0 tp.length, .ref B 0 fr.length, .ref C 0 sd.length] true 0)]) N1.length (.row [.I x, .I y, .I z, .ref A 0 tp.length, .ref B 0 fr.length, .ref C 0 sd.length] true 0) := Live.new
  have c2 := b2.app (L := [some (.row [.I x, .I y, .I z, .ref A 0 tp.length, .ref B 0 fr.length, .ref C 0 sd.length] true 0)])
  have c3 := b3.app (L := [some (.row [.I x, .I y, .I z, .ref A 0 tp.length, .ref B 0 fr.length, .ref C 0 sd.length] true 0)])
  have cA := lA.app (L := [some (.row [.I x, .I y, .I z, .ref A 0 tp.length, .ref B 0 fr.length, .ref C 0 sd.length] true 0)])
  have cB := lB.app (L := [some (.row [.I x, .I y, .I z, .ref A 0 tp.length, .ref B 0 fr.length, .ref C 0 sd.length] true 0)])
  have cC := lC.app (L := [some (.row [.I x, .I y, .I z, .ref A 0 tp.length, .ref B 0 fr.length, .ref C 0 sd.length] true 0)])
  have hP2 : Pre M (N1 ++ [some (.row [.I x, .I y, .I z, .ref A 0 tp.length, .ref B 0 fr.length, .ref C 0 sd.length] true 0)]) := hP1.trans (Pre.app _ _)
  generalize hm5 : N1.length = m5 at b5 hlN ⊢
  generalize N1 ++ [some (Blk.row [.I x, .I y, .I z, .ref A 0 tp.length, .ref B 0 fr.length, .ref C 0 sd.length] true 0)] = N2 at hc1 b5 c2 c3 cA cB cC hP2 ⊢
  rw [hm5] at lAl lBl lCl
  clear b2 b3 lA lB lC hd1 hP1 hc
  have hgl := grt_len hB h255 hl (x := x) (y := y) (z := z) (tp := tp) (fr := fr) (sd := sd)
  have hgr := h_sGreatest (x := x) (y := y) (z := z) cA.has cB.has cC.has (by omega) (by omega) (by omega)
  refine callR_of hgr ?_
  clear hgr
  generalize grtOf x y z tp fr sd = r at hgl ⊢
  rintro _ N3 ⟨u, rfl, hu, hp3⟩
  generalize r.getD Hp.none = G at hgl hu ⊢
  generalize r.isSome = ok
  have hc3 : CurAt N3 (M.length + 2) t o bs 180 := hc1.pre hp3
  have hN3 := hp3.1
  have d5 := b5.pre hp3
  have d2 := c2.pre hp3
  have d3 := c3.pre hp3
  have dA := cA.pre hp3
  have dB := cB.pre hp3
  have dC := cC.pre hp3
  have hP3 : Pre M N3 := hP2.trans hp3
  have d5l := b5.lt
  simp (disch := omega) only [splice, ↓SXd, SXu, slBounds, ↓sop, ↓aop, ↓reduceIte, LV.cells, AOp.dst, LV.I, LV.B, LV.U, LV.S, LV.nil, Nat.reduceEqDiff, Nat.reduceAdd, Nat.reduceMul, Nat.reduceSub, Nat.reduceLeDiff, Nat.reduceBEq, Nat.reduceDiv, Nat.reduceMod, Int.reduceToNat, Int.reduceLT, Int.reduceLE, Int.reduceAdd, Int.reduceSub, Int.reduceMul, Int.reduceEq, Int.reduceNeg, reduceCtorEq, resV, resAll, ARes.ev, LV.flat, ite_true, ite_false, exists_eq_left', exists_eq_left, keyOf, implies_true, fillC, capOf]
  have b6 : Live (N3 ++ [some (.row [.I G.x, .I G.y, .I G.z, .ref u 0 G.cs.length] true 0)]) N3.length (.row [.I G.x, .I G.y, .I G.z, .ref u 0 G.cs.length] true 0) := Live.new
  have e5 := d5.app (L := [some (.row [.I G.x, .I G.y, .I G.z, .ref u 0 G.cs.length] true 0)])
  have e2 := d2.app (L := [some (.row [.I G.x, .I G.y, .I G.z, .ref u 0 G.cs.length] true 0)])
  have e3 := d3.app (L := [some (.row [.I G.x, .I G.y, .I G.z, .ref u 0 G.cs.length] true 0)])
  have eA := dA.app (L := [some (.row [.I G.x, .I G.y, .I G.z, .ref u 0 G.cs.length] true 0)])
  have eB := dB.app (L := [some (.row [.I G.x, .I G.y, .I G.z, .ref u 0 G.cs.length] true 0)])
  have eC := dC.app (L := [some (.row [.I G.x, .I G.y, .I G.z, .ref u 0 G.cs.length] true 0)])
  have eu := hu.app (L := [some (.row [.I G.x, .I G.y, .I G.z, .ref u 0 G.cs.length] true 0)])
  have hc4 : CurAt (N3 ++ [some (.row [.I G.x, .I G.y, .I G.z, .ref u 0 G.cs.length] true 0)]) (M.length + 2) t o bs 180 := hc3.pre (Pre.app _ _)
  have hP4 : Pre M (N3 ++ [some (.row [.I G.x, .I G.y, .I G.z, .ref u 0 G.cs.length] true 0)]) := hP3.trans (Pre.app _ _)
  generalize hm6 : N3.length = m6 at b6 hN3 ⊢
  generalize N3 ++ [some (Blk.row [.I G.x, .I G.y, .I G.z, .ref u 0 G.cs.length] true 0)] = N4 at b6 e5 e2 e3 eA eB eC eu hc4 hP4 ⊢
  clear hc3 d5 d2 d3 dA dB dC hP3 hp3 hu hc1 b5 c2 c3 cA cB cC hP2 hm6
  refine guard_cut (fun fr' N => ∃ a' : Nat, a' ≤ 190 ∧ CurAt N (M.length + 2) t o bs a' ∧ Pre M N ∧ Live N M.length (.row [.I 0, .I 0, .I 0, .nil, .nil, .nil] true 0) ∧ Live N (M.length + 1) (.row [.I 0, .I 0, .I 0, .nil] true 0) ∧ Live N m5 (.row [.I x, .I y, .I z, .ref A 0 tp.length, .ref B 0 fr.length, .ref C 0 sd.length] true 0) ∧ Live N A (.row (intL tp) true 1) ∧ Live N B (.row (intL fr) true 1) ∧ Live N C (.row (intL sd) true 1) ∧
    fr' 2 = .ptr M.length 0 ∧ fr' 3 = .ptr (M.length + 1) 0 ∧ fr' 4 = .ptr (M.length + 2) 0 ∧ fr' 5 = .ptr m5 0) ?_ ?_
  · cases ok
    · simp (disch := omega) only [↓SXd, SXu, slBounds, ↓sop, ↓aop, ↓reduceIte, LV.cells, AOp.dst, LV.I, LV.B, LV.U, LV.S, LV.nil, Nat.reduceEqDiff, Nat.reduceAdd, Nat.reduceMul, Nat.reduceSub, Nat.reduceLeDiff, Nat.reduceBEq, Nat.reduceDiv, Nat.reduceMod, Int.reduceToNat, Int.reduceLT, Int.reduceLE, Int.reduceAdd, Int.reduceSub, Int.reduceMul, Int.reduceEq, Int.reduceNeg, reduceCtorEq, resV, resAll, ARes.ev, LV.flat, ite_true, ite_false, exists_eq_left', exists_eq_left, keyOf, implies_true, fillC, capOf]
      exact ⟨180, by omega, hc4, hP4, e2, e3, e5, eA, eB, eC⟩
    simp (disch := omega) only [↓SXd, SXu, slBounds, ↓sop, ↓aop, ↓reduceIte, LV.cells, AOp.dst, LV.I, LV.B, LV.U, LV.S, LV.nil, Nat.reduceEqDiff, Nat.reduceAdd, Nat.reduceMul, Nat.reduceSub, Nat.reduceLeDiff, Nat.reduceBEq, Nat.reduceDiv, Nat.reduceMod, Int.reduceToNat, Int.reduceLT, Int.reduceLE, Int.reduceAdd, Int.reduceSub, Int.reduceMul, Int.reduceEq, Int.reduceNeg, reduceCtorEq, resV, resAll, ARes.ev, LV.flat, ite_true, ite_false, exists_eq_left', exists_eq_left, keyOf, implies_true, fillC, capOf]
    refine callR_of (d_one hc4 (by omega)) ?_
    rintro _ N5 ⟨⟨b, rfl⟩, hd5⟩
    have hup := hc4.ne3 eu
    have g2 := hd5.live e2 (by omega)
    have g3 := hd5.live e3 (by omega)
    have g5 := hd5.live e5 (by omega)
    have gA := hd5.live eA (by omega)
    have gB := hd5.live eB (by omega)
    have gC := hd5.live eC (by omega)
    have g6 := hd5.live b6 (by omega)
    have gu := hd5.live eu hup
    have hP5 : Pre M N5 := hd5.pre hP4 (by omega)
    cases b
    rotate_left
    · simp (disch := omega) only [↓SXd, SXu, slBounds, ↓sop, ↓aop, ↓reduceIte, LV.cells, AOp.dst, LV.I, LV.B, LV.U, LV.S, LV.nil, Nat.reduceEqDiff, Nat.reduceAdd, Nat.reduceMul, Nat.reduceSub, Nat.reduceLeDiff, Nat.reduceBEq, Nat.reduceDiv, Nat.reduceMod, Int.reduceToNat, Int.reduceLT, Int.reduceLE, Int.reduceAdd, Int.reduceSub, Int.reduceMul, Int.reduceEq, Int.reduceNeg, reduceCtorEq, resV, resAll, ARes.ev, LV.flat, ite_true, ite_false, exists_eq_left', exists_eq_left, keyOf, implies_true, fillC, capOf]
      exact ⟨_, by omega, hd5.1, hP5, g2, g3, g5, gA, gB, gC⟩
    simp (disch := omega) only [↓SXd, SXu, slBounds, ↓sop, ↓aop, ↓reduceIte, LV.cells, AOp.dst, LV.I, LV.B, LV.U, LV.S, LV.nil, Nat.reduceEqDiff, Nat.reduceAdd, Nat.reduceMul, Nat.reduceSub, Nat.reduceLeDiff, Nat.reduceBEq, Nat.reduceDiv, Nat.reduceMod, Int.reduceToNat, Int.reduceLT, Int.reduceLE, Int.reduceAdd, Int.reduceSub, Int.reduceMul, Int.reduceEq, Int.reduceNeg, reduceCtorEq, resV, resAll, ARes.ev, LV.flat, ite_true, ite_false, exists_eq_left', exists_eq_left, keyOf, implies_true, fillC, capOf]
    refine callR_of (d_pick hd5.1 (by omega)) ?_
    rintro _ N6 ⟨⟨k, rfl, hk3⟩, hd6⟩
    have hup5 := hd5.1.ne3 gu
    have i2 := hd6.live g2 (by omega)
    have i3 := hd6.live g3 (by omega)
    have i5 := hd6.live g5 (by omega)
    have iA := hd6.live gA (by omega)
    have iB := hd6.live gB (by omega)
    have iC := hd6.live gC (by omega)
    have i6 := hd6.live g6 (by omega)
    have iu := hd6.live gu hup5
    have hP6 : Pre M N6 := hd6.pre hP5 (by omega)
    simp (disch := omega) only [↓SXd, SXu, slBounds, ↓sop, ↓aop, ↓reduceIte, LV.cells, AOp.dst, LV.I, LV.B, LV.U, LV.S, LV.nil, Nat.reduceEqDiff, Nat.reduceAdd, Nat.reduceMul, Nat.reduceSub, Nat.reduceLeDiff, Nat.reduceBEq, Nat.reduceDiv, Nat.reduceMod, Int.reduceToNat, Int.reduceLT, Int.reduceLE, Int.reduceAdd, Int.reduceSub, Int.reduceMul, Int.reduceEq, Int.reduceNeg, reduceCtorEq, resV, resAll, ARes.ev, LV.flat, ite_true, ite_false, exists_eq_left', exists_eq_left, keyOf, implies_true, fillC, capOf]
    refine ev_loop (fun m fr' N => ∃ (a' u : Nat) (x' y' z' : Int) (cs : List Cell), a' + 2 * m ≤ 190 ∧ cs.length ≤ 64 ∧ CurAt N (M.length + 2) t o bs a' ∧ Pre M N ∧ Live N M.length (.row [.I 0, .I 0, .I 0, .nil, .nil, .nil] true 0) ∧ Live N (M.length + 1) (.row [.I 0, .I 0, .I 0, .nil] true 0) ∧ Live N m5 (.row [.I x, .I y, .I z, .ref A 0 tp.length, .ref B 0 fr.length, .ref C 0 sd.length] true 0) ∧ Live N m6 (.row [.I x', .I y', .I z', .ref u 0 cs.length] true 0) ∧ Live N A (.row (intL tp) true 1) ∧ Live N B (.row (intL fr) true 1) ∧ Live N C (.row (intL sd) true 1) ∧ Live N u (.row (triL cs) true 3) ∧
      fr' 2 = .ptr M.length 0 ∧ fr' 3 = .ptr (M.length + 1) 0 ∧ fr' 4 = .ptr (M.length + 2) 0 ∧ fr' 5 = .ptr m5 0 ∧ fr' 6 = .ptr m6 0 ∧ fr' 8 = .I m) k
      ⟨_, u, G.x, G.y, G.z, G.cs, by omega, hgl, hd6.1, hP6, i2, i3, i5, i6, iA, iB, iC, iu, rfl, rfl, rfl, rfl, rfl, rfl⟩ ?_
    clear i2 i3 i5 iA iB iC i6 iu g2 g3 g5 gA gB gC g6 gu e2 e3 e5 eA eB eC eu b6 hc4 hd5 hd6 hP4 hP5 hP6
    rintro m fr' N7 ⟨a', u, x', y', z', cs, ha', hcl, hcur, hP7, i2, i3, i5, i6, iA, iB, iC, iu, f2, f3, f4, f5, f6, f8⟩
    have i5l := i5.lt
    have i6l := i6.lt
    have fin : ∀ {P : Prop}, P → P := fun h => h
    by_cases hm : ((m : Nat) : Int) > 0
    · by_cases hc0 : ((cs.length : Nat) : Int) > 0
      · obtain ⟨m', rfl⟩ : ∃ m', m = m' + 1 := ⟨m - 1, by omega⟩
        simp (disch := omega) only [f2, f3, f4, f5, f6, f8, hm, hc0, i6.cell, i6.cells, ↓SXd, SXu, slBounds, ↓sop, ↓aop, ↓reduceIte, LV.cells, AOp.dst, LV.I, LV.B, LV.U, LV.S, LV.nil, Nat.reduceEqDiff, Nat.reduceAdd, Nat.reduceMul, Nat.reduceSub, Nat.reduceLeDiff, Nat.reduceBEq, Nat.reduceDiv, Nat.reduceMod, Int.reduceToNat, Int.reduceLT, Int.reduceLE, Int.reduceAdd, Int.reduceSub, Int.reduceMul, Int.reduceEq, Int.reduceNeg, reduceCtorEq, resV, resAll, ARes.ev, LV.flat, ite_true, ite_false, exists_eq_left', exists_eq_left, keyOf, implies_true, fillC, capOf]
        refine callR_of (d_pick hcur (by omega)) ?_
        rintro _ N8 ⟨⟨j, rfl, hj⟩, hd8⟩
        have hup := hcur.ne3 iu
        have j2 := hd8.live i2 (by omega)
        have j3 := hd8.live i3 (by omega)
        have j5 := hd8.live i5 (by omega)
        have jA := hd8.live iA (by omega)
        have jB := hd8.live iB (by omega)
        have jC := hd8.live iC (by omega)
        have j6 := hd8.live i6 (by omega)
        have ju := hd8.live iu hup
        have hP8 : Pre M N8 := hd8.pre hP7 (by omega)
        have hg := ju.tri0 (k := j) (by omega)
        generalize cs.getD j default = c at hg
        simp (disch := omega) only [f2, f3, f4, f5, f6, f8, ↓SXd, SXu, slBounds, ↓sop, ↓aop, ↓reduceIte, LV.cells, AOp.dst, LV.I, LV.B, LV.U, LV.S, LV.nil, Nat.reduceEqDiff, Nat.reduceAdd, Nat.reduceMul, Nat.reduceSub, Nat.reduceLeDiff, Nat.reduceBEq, Nat.reduceDiv, Nat.reduceMod, Int.reduceToNat, Int.reduceLT, Int.reduceLE, Int.reduceAdd, Int.reduceSub, Int.reduceMul, Int.reduceEq, Int.reduceNeg, reduceCtorEq, resV, resAll, ARes.ev, LV.flat, ite_true, ite_false, exists_eq_left', exists_eq_left, keyOf, implies_true, fillC, capOf]
        refine ⟨hd8.stay i6l (by omega), ?_⟩
        simp (disch := omega) only [f2, f3, f4, f5, f6, f8, hg, Cell.row, Nat.mul_one, Nat.zero_add, ↓SXd, SXu, slBounds, ↓sop, ↓aop, ↓reduceIte, LV.cells, AOp.dst, LV.I, LV.B, LV.U, LV.S, LV.nil, Nat.reduceEqDiff, Nat.reduceAdd, Nat.reduceMul, Nat.reduceSub, Nat.reduceLeDiff, Nat.reduceBEq, Nat.reduceDiv, Nat.reduceMod, Int.reduceToNat, Int.reduceLT, Int.reduceLE, Int.reduceAdd, Int.reduceSub, Int.reduceMul, Int.reduceEq, Int.reduceNeg, reduceCtorEq, resV, resAll, ARes.ev, LV.flat, ite_true, ite_false, exists_eq_left', exists_eq_left, keyOf, implies_true, fillC, capOf]
        refine callH_of (h_l2Without (a := c.a) (b := c.b) (c := c.c) ju.has (by omega)) ?_
        intro v N9 hv hp9 hb9
        have hfl := List.length_filter_le (fun d => !decide (d = (⟨c.a, c.b, c.c⟩ : Cell))) cs
        generalize cs.filter (fun d => !decide (d = (⟨c.a, c.b, c.c⟩ : Cell))) = ds at hb9 hfl ⊢
        have hN9 := hp9.1
        have hN8 := hd8.2.1
        simp (disch := omega) only [f2, f3, f4, f5, f6, f8, ↓SXd, SXu, slBounds, ↓sop, ↓aop, ↓reduceIte, LV.cells, AOp.dst, LV.I, LV.B, LV.U, LV.S, LV.nil, Nat.reduceEqDiff, Nat.reduceAdd, Nat.reduceMul, Nat.reduceSub, Nat.reduceLeDiff, Nat.reduceBEq, Nat.reduceDiv, Nat.reduceMod, Int.reduceToNat, Int.reduceLT, Int.reduceLE, Int.reduceAdd, Int.reduceSub, Int.reduceMul, Int.reduceEq, Int.reduceNeg, reduceCtorEq, resV, resAll, ARes.ev, LV.flat, ite_true, ite_false, exists_eq_left', exists_eq_left, keyOf, implies_true, fillC, capOf]
        refine memK_box (j6.pre hp9) (by simp) fun N10 r1 r2 r3 => ?_
        have hm1 : ((m' + 1 : Nat) : Int) - 1 = (m' : Int) := by omega
        have hne2 := hb9.ne_esz (j6.pre hp9) (by decide)
        have hneA := (jA.pre hp9).ne_esz (j6.pre hp9) (by decide)
        have hneB := (jB.pre hp9).ne_esz (j6.pre hp9) (by decide)
        have hneC := (jC.pre hp9).ne_esz (j6.pre hp9) (by decide)
        simp (disch := omega) only [f2, f3, f4, f5, f6, f8, hm1, ↓SXd, SXu, slBounds, ↓sop, ↓aop, ↓reduceIte, LV.cells, AOp.dst, LV.I, LV.B, LV.U, LV.S, LV.nil, Nat.reduceEqDiff, Nat.reduceAdd, Nat.reduceMul, Nat.reduceSub, Nat.reduceLeDiff, Nat.reduceBEq, Nat.reduceDiv, Nat.reduceMod, Int.reduceToNat, Int.reduceLT, Int.reduceLE, Int.reduceAdd, Int.reduceSub, Int.reduceMul, Int.reduceEq, Int.reduceNeg, reduceCtorEq, resV, resAll, ARes.ev, LV.flat, ite_true, ite_false, exists_eq_left', exists_eq_left, keyOf, implies_true, fillC, capOf]
        exact ⟨m', by omega, a' + 2, v, x', y', z', ds, by omega, by omega, (hd8.1.pre hp9).stepped (by omega) (by omega) r3, pre_step (hP8.trans hp9) (by omega) (j := 0) r1 r3, live_step (j2.pre hp9) (by omega) r3, live_step (j3.pre hp9) (by omega) r3, live_step (j5.pre hp9) (by omega) r3, r2, live_step (jA.pre hp9) hneA r3, live_step (jB.pre hp9) hneB r3, live_step (jC.pre hp9) hneC r3, live_step hb9 hne2 r3, f2, f3, f4, f5, f6, rfl⟩
      · simp (disch := omega) only [f2, f3, f4, f5, f6, f8, hm, hc0, i6.cell, i5.cells, i6.cells, ↓SXd, SXu, slBounds, ↓sop, ↓aop, ↓reduceIte, LV.cells, AOp.dst, LV.I, LV.B, LV.U, LV.S, LV.nil, Nat.reduceEqDiff, Nat.reduceAdd, Nat.reduceMul, Nat.reduceSub, Nat.reduceLeDiff, Nat.reduceBEq, Nat.reduceDiv, Nat.reduceMod, Int.reduceToNat, Int.reduceLT, Int.reduceLE, Int.reduceAdd, Int.reduceSub, Int.reduceMul, Int.reduceEq, Int.reduceNeg, reduceCtorEq, resV, resAll, ARes.ev, LV.flat, ite_true, ite_false, exists_eq_left', exists_eq_left, keyOf, implies_true, fillC, capOf]
        refine memK_box i2 (by simp) fun N18 r1 r2 r3 => ?_
        simp (disch := omega) only [f2, f3, f4, f5, f6, f8, ↓SXd, SXu, slBounds, ↓sop, ↓aop, ↓reduceIte, LV.cells, AOp.dst, LV.I, LV.B, LV.U, LV.S, LV.nil, Nat.reduceEqDiff, Nat.reduceAdd, Nat.reduceMul, Nat.reduceSub, Nat.reduceLeDiff, Nat.reduceBEq, Nat.reduceDiv, Nat.reduceMod, Int.reduceToNat, Int.reduceLT, Int.reduceLE, Int.reduceAdd, Int.reduceSub, Int.reduceMul, Int.reduceEq, Int.reduceNeg, reduceCtorEq, resV, resAll, ARes.ev, LV.flat, ite_true, ite_false, exists_eq_left', exists_eq_left, keyOf, implies_true, fillC, capOf]
        refine ⟨fun b hb => by rw [r3 _ (by omega) i6l]; exact hb, ?_⟩
        have i3' := live_step i3 (by omega) r3
        refine memK_box i3' (by simp) fun N19 s1 s2 s3 => ?_
        have r2' := live_step r2 (by omega) s3
        have hu2 := iu.ne_esz i2 (by decide)
        have hu3 := iu.ne_esz i3 (by decide)
        simp (disch := omega) only [f2, f3, f4, f5, f6, f8, r2'.cells, s2.cells, ↓SXd, SXu, slBounds, ↓sop, ↓aop, ↓reduceIte, LV.cells, AOp.dst, LV.I, LV.B, LV.U, LV.S, LV.nil, Nat.reduceEqDiff, Nat.reduceAdd, Nat.reduceMul, Nat.reduceSub, Nat.reduceLeDiff, Nat.reduceBEq, Nat.reduceDiv, Nat.reduceMod, Int.reduceToNat, Int.reduceLT, Int.reduceLE, Int.reduceAdd, Int.reduceSub, Int.reduceMul, Int.reduceEq, Int.reduceNeg, reduceCtorEq, resV, resAll, ARes.ev, LV.flat, ite_true, ite_false, exists_eq_left', exists_eq_left, keyOf, implies_true, fillC, capOf]
        exact ⟨⟨_, _, rfl, ⟨x, y, z, tp, fr, sd, A, B, C, rfl, live_step (live_step iA (by omega) r3) (by omega) s3, live_step (live_step iB (by omega) r3) (by omega) s3, live_step (live_step iC (by omega) r3) (by omega) s3, by omega, by omega, by omega, h1, h2, h3⟩, ⟨x', y', z', cs, u, rfl, live_step (live_step iu hu2 r3) hu3 s3, by omega⟩⟩, pre_step (pre_step hP7 (by omega) (j := 0) r1 r3) (by omega) (j := 0) s1 s3⟩
    · simp (disch := omega) only [f2, f3, f4, f5, f6, f8, hm, i5.cells, i6.cells, ↓SXd, SXu, slBounds, ↓sop, ↓aop, ↓reduceIte, LV.cells, AOp.dst, LV.I, LV.B, LV.U, LV.S, LV.nil, Nat.reduceEqDiff, Nat.reduceAdd, Nat.reduceMul, Nat.reduceSub, Nat.reduceLeDiff, Nat.reduceBEq, Nat.reduceDiv, Nat.reduceMod, Int.reduceToNat, Int.reduceLT, Int.reduceLE, Int.reduceAdd, Int.reduceSub, Int.reduceMul, Int.reduceEq, Int.reduceNeg, reduceCtorEq, resV, resAll, ARes.ev, LV.flat, ite_true, ite_false, exists_eq_left', exists_eq_left, keyOf, implies_true, fillC, capOf]
      refine memK_box i2 (by simp) fun N18 r1 r2 r3 => ?_
      simp (disch := omega) only [f2, f3, f4, f5, f6, f8, ↓SXd, SXu, slBounds, ↓sop, ↓aop, ↓reduceIte, LV.cells, AOp.dst, LV.I, LV.B, LV.U, LV.S, LV.nil, Nat.reduceEqDiff, Nat.reduceAdd, Nat.reduceMul, Nat.reduceSub, Nat.reduceLeDiff, Nat.reduceBEq, Nat.reduceDiv, Nat.reduceMod, Int.reduceToNat, Int.reduceLT, Int.reduceLE, Int.reduceAdd, Int.reduceSub, Int.reduceMul, Int.reduceEq, Int.reduceNeg, reduceCtorEq, resV, resAll, ARes.ev, LV.flat, ite_true, ite_false, exists_eq_left', exists_eq_left, keyOf, implies_true, fillC, capOf]
      refine ⟨fun b hb => by rw [r3 _ (by omega) i6l]; exact hb, ?_⟩
      have i3' := live_step i3 (by omega) r3
      refine memK_box i3' (by simp) fun N19 s1 s2 s3 => ?_
      have r2' := live_step r2 (by omega) s3
      have hu2 := iu.ne_esz i2 (by decide)
      have hu3 := iu.ne_esz i3 (by decide)
      simp (disch := omega) only [f2, f3, f4, f5, f6, f8, r2'.cells, s2.cells, ↓SXd, SXu, slBounds, ↓sop, ↓aop, ↓reduceIte, LV.cells, AOp.dst, LV.I, LV.B, LV.U, LV.S, LV.nil, Nat.reduceEqDiff, Nat.reduceAdd, Nat.reduceMul, Nat.reduceSub, Nat.reduceLeDiff, Nat.reduceBEq, Nat.reduceDiv, Nat.reduceMod, Int.reduceToNat, Int.reduceLT, Int.reduceLE, Int.reduceAdd, Int.reduceSub, Int.reduceMul, Int.reduceEq, Int.reduceNeg, reduceCtorEq, resV, resAll, ARes.ev, LV.flat, ite_true, ite_false, exists_eq_left', exists_eq_left, keyOf, implies_true, fillC, capOf]
      exact ⟨⟨_, _, rfl, ⟨x, y, z, tp, fr, sd, A, B, C, rfl, live_step (live_step iA (by omega) r3) (by omega) s3, live_step (live_step iB (by omega) r3) (by omega) s3, live_step (live_step iC (by omega) r3) (by omega) s3, by omega, by omega, by omega, h1, h2, h3⟩, ⟨x', y', z', cs, u, rfl, live_step (live_step iu hu2 r3) hu3 s3, by omega⟩⟩, pre_step (pre_step hP7 (by omega) (j := 0) r1 r3) (by omega) (j := 0) s1 s3⟩
  · clear b6 e5 e2 e3 eA eB eC eu hc4 hP4
    rintro fr' N5 ⟨a', ha', hcur, hP5, g2, g3, g5, gA, gB, gC, f2, f3, f4, f5⟩
    simp (disch := omega) only [f2, f3, f4, f5, g5.cells, ↓SXd, SXu, slBounds, ↓sop, ↓aop, ↓reduceIte, LV.cells, AOp.dst, LV.I, LV.B, LV.U, LV.S, LV.nil, Nat.reduceEqDiff, Nat.reduceAdd, Nat.reduceMul, Nat.reduceSub, Nat.reduceLeDiff, Nat.reduceBEq, Nat.reduceDiv, Nat.reduceMod, Int.reduceToNat, Int.reduceLT, Int.reduceLE, Int.reduceAdd, Int.reduceSub, Int.reduceMul, Int.reduceEq, Int.reduceNeg, reduceCtorEq, resV, resAll, ARes.ev, LV.flat, ite_true, ite_false, exists_eq_left', exists_eq_left, keyOf, implies_true, fillC, capOf]
    refine callR_of (d_heapE hcur (by omega)) ?_
    rintro _ N6 ⟨⟨x', y', z', cs, u', rfl, hu', hul', hcl'⟩, hd6⟩
    have j2 := hd6.live g2 (by omega)
    have j3 := hd6.live g3 (by omega)
    have jA := hd6.live gA (by omega)
    have jB := hd6.live gB (by omega)
    have jC := hd6.live gC (by omega)
    have hP6 : Pre M N6 := hd6.pre hP5 (by omega)
    simp (disch := omega) only [f2, f3, f4, f5, ↓SXd, SXu, slBounds, ↓sop, ↓aop, ↓reduceIte, LV.cells, AOp.dst, LV.I, LV.B, LV.U, LV.S, LV.nil, Nat.reduceEqDiff, Nat.reduceAdd, Nat.reduceMul, Nat.reduceSub, Nat.reduceLeDiff, Nat.reduceBEq, Nat.reduceDiv, Nat.reduceMod, Int.reduceToNat, Int.reduceLT, Int.reduceLE, Int.reduceAdd, Int.reduceSub, Int.reduceMul, Int.reduceEq, Int.reduceNeg, reduceCtorEq, resV, resAll, ARes.ev, LV.flat, ite_true, ite_false, exists_eq_left', exists_eq_left, keyOf, implies_true, fillC, capOf]
    refine ⟨hd6.stay g5.lt (by omega), ?_⟩
    refine memK_box j2 (by simp) fun N18 r1 r2 r3 => ?_
    simp (disch := omega) only [f2, f3, f4, f5, ↓SXd, SXu, slBounds, ↓sop, ↓aop, ↓reduceIte, LV.cells, AOp.dst, LV.I, LV.B, LV.U, LV.S, LV.nil, Nat.reduceEqDiff, Nat.reduceAdd, Nat.reduceMul, Nat.reduceSub, Nat.reduceLeDiff, Nat.reduceBEq, Nat.reduceDiv, Nat.reduceMod, Int.reduceToNat, Int.reduceLT, Int.reduceLE, Int.reduceAdd, Int.reduceSub, Int.reduceMul, Int.reduceEq, Int.reduceNeg, reduceCtorEq, resV, resAll, ARes.ev, LV.flat, ite_true, ite_false, exists_eq_left', exists_eq_left, keyOf, implies_true, fillC, capOf]
    have i3' := live_step j3 (by omega) r3
    refine memK_box i3' (by simp) fun N19 s1 s2 s3 => ?_
    have r2' := live_step r2 (by omega) s3
    have hu2 := hu'.ne_esz j2 (by decide)
    have hu3 := hu'.ne_esz j3 (by decide)
    simp (disch := omega) only [f2, f3, f4, f5, r2'.cells, s2.cells, ↓SXd, SXu, slBounds, ↓sop, ↓aop, ↓reduceIte, LV.cells, AOp.dst, LV.I, LV.B, LV.U, LV.S, LV.nil, Nat.reduceEqDiff, Nat.reduceAdd, Nat.reduceMul, Nat.reduceSub, Nat.reduceLeDiff, Nat.reduceBEq, Nat.reduceDiv, Nat.reduceMod, Int.reduceToNat, Int.reduceLT, Int.reduceLE, Int.reduceAdd, Int.reduceSub, Int.reduceMul, Int.reduceEq, Int.reduceNeg, reduceCtorEq, resV, resAll, ARes.ev, LV.flat, ite_true, ite_false, exists_eq_left', exists_eq_left, keyOf, implies_true, fillC, capOf]
    exact ⟨⟨_, _, rfl, ⟨x, y, z, tp, fr, sd, A, B, C, rfl, live_step (live_step jA (by omega) r3) (by omega) s3, live_step (live_step jB (by omega) r3) (by omega) s3, live_step (live_step jC (by omega) r3) (by omega) s3, by omega, by omega, by omega, h1, h2, h3⟩, ⟨x', y', z', cs, u', rfl, live_step (live_step hu' hu2 r3) hu3 s3, by omega⟩⟩, pre_step (pre_step hP6 (by omega) (j := 0) r1 r3) (by omega) (j := 0) s1 s3⟩
end
end Go.Ab

/- The abstract code of some functions (written by a program of mine from the translation, by way of prepF). -/
namespace Go.Ab.C
open Go.Ab
def laws_vShadow : AFn :=
 ⟨2, 45, [.tmp 4],
 .seq (.ops [(none, .box 2 (.t 0)),
 (none, .box 3 (.t 1)),
 (none, .mv 4 (.c (.B false)))])
 (.seq (.ops [(none, .fieldAddr 5 (.t 2) 0),
 (none, .load1 6 (.t 5)),
 (none, .fieldAddr 7 (.t 3) 0),
 (none, .load1 8 (.t 7)),
 (none, .bin 9 .eql (.t 6) (.t 8)),
 (none, .mv 10 (.t 9)),
 (some (10, true), .fieldAddr 11 (.t 2) 1),
 (some (10, true), .load1 12 (.t 11)),
 (some (10, true), .fieldAddr 13 (.t 3) 1),
 (some (10, true), .load1 14 (.t 13)),
 (some (10, true), .bin 15 .eql (.t 12) (.t 14)),
 (none, .pick 16 (.t 10) (.t 15) (.c (.B false))),
 (none, .mv 17 (.t 16)),
 (some (17, true), .fieldAddr 18 (.t 2) 2),
 (some (17, true), .load1 19 (.t 18)),
 (some (17, true), .fieldAddr 20 (.t 3) 2),
 (some (17, true), .load1 21 (.t 20)),
 (some (17, true), .bin 22 .eql (.t 19) (.t 21)),
 (none, .pick 23 (.t 17) (.t 22) (.c (.B false))),
 (none, .mv 24 (.t 23)),
 (some (24, true), .fieldAddr 25 (.t 2) 3),
 (some (24, true), .load1 26 (.t 25)),
 (some (24, true), .fieldAddr 27 (.t 3) 3),
 (some (24, true), .load1 28 (.t 27)),
 (some (24, true), .call (some 29) F.laws_vInts [(.t 26), (.t 28)]),
 (none, .pick 30 (.t 24) (.t 29) (.c (.B false))),
 (none, .mv 31 (.t 30)),
 (some (31, true), .fieldAddr 32 (.t 2) 4),
 (some (31, true), .load1 33 (.t 32)),
 (some (31, true), .fieldAddr 34 (.t 3) 4),
 (some (31, true), .load1 35 (.t 34)),
 (some (31, true), .call (some 36) F.laws_vInts [(.t 33), (.t 35)]),
 (none, .pick 37 (.t 31) (.t 36) (.c (.B false))),
 (none, .mv 38 (.t 37)),
 (some (38, true), .fieldAddr 39 (.t 2) 5),
 (some (38, true), .load1 40 (.t 39)),
 (some (38, true), .fieldAddr 41 (.t 3) 5),
 (some (38, true), .load1 42 (.t 41)),
 (some (38, true), .call (some 43) F.laws_vInts [(.t 40), (.t 42)]),
 (none, .pick 44 (.t 38) (.t 43) (.c (.B false))),
 (none, .mv 4 (.t 44))])
 (.ret))⟩
def laws_vBelow : AFn :=
 ⟨2, 32, [.tmp 4],
 .seq (.ops [(none, .mv 4 (.c (.B false)))])
 (.seq (.seq (.ops [(none, .mv 5 (.c (.I 0)))])
 (.block 0 (.loop (.seq (.seq (.ops [(none, .mv 6 (.t 5)),
 (none, .mv 7 (.t 0)),
 (none, .len 8 (.t 7)),
 (none, .bin 9 .lss (.t 6) (.t 8)),
 (none, .mv 10 (.t 9)),
 (some (10, true), .mv 11 (.t 5)),
 (some (10, true), .mv 12 (.t 1)),
 (some (10, true), .len 13 (.t 12)),
 (some (10, true), .bin 14 .lss (.t 11) (.t 13)),
 (none, .pick 15 (.t 10) (.t 14) (.c (.B false)))])
 (.cond (.t 15) (.skip)
 (.exit 0)))
 (.seq (.block 1 (.seq (.draw [⟨(none, .mv 18 (.t 0)), [], []⟩,
 ⟨(none, .mv 19 (.t 5)), [], []⟩,
 ⟨(none, .idxS 20 1 (.t 18) (.t 19)), [], []⟩,
 ⟨(none, .load1 21 (.t 20)), [], []⟩,
 ⟨(none, .mv 22 (.t 1)), [], []⟩,
 ⟨(none, .mv 23 (.t 5)), [], []⟩,
 ⟨(none, .idxS 24 1 (.t 22) (.t 23)), [], []⟩,
 ⟨(none, .load1 25 (.t 24)), [], []⟩,
 ⟨(none, .bin 26 .gtr (.t 21) (.t 25)), [], []⟩])
 (.cond (.t 26) (.seq (.ops [(none, .mv 4 (.c (.B false)))])
 (.ret))
 (.skip))))
 (.ops [(none, .mv 16 (.t 5)),
 (none, .bin 17 .add (.t 16) (.c (.I 1))),
 (none, .mv 5 (.t 17))]))))))
 (.seq (.ops [(none, .mv 27 (.t 0)),
 (none, .len 28 (.t 27)),
 (none, .mv 29 (.t 1)),
 (none, .len 30 (.t 29)),
 (none, .bin 31 .eql (.t 28) (.t 30)),
 (none, .mv 4 (.t 31))])
 (.ret)))⟩
def laws_vHeap : AFn :=
 ⟨2, 31, [.tmp 4],
 .seq (.ops [(none, .box 2 (.t 0)),
 (none, .box 3 (.t 1)),
 (none, .mv 4 (.c (.B false)))])
 (.seq (.ops [(none, .fieldAddr 5 (.t 2) 0),
 (none, .load1 6 (.t 5)),
 (none, .fieldAddr 7 (.t 3) 0),
 (none, .load1 8 (.t 7)),
 (none, .bin 9 .eql (.t 6) (.t 8)),
 (none, .mv 10 (.t 9)),
 (some (10, true), .fieldAddr 11 (.t 2) 1),
 (some (10, true), .load1 12 (.t 11)),
 (some (10, true), .fieldAddr 13 (.t 3) 1),
 (some (10, true), .load1 14 (.t 13)),
 (some (10, true), .bin 15 .eql (.t 12) (.t 14)),
 (none, .pick 16 (.t 10) (.t 15) (.c (.B false))),
 (none, .mv 17 (.t 16)),
 (some (17, true), .fieldAddr 18 (.t 2) 2),
 (some (17, true), .load1 19 (.t 18)),
 (some (17, true), .fieldAddr 20 (.t 3) 2),
 (some (17, true), .load1 21 (.t 20)),
 (some (17, true), .bin 22 .eql (.t 19) (.t 21)),
 (none, .pick 23 (.t 17) (.t 22) (.c (.B false))),
 (none, .mv 24 (.t 23)),
 (some (24, true), .fieldAddr 25 (.t 2) 3),
 (some (24, true), .load1 26 (.t 25)),
 (some (24, true), .fieldAddr 27 (.t 3) 3),
 (some (24, true), .load1 28 (.t 27)),
 (some (24, true), .call (some 29) F.laws_vCells [(.t 26), (.t 28)]),
 (none, .pick 30 (.t 24) (.t 29) (.c (.B false))),
 (none, .mv 4 (.t 30))])
 (.ret))⟩
def laws_vWithin : AFn :=
 ⟨2, 19, [.tmp 4],
 .seq (.ops [(none, .mv 4 (.c (.B false)))])
 (.seq (.seq (.ops [(none, .mv 5 (.c (.I 0)))])
 (.block 0 (.loop (.seq (.seq (.ops [(none, .mv 6 (.t 5)),
 (none, .mv 7 (.t 0)),
 (none, .len 8 (.t 7)),
 (none, .bin 9 .lss (.t 6) (.t 8))])
 (.cond (.t 9) (.skip)
 (.exit 0)))
 (.seq (.block 1 (.seq (.ops [(none, .mv 12 (.t 1)),
 (none, .mv 13 (.t 0)),
 (none, .mv 14 (.t 5)),
 (none, .idxS 15 3 (.t 13) (.t 14)),
 (none, .loadN 16 3 (.t 15)),
 (none, .call (some 17) F.laws_vIn [(.t 12), (.t 16)]),
 (none, .un 18 .not (.t 17))])
 (.cond (.t 18) (.seq (.ops [(none, .mv 4 (.c (.B false)))])
 (.ret))
 (.skip))))
 (.ops [(none, .mv 10 (.t 5)),
 (none, .bin 11 .add (.t 10) (.c (.I 1))),
 (none, .mv 5 (.t 11))]))))))
 (.seq (.ops [(none, .mv 4 (.c (.B true)))])
 (.ret)))⟩
end Go.Ab.C

/- That the program has this code. -/
namespace Go.Ab.K
open Go Go.Ab
theorem laws_vShadow : prepF Go.Proofs.Tryz.prog F.laws_vShadow = some C.laws_vShadow := by kernel_rfl
theorem laws_vBelow : prepF Go.Proofs.Tryz.prog F.laws_vBelow = some C.laws_vBelow := by kernel_rfl
theorem laws_vHeap : prepF Go.Proofs.Tryz.prog F.laws_vHeap = some C.laws_vHeap := by kernel_rfl
theorem laws_vWithin : prepF Go.Proofs.Tryz.prog F.laws_vWithin = some C.laws_vWithin := by kernel_rfl
end Go.Ab.K

/- The abstract code of some functions (written by a program of mine from the translation, by way of prepF). -/
namespace Go.Ab.C
open Go.Ab
def laws_vCells : AFn :=
 ⟨2, 26, [.tmp 4],
 .seq (.ops [(none, .mv 4 (.c (.B false)))])
 (.seq (.seq (.ops [(none, .mv 6 (.t 0)),
 (none, .len 7 (.t 6)),
 (none, .mv 8 (.t 1)),
 (none, .len 9 (.t 8)),
 (none, .bin 10 .neq (.t 7) (.t 9))])
 (.cond (.t 10) (.seq (.ops [(none, .mv 4 (.c (.B false)))])
 (.ret))
 (.skip)))
 (.seq (.seq (.ops [(none, .mv 5 (.c (.I 0)))])
 (.block 0 (.loop (.seq (.seq (.ops [(none, .mv 11 (.t 5)),
 (none, .mv 12 (.t 0)),
 (none, .len 13 (.t 12)),
 (none, .bin 14 .lss (.t 11) (.t 13))])
 (.cond (.t 14) (.skip)
 (.exit 0)))
 (.seq (.block 1 (.seq (.draw [⟨(none, .mv 17 (.t 0)), [], []⟩,
 ⟨(none, .mv 18 (.t 5)), [], []⟩,
 ⟨(none, .idxS 19 3 (.t 17) (.t 18)), [], []⟩,
 ⟨(none, .loadN 20 3 (.t 19)), [], []⟩,
 ⟨(none, .mv 21 (.t 1)), [], []⟩,
 ⟨(none, .mv 22 (.t 5)), [], []⟩,
 ⟨(none, .idxS 23 3 (.t 21) (.t 22)), [], []⟩,
 ⟨(none, .loadN 24 3 (.t 23)), [], []⟩,
 ⟨(none, .eqs 25 true 3 (.t 20) (.t 24)), [], []⟩])
 (.cond (.t 25) (.seq (.ops [(none, .mv 4 (.c (.B false)))])
 (.ret))
 (.skip))))
 (.ops [(none, .mv 15 (.t 5)),
 (none, .bin 16 .add (.t 15) (.c (.I 1))),
 (none, .mv 5 (.t 16))]))))))
 (.seq (.ops [(none, .mv 4 (.c (.B true)))])
 (.ret))))⟩
def laws_vIn : AFn :=
 ⟨2, 18, [.tmp 4],
 .seq (.ops [(none, .box 3 (.t 1)),
 (none, .mv 4 (.c (.B false)))])
 (.seq (.seq (.ops [(none, .mv 5 (.c (.I 0)))])
 (.block 0 (.loop (.seq (.seq (.ops [(none, .mv 6 (.t 5)),
 (none, .mv 7 (.t 0)),
 (none, .len 8 (.t 7)),
 (none, .bin 9 .lss (.t 6) (.t 8))])
 (.cond (.t 9) (.skip)
 (.exit 0)))
 (.seq (.block 1 (.seq (.draw [⟨(none, .mv 12 (.t 0)), [], []⟩,
 ⟨(none, .mv 13 (.t 5)), [], []⟩,
 ⟨(none, .idxS 14 3 (.t 12) (.t 13)), [], []⟩,
 ⟨(none, .loadN 15 3 (.t 14)), [], []⟩,
 ⟨(none, .loadN 16 3 (.t 3)), [], []⟩,
 ⟨(none, .eqs 17 false 3 (.t 15) (.t 16)), [], []⟩])
 (.cond (.t 17) (.seq (.ops [(none, .mv 4 (.c (.B true)))])
 (.ret))
 (.skip))))
 (.ops [(none, .mv 10 (.t 5)),
 (none, .bin 11 .add (.t 10) (.c (.I 1))),
 (none, .mv 5 (.t 11))]))))))
 (.seq (.ops [(none, .mv 4 (.c (.B false)))])
 (.ret)))⟩
end Go.Ab.C

/- That the program has this code. -/
namespace Go.Ab.K
open Go Go.Ab
theorem laws_vCells : prepF Go.Proofs.Tryz.prog F.laws_vCells = some C.laws_vCells := by kernel_rfl
theorem laws_vIn : prepF Go.Proofs.Tryz.prog F.laws_vIn = some C.laws_vIn := by kernel_rfl
end Go.Ab.K

/- Contracts: the law of pieces' helpers. -/
namespace Go.Ab
open Go
set_option linter.unusedSimpArgs false
set_option linter.unusedVariables false
set_option maxRecDepth 20000

theorem CellsV.lenV {N : Mem} {v : LV} {l : List Cell} (h : CellsV N v l) : lenV v = some (l.length : Int) := by
  rcases h with ⟨rfl, rfl⟩ | ⟨t, o, rfl, _⟩ <;> rfl
theorem CellsV.at {N : Mem} {v : LV} {l : List Cell} {k : Nat} (h : CellsV N v l) (hk : k < l.length) : ∃ t o, v = .ref t o l.length ∧ getCells N t (o + k * 3) 3 = some (l.getD k default).row := by
  rcases h with ⟨rfl, rfl⟩ | ⟨t, o, rfl, h⟩
  · simp at hk
  · exact ⟨t, o, rfl, Tri.get h hk⟩
theorem list_ext {α : Type} {l l' : List α} {d : α} (hl : l.length = l'.length) (h : ∀ j, j < l.length → l.getD j d = l'.getD j d) : l = l' := by
  apply List.ext_getElem hl
  intro i h2 h3
  have := h i h2
  simpa [h2, h3] using this
theorem k_vCells {l l' : List Cell} {v v' : LV} {M : Mem} (h : CellsV M v l) (h' : CellsV M v' l') (hn : l.length ≤ 1000000000) (hn' : l'.length ≤ 1000000000) : CallsTo PG F.laws_vCells [v, v'] M (.B (decide (l = l'))) M := by
  refine calls_run K.laws_vCells rfl ?_
  have hv := h.lenV
  have hv' := h'.lenV
  by_cases hl : (l.length : Int) = l'.length
  rotate_left
  · rw [decide_eq_false (fun e => hl (by rw [e]))]
    simp (disch := omega) only [C.laws_vCells, hv, hv', hl, ↓SXd, SXu, slBounds, ↓sop, ↓aop, ↓reduceIte, LV.cells, AOp.dst, LV.I, LV.B, LV.U, LV.S, LV.nil, Nat.reduceEqDiff, Nat.reduceAdd, Nat.reduceMul, Nat.reduceSub, Nat.reduceLeDiff, Nat.reduceBEq, Nat.reduceDiv, Nat.reduceMod, Int.reduceToNat, Int.reduceLT, Int.reduceLE, Int.reduceAdd, Int.reduceSub, Int.reduceMul, Int.reduceEq, Int.reduceNeg, reduceCtorEq, resV, resAll, ARes.ev, LV.flat, ite_true, ite_false, exists_eq_left', exists_eq_left, keyOf, implies_true, fillC, capOf]
    exact cmp_drop0 rfl
  have hln : l.length = l'.length := by omega
  simp (disch := omega) only [C.laws_vCells, hv, hv', hl, ↓SXd, SXu, slBounds, ↓sop, ↓aop, ↓reduceIte, LV.cells, AOp.dst, LV.I, LV.B, LV.U, LV.S, LV.nil, Nat.reduceEqDiff, Nat.reduceAdd, Nat.reduceMul, Nat.reduceSub, Nat.reduceLeDiff, Nat.reduceBEq, Nat.reduceDiv, Nat.reduceMod, Int.reduceToNat, Int.reduceLT, Int.reduceLE, Int.reduceAdd, Int.reduceSub, Int.reduceMul, Int.reduceEq, Int.reduceNeg, reduceCtorEq, resV, resAll, ARes.ev, LV.flat, ite_true, ite_false, exists_eq_left', exists_eq_left, keyOf, implies_true, fillC, capOf]
  refine ev_loop (fun m fr M' => ∃ k : Nat, k + m = l.length ∧ M' = M ∧ fr 0 = v ∧ fr 1 = v' ∧ fr 5 = .I k ∧ ∀ j, j < k → l.getD j default = l'.getD j default) l.length ⟨0, by omega, rfl, rfl, rfl, rfl, by omega⟩ ?_
  rintro m fr M' ⟨k, hk, rfl, h0, h1, h5, hj⟩
  simp (disch := omega) only [h0, h1, h5, hv, ↓SXd, SXu, slBounds, ↓sop, ↓aop, ↓reduceIte, LV.cells, AOp.dst, LV.I, LV.B, LV.U, LV.S, LV.nil, Nat.reduceEqDiff, Nat.reduceAdd, Nat.reduceMul, Nat.reduceSub, Nat.reduceLeDiff, Nat.reduceBEq, Nat.reduceDiv, Nat.reduceMod, Int.reduceToNat, Int.reduceLT, Int.reduceLE, Int.reduceAdd, Int.reduceSub, Int.reduceMul, Int.reduceEq, Int.reduceNeg, reduceCtorEq, resV, resAll, ARes.ev, LV.flat, ite_true, ite_false, exists_eq_left', exists_eq_left, keyOf, implies_true, fillC, capOf]
  refine condC_dec (fun hlt => ?_) (fun hlt => ?_)
  · obtain ⟨t, o, rfl, hg⟩ := h.at (k := k) (by omega)
    obtain ⟨t', o', rfl, hg'⟩ := h'.at (k := k) (by omega)
    simp (disch := omega) only [h0, h1, h5, hg, hg', Cell.row, eqV, eqC, if_true, ite_true, Bool.and_true, ↓SXd, SXu, slBounds, ↓sop, ↓aop, ↓reduceIte, LV.cells, AOp.dst, LV.I, LV.B, LV.U, LV.S, LV.nil, Nat.reduceEqDiff, Nat.reduceAdd, Nat.reduceMul, Nat.reduceSub, Nat.reduceLeDiff, Nat.reduceBEq, Nat.reduceDiv, Nat.reduceMod, Int.reduceToNat, Int.reduceLT, Int.reduceLE, Int.reduceAdd, Int.reduceSub, Int.reduceMul, Int.reduceEq, Int.reduceNeg, reduceCtorEq, resV, resAll, ARes.ev, LV.flat, ite_true, ite_false, exists_eq_left', exists_eq_left, keyOf, implies_true, fillC, capOf]
    rw [beq3]
    by_cases he : l.getD k default = l'.getD k default
    · simp (disch := omega) only [h0, h1, h5, he, ↓SXd, SXu, slBounds, ↓sop, ↓aop, ↓reduceIte, LV.cells, AOp.dst, LV.I, LV.B, LV.U, LV.S, LV.nil, Nat.reduceEqDiff, Nat.reduceAdd, Nat.reduceMul, Nat.reduceSub, Nat.reduceLeDiff, Nat.reduceBEq, Nat.reduceDiv, Nat.reduceMod, Int.reduceToNat, Int.reduceLT, Int.reduceLE, Int.reduceAdd, Int.reduceSub, Int.reduceMul, Int.reduceEq, Int.reduceNeg, reduceCtorEq, resV, resAll, ARes.ev, LV.flat, ite_true, ite_false, exists_eq_left', exists_eq_left, keyOf, implies_true, fillC, capOf]
      exact ⟨m - 1, by omega, k + 1, by omega, rfl, h0, h1, eqI (natI _), fun j hj1 => by
        rcases Nat.lt_or_ge j k with h2 | h2
        · exact hj j h2
        · rw [show j = k by omega]; exact he⟩
    · simp (disch := omega) only [h0, h1, h5, he, ↓SXd, SXu, slBounds, ↓sop, ↓aop, ↓reduceIte, LV.cells, AOp.dst, LV.I, LV.B, LV.U, LV.S, LV.nil, Nat.reduceEqDiff, Nat.reduceAdd, Nat.reduceMul, Nat.reduceSub, Nat.reduceLeDiff, Nat.reduceBEq, Nat.reduceDiv, Nat.reduceMod, Int.reduceToNat, Int.reduceLT, Int.reduceLE, Int.reduceAdd, Int.reduceSub, Int.reduceMul, Int.reduceEq, Int.reduceNeg, reduceCtorEq, resV, resAll, ARes.ev, LV.flat, ite_true, ite_false, exists_eq_left', exists_eq_left, keyOf, implies_true, fillC, capOf]
      rw [decide_eq_false (fun e => he (by rw [e]))]
      exact cmp_drop0 rfl
  · simp (disch := omega) only [h0, h1, h5, ↓SXd, SXu, slBounds, ↓sop, ↓aop, ↓reduceIte, LV.cells, AOp.dst, LV.I, LV.B, LV.U, LV.S, LV.nil, Nat.reduceEqDiff, Nat.reduceAdd, Nat.reduceMul, Nat.reduceSub, Nat.reduceLeDiff, Nat.reduceBEq, Nat.reduceDiv, Nat.reduceMod, Int.reduceToNat, Int.reduceLT, Int.reduceLE, Int.reduceAdd, Int.reduceSub, Int.reduceMul, Int.reduceEq, Int.reduceNeg, reduceCtorEq, resV, resAll, ARes.ev, LV.flat, ite_true, ite_false, exists_eq_left', exists_eq_left, keyOf, implies_true, fillC, capOf]
    rw [decide_eq_true (list_ext hln fun j hj1 => hj j (by omega))]
    exact cmp_drop0 rfl
theorem k_vIn {l : List Cell} {v : LV} {c : Cell} {M : Mem} (h : CellsV M v l) (hn : l.length ≤ 1000000000) : CallsTo PG F.laws_vIn [v, .agg [.I c.a, .I c.b, .I c.c]] M (.B (decide (c ∈ l))) M := by
  refine calls_run K.laws_vIn rfl ?_
  have hv := h.lenV
  simp (disch := omega) only [C.laws_vIn, ↓SXd, SXu, slBounds, ↓sop, ↓aop, ↓reduceIte, LV.cells, AOp.dst, LV.I, LV.B, LV.U, LV.S, LV.nil, Nat.reduceEqDiff, Nat.reduceAdd, Nat.reduceMul, Nat.reduceSub, Nat.reduceLeDiff, Nat.reduceBEq, Nat.reduceDiv, Nat.reduceMod, Int.reduceToNat, Int.reduceLT, Int.reduceLE, Int.reduceAdd, Int.reduceSub, Int.reduceMul, Int.reduceEq, Int.reduceNeg, reduceCtorEq, resV, resAll, ARes.ev, LV.flat, ite_true, ite_false, exists_eq_left', exists_eq_left, keyOf, implies_true, fillC, capOf]
  refine ev_loop (fun m fr M' => ∃ k : Nat, k + m = l.length ∧ Pre M M' ∧ Live M' M.length (.row c.row true 0) ∧ fr 0 = v ∧ fr 3 = .ptr M.length 0 ∧ fr 5 = .I k ∧ ∀ j, j < k → l.getD j default ≠ c) l.length ⟨0, by omega, Pre.app _ _, Live.new, rfl, rfl, rfl, by omega⟩ ?_
  rintro m fr M' ⟨k, hk, hpre, b3, h0, h3, h5, hj⟩
  simp (disch := omega) only [h0, h3, h5, hv, ↓SXd, SXu, slBounds, ↓sop, ↓aop, ↓reduceIte, LV.cells, AOp.dst, LV.I, LV.B, LV.U, LV.S, LV.nil, Nat.reduceEqDiff, Nat.reduceAdd, Nat.reduceMul, Nat.reduceSub, Nat.reduceLeDiff, Nat.reduceBEq, Nat.reduceDiv, Nat.reduceMod, Int.reduceToNat, Int.reduceLT, Int.reduceLE, Int.reduceAdd, Int.reduceSub, Int.reduceMul, Int.reduceEq, Int.reduceNeg, reduceCtorEq, resV, resAll, ARes.ev, LV.flat, ite_true, ite_false, exists_eq_left', exists_eq_left, keyOf, implies_true, fillC, capOf]
  refine condC_dec (fun hlt => ?_) (fun hlt => ?_)
  · obtain ⟨t, o, rfl, hg⟩ := (h.pre hpre).at (k := k) (by omega)
    simp (disch := omega) only [h0, h3, h5, hg, b3.cells, Cell.row, eqV, eqC, if_true, ite_true, Bool.and_true, ↓SXd, SXu, slBounds, ↓sop, ↓aop, ↓reduceIte, LV.cells, AOp.dst, LV.I, LV.B, LV.U, LV.S, LV.nil, Nat.reduceEqDiff, Nat.reduceAdd, Nat.reduceMul, Nat.reduceSub, Nat.reduceLeDiff, Nat.reduceBEq, Nat.reduceDiv, Nat.reduceMod, Int.reduceToNat, Int.reduceLT, Int.reduceLE, Int.reduceAdd, Int.reduceSub, Int.reduceMul, Int.reduceEq, Int.reduceNeg, reduceCtorEq, resV, resAll, ARes.ev, LV.flat, ite_true, ite_false, exists_eq_left', exists_eq_left, keyOf, implies_true, fillC, capOf]
    rw [beq3]
    by_cases he : l.getD k default = c
    · have hin : c ∈ l := by rw [← he]; exact getD_mem' (by omega)
      simp (disch := omega) only [h0, h3, h5, he, ↓SXd, SXu, slBounds, ↓sop, ↓aop, ↓reduceIte, LV.cells, AOp.dst, LV.I, LV.B, LV.U, LV.S, LV.nil, Nat.reduceEqDiff, Nat.reduceAdd, Nat.reduceMul, Nat.reduceSub, Nat.reduceLeDiff, Nat.reduceBEq, Nat.reduceDiv, Nat.reduceMod, Int.reduceToNat, Int.reduceLT, Int.reduceLE, Int.reduceAdd, Int.reduceSub, Int.reduceMul, Int.reduceEq, Int.reduceNeg, reduceCtorEq, resV, resAll, ARes.ev, LV.flat, ite_true, ite_false, exists_eq_left', exists_eq_left, keyOf, implies_true, fillC, capOf]
      rw [decide_eq_true hin]
      exact cmp_pre hpre rfl
    · simp (disch := omega) only [h0, h3, h5, he, ↓SXd, SXu, slBounds, ↓sop, ↓aop, ↓reduceIte, LV.cells, AOp.dst, LV.I, LV.B, LV.U, LV.S, LV.nil, Nat.reduceEqDiff, Nat.reduceAdd, Nat.reduceMul, Nat.reduceSub, Nat.reduceLeDiff, Nat.reduceBEq, Nat.reduceDiv, Nat.reduceMod, Int.reduceToNat, Int.reduceLT, Int.reduceLE, Int.reduceAdd, Int.reduceSub, Int.reduceMul, Int.reduceEq, Int.reduceNeg, reduceCtorEq, resV, resAll, ARes.ev, LV.flat, ite_true, ite_false, exists_eq_left', exists_eq_left, keyOf, implies_true, fillC, capOf]
      exact ⟨m - 1, by omega, k + 1, by omega, hpre, b3, h0, h3, eqI (natI _), fun j hj1 => by
        rcases Nat.lt_or_ge j k with h2 | h2
        · exact hj j h2
        · rw [show j = k by omega]; exact he⟩
  · simp (disch := omega) only [h0, h3, h5, ↓SXd, SXu, slBounds, ↓sop, ↓aop, ↓reduceIte, LV.cells, AOp.dst, LV.I, LV.B, LV.U, LV.S, LV.nil, Nat.reduceEqDiff, Nat.reduceAdd, Nat.reduceMul, Nat.reduceSub, Nat.reduceLeDiff, Nat.reduceBEq, Nat.reduceDiv, Nat.reduceMod, Int.reduceToNat, Int.reduceLT, Int.reduceLE, Int.reduceAdd, Int.reduceSub, Int.reduceMul, Int.reduceEq, Int.reduceNeg, reduceCtorEq, resV, resAll, ARes.ev, LV.flat, ite_true, ite_false, exists_eq_left', exists_eq_left, keyOf, implies_true, fillC, capOf]
    have hno : c ∉ l := fun hin => by
      obtain ⟨j, hjl, rfl⟩ := List.getElem_of_mem hin
      exact hj j (by omega) (by simp [hjl])
    rw [decide_eq_false hno]
    exact cmp_pre hpre rfl
end Go.Ab

/- Contracts: the law of shadows' helpers. -/
namespace Go.Ab
open Go
set_option linter.unusedSimpArgs false
set_option linter.unusedVariables false
set_option maxRecDepth 20000

theorem k_vIntsD {l l' : List Int} {v v' : LV} {M : Mem} (h : IntsV M v l) (h' : IntsV M v' l') (hn : l.length ≤ 1000000000) (hn' : l'.length ≤ 1000000000) : CallsTo PG F.laws_vInts [v, v'] M (.B (decide (l = l'))) M := by
  by_cases he : l = l'
  · subst he
    rw [decide_eq_true rfl]
    exact k_vInts h h' hn
  refine calls_run K.laws_vInts rfl ?_
  have hv := h.lenV
  have hv' := h'.lenV
  by_cases hl : (l.length : Int) = l'.length
  rotate_left
  · rw [decide_eq_false he]
    simp (disch := omega) only [C.laws_vInts, hv, hv', hl, ↓SXd, SXu, slBounds, ↓sop, ↓aop, ↓reduceIte, LV.cells, AOp.dst, LV.I, LV.B, LV.U, LV.S, LV.nil, Nat.reduceEqDiff, Nat.reduceAdd, Nat.reduceMul, Nat.reduceSub, Nat.reduceLeDiff, Nat.reduceBEq, Nat.reduceDiv, Nat.reduceMod, Int.reduceToNat, Int.reduceLT, Int.reduceLE, Int.reduceAdd, Int.reduceSub, Int.reduceMul, Int.reduceEq, Int.reduceNeg, reduceCtorEq, resV, resAll, ARes.ev, LV.flat, ite_true, ite_false, exists_eq_left', exists_eq_left, keyOf, implies_true, fillC, capOf]
    exact cmp_drop0 rfl
  have hln : l.length = l'.length := by omega
  simp (disch := omega) only [C.laws_vInts, hv, hv', hl, ↓SXd, SXu, slBounds, ↓sop, ↓aop, ↓reduceIte, LV.cells, AOp.dst, LV.I, LV.B, LV.U, LV.S, LV.nil, Nat.reduceEqDiff, Nat.reduceAdd, Nat.reduceMul, Nat.reduceSub, Nat.reduceLeDiff, Nat.reduceBEq, Nat.reduceDiv, Nat.reduceMod, Int.reduceToNat, Int.reduceLT, Int.reduceLE, Int.reduceAdd, Int.reduceSub, Int.reduceMul, Int.reduceEq, Int.reduceNeg, reduceCtorEq, resV, resAll, ARes.ev, LV.flat, ite_true, ite_false, exists_eq_left', exists_eq_left, keyOf, implies_true, fillC, capOf]
  refine ev_loop (fun m fr M' => ∃ k : Nat, k + m = l.length ∧ M' = M ∧ fr 0 = v ∧ fr 1 = v' ∧ fr 5 = .I k ∧ ∀ j, j < k → l.getD j 0 = l'.getD j 0) l.length ⟨0, by omega, rfl, rfl, rfl, rfl, by omega⟩ ?_
  rintro m fr M' ⟨k, hk, rfl, h0, h1, h5, hj⟩
  simp (disch := omega) only [h0, h1, h5, hv, ↓SXd, SXu, slBounds, ↓sop, ↓aop, ↓reduceIte, LV.cells, AOp.dst, LV.I, LV.B, LV.U, LV.S, LV.nil, Nat.reduceEqDiff, Nat.reduceAdd, Nat.reduceMul, Nat.reduceSub, Nat.reduceLeDiff, Nat.reduceBEq, Nat.reduceDiv, Nat.reduceMod, Int.reduceToNat, Int.reduceLT, Int.reduceLE, Int.reduceAdd, Int.reduceSub, Int.reduceMul, Int.reduceEq, Int.reduceNeg, reduceCtorEq, resV, resAll, ARes.ev, LV.flat, ite_true, ite_false, exists_eq_left', exists_eq_left, keyOf, implies_true, fillC, capOf]
  refine condC_dec (fun hlt => ?_) (fun hlt => ?_)
  · obtain ⟨t, o, rfl, hg⟩ := h.at (k := k) (by omega)
    obtain ⟨t', o', rfl, hg'⟩ := h'.at (k := k) (by omega)
    by_cases hk2 : l.getD k 0 = l'.getD k 0
    · simp (disch := omega) only [h0, h1, h5, hg, hg', Nat.mul_one, hk2, ↓SXd, SXu, slBounds, ↓sop, ↓aop, ↓reduceIte, LV.cells, AOp.dst, LV.I, LV.B, LV.U, LV.S, LV.nil, Nat.reduceEqDiff, Nat.reduceAdd, Nat.reduceMul, Nat.reduceSub, Nat.reduceLeDiff, Nat.reduceBEq, Nat.reduceDiv, Nat.reduceMod, Int.reduceToNat, Int.reduceLT, Int.reduceLE, Int.reduceAdd, Int.reduceSub, Int.reduceMul, Int.reduceEq, Int.reduceNeg, reduceCtorEq, resV, resAll, ARes.ev, LV.flat, ite_true, ite_false, exists_eq_left', exists_eq_left, keyOf, implies_true, fillC, capOf]
      exact ⟨m - 1, by omega, k + 1, by omega, rfl, h0, h1, eqI (natI _), fun j hj1 => by
        rcases Nat.lt_or_ge j k with h2 | h2
        · exact hj j h2
        · rw [show j = k by omega]; exact hk2⟩
    · simp (disch := omega) only [h0, h1, h5, hg, hg', Nat.mul_one, hk2, ↓SXd, SXu, slBounds, ↓sop, ↓aop, ↓reduceIte, LV.cells, AOp.dst, LV.I, LV.B, LV.U, LV.S, LV.nil, Nat.reduceEqDiff, Nat.reduceAdd, Nat.reduceMul, Nat.reduceSub, Nat.reduceLeDiff, Nat.reduceBEq, Nat.reduceDiv, Nat.reduceMod, Int.reduceToNat, Int.reduceLT, Int.reduceLE, Int.reduceAdd, Int.reduceSub, Int.reduceMul, Int.reduceEq, Int.reduceNeg, reduceCtorEq, resV, resAll, ARes.ev, LV.flat, ite_true, ite_false, exists_eq_left', exists_eq_left, keyOf, implies_true, fillC, capOf]
      rw [decide_eq_false he]
      exact cmp_drop0 rfl
  · exact (he (list_ext hln fun j hj1 => hj j (by omega))).elim
theorem k_vShadow {x y z : Int} {a b c a' b' c' : LV} {tp fr sd tp' fr' sd' : List Int} {M : Mem} (h1 : IntsV M a tp) (h2 : IntsV M b fr) (h3 : IntsV M c sd) (k1 : IntsV M a' tp') (k2 : IntsV M b' fr') (k3 : IntsV M c' sd')
    (n1 : tp.length ≤ 1000000000) (n2 : fr.length ≤ 1000000000) (n3 : sd.length ≤ 1000000000) (n1' : tp'.length ≤ 1000000000) (n2' : fr'.length ≤ 1000000000) (n3' : sd'.length ≤ 1000000000) :
    CallsTo PG F.laws_vShadow [.agg [.I x, .I y, .I z, a, b, c], .agg [.I x, .I y, .I z, a', b', c']] M (.B (decide (tp = tp' ∧ fr = fr' ∧ sd = sd'))) M := by
  refine calls_run K.laws_vShadow rfl ?_
  by_cases e1 : tp = tp'
  rotate_left
  · rw [decide_eq_false (show ¬ (tp = tp' ∧ fr = fr' ∧ sd = sd') from fun e => e1 e.1)]
    simp (disch := omega) only [C.laws_vShadow, ↓SXd, SXu, slBounds, ↓sop, ↓aop, ↓reduceIte, LV.cells, AOp.dst, LV.I, LV.B, LV.U, LV.S, LV.nil, Nat.reduceEqDiff, Nat.reduceAdd, Nat.reduceMul, Nat.reduceSub, Nat.reduceLeDiff, Nat.reduceBEq, Nat.reduceDiv, Nat.reduceMod, Int.reduceToNat, Int.reduceLT, Int.reduceLE, Int.reduceAdd, Int.reduceSub, Int.reduceMul, Int.reduceEq, Int.reduceNeg, reduceCtorEq, resV, resAll, ARes.ev, LV.flat, ite_true, ite_false, exists_eq_left', exists_eq_left, keyOf, implies_true, fillC, capOf]
    refine callK_of (k_vIntsD (h1.pre (Pre.app _ _)) (k1.pre (Pre.app _ _)) n1 n1') ?_
    simp (disch := omega) only [e1, ↓SXd, SXu, slBounds, ↓sop, ↓aop, ↓reduceIte, LV.cells, AOp.dst, LV.I, LV.B, LV.U, LV.S, LV.nil, Nat.reduceEqDiff, Nat.reduceAdd, Nat.reduceMul, Nat.reduceSub, Nat.reduceLeDiff, Nat.reduceBEq, Nat.reduceDiv, Nat.reduceMod, Int.reduceToNat, Int.reduceLT, Int.reduceLE, Int.reduceAdd, Int.reduceSub, Int.reduceMul, Int.reduceEq, Int.reduceNeg, reduceCtorEq, resV, resAll, ARes.ev, LV.flat, ite_true, ite_false, exists_eq_left', exists_eq_left, keyOf, implies_true, fillC, capOf]
    exact cmp_drop rfl
  subst e1
  by_cases e2 : fr = fr'
  rotate_left
  · rw [decide_eq_false (show ¬ (tp = tp ∧ fr = fr' ∧ sd = sd') from fun e => e2 e.2.1)]
    simp (disch := omega) only [C.laws_vShadow, ↓SXd, SXu, slBounds, ↓sop, ↓aop, ↓reduceIte, LV.cells, AOp.dst, LV.I, LV.B, LV.U, LV.S, LV.nil, Nat.reduceEqDiff, Nat.reduceAdd, Nat.reduceMul, Nat.reduceSub, Nat.reduceLeDiff, Nat.reduceBEq, Nat.reduceDiv, Nat.reduceMod, Int.reduceToNat, Int.reduceLT, Int.reduceLE, Int.reduceAdd, Int.reduceSub, Int.reduceMul, Int.reduceEq, Int.reduceNeg, reduceCtorEq, resV, resAll, ARes.ev, LV.flat, ite_true, ite_false, exists_eq_left', exists_eq_left, keyOf, implies_true, fillC, capOf]
    refine callK_of (k_vInts (h1.pre (Pre.app _ _)) (k1.pre (Pre.app _ _)) n1) ?_
    simp (disch := omega) only [↓SXd, SXu, slBounds, ↓sop, ↓aop, ↓reduceIte, LV.cells, AOp.dst, LV.I, LV.B, LV.U, LV.S, LV.nil, Nat.reduceEqDiff, Nat.reduceAdd, Nat.reduceMul, Nat.reduceSub, Nat.reduceLeDiff, Nat.reduceBEq, Nat.reduceDiv, Nat.reduceMod, Int.reduceToNat, Int.reduceLT, Int.reduceLE, Int.reduceAdd, Int.reduceSub, Int.reduceMul, Int.reduceEq, Int.reduceNeg, reduceCtorEq, resV, resAll, ARes.ev, LV.flat, ite_true, ite_false, exists_eq_left', exists_eq_left, keyOf, implies_true, fillC, capOf]
    refine callK_of (k_vIntsD (h2.pre (Pre.app _ _)) (k2.pre (Pre.app _ _)) n2 n2') ?_
    simp (disch := omega) only [e2, ↓SXd, SXu, slBounds, ↓sop, ↓aop, ↓reduceIte, LV.cells, AOp.dst, LV.I, LV.B, LV.U, LV.S, LV.nil, Nat.reduceEqDiff, Nat.reduceAdd, Nat.reduceMul, Nat.reduceSub, Nat.reduceLeDiff, Nat.reduceBEq, Nat.reduceDiv, Nat.reduceMod, Int.reduceToNat, Int.reduceLT, Int.reduceLE, Int.reduceAdd, Int.reduceSub, Int.reduceMul, Int.reduceEq, Int.reduceNeg, reduceCtorEq, resV, resAll, ARes.ev, LV.flat, ite_true, ite_false, exists_eq_left', exists_eq_left, keyOf, implies_true, fillC, capOf]
    exact cmp_drop rfl
  subst e2
  rw [show decide (tp = tp ∧ fr = fr ∧ sd = sd') = decide (sd = sd') from decide_eq_decide.2 ⟨fun e => e.2.2, fun e => ⟨rfl, rfl, e⟩⟩]
  simp (disch := omega) only [C.laws_vShadow, ↓SXd, SXu, slBounds, ↓sop, ↓aop, ↓reduceIte, LV.cells, AOp.dst, LV.I, LV.B, LV.U, LV.S, LV.nil, Nat.reduceEqDiff, Nat.reduceAdd, Nat.reduceMul, Nat.reduceSub, Nat.reduceLeDiff, Nat.reduceBEq, Nat.reduceDiv, Nat.reduceMod, Int.reduceToNat, Int.reduceLT, Int.reduceLE, Int.reduceAdd, Int.reduceSub, Int.reduceMul, Int.reduceEq, Int.reduceNeg, reduceCtorEq, resV, resAll, ARes.ev, LV.flat, ite_true, ite_false, exists_eq_left', exists_eq_left, keyOf, implies_true, fillC, capOf]
  refine callK_of (k_vInts (h1.pre (Pre.app _ _)) (k1.pre (Pre.app _ _)) n1) ?_
  simp (disch := omega) only [↓SXd, SXu, slBounds, ↓sop, ↓aop, ↓reduceIte, LV.cells, AOp.dst, LV.I, LV.B, LV.U, LV.S, LV.nil, Nat.reduceEqDiff, Nat.reduceAdd, Nat.reduceMul, Nat.reduceSub, Nat.reduceLeDiff, Nat.reduceBEq, Nat.reduceDiv, Nat.reduceMod, Int.reduceToNat, Int.reduceLT, Int.reduceLE, Int.reduceAdd, Int.reduceSub, Int.reduceMul, Int.reduceEq, Int.reduceNeg, reduceCtorEq, resV, resAll, ARes.ev, LV.flat, ite_true, ite_false, exists_eq_left', exists_eq_left, keyOf, implies_true, fillC, capOf]
  refine callK_of (k_vInts (h2.pre (Pre.app _ _)) (k2.pre (Pre.app _ _)) n2) ?_
  simp (disch := omega) only [↓SXd, SXu, slBounds, ↓sop, ↓aop, ↓reduceIte, LV.cells, AOp.dst, LV.I, LV.B, LV.U, LV.S, LV.nil, Nat.reduceEqDiff, Nat.reduceAdd, Nat.reduceMul, Nat.reduceSub, Nat.reduceLeDiff, Nat.reduceBEq, Nat.reduceDiv, Nat.reduceMod, Int.reduceToNat, Int.reduceLT, Int.reduceLE, Int.reduceAdd, Int.reduceSub, Int.reduceMul, Int.reduceEq, Int.reduceNeg, reduceCtorEq, resV, resAll, ARes.ev, LV.flat, ite_true, ite_false, exists_eq_left', exists_eq_left, keyOf, implies_true, fillC, capOf]
  refine callK_of (k_vIntsD (h3.pre (Pre.app _ _)) (k3.pre (Pre.app _ _)) n3 n3') ?_
  simp (disch := omega) only [↓SXd, SXu, slBounds, ↓sop, ↓aop, ↓reduceIte, LV.cells, AOp.dst, LV.I, LV.B, LV.U, LV.S, LV.nil, Nat.reduceEqDiff, Nat.reduceAdd, Nat.reduceMul, Nat.reduceSub, Nat.reduceLeDiff, Nat.reduceBEq, Nat.reduceDiv, Nat.reduceMod, Int.reduceToNat, Int.reduceLT, Int.reduceLE, Int.reduceAdd, Int.reduceSub, Int.reduceMul, Int.reduceEq, Int.reduceNeg, reduceCtorEq, resV, resAll, ARes.ev, LV.flat, ite_true, ite_false, exists_eq_left', exists_eq_left, keyOf, implies_true, fillC, capOf]
  exact cmp_drop rfl
theorem k_vBelow {l l' : List Int} {v v' : LV} {M : Mem} (h : IntsV M v l) (h' : IntsV M v' l') (hn : l.length ≤ 1000000000) (hl : l.length = l'.length) (hle : ∀ i, i < l.length → l.getD i 0 ≤ l'.getD i 0) : CallsTo PG F.laws_vBelow [v, v'] M (.B true) M := by
  refine calls_run K.laws_vBelow rfl ?_
  have hv := h.lenV
  have hv' := h'.lenV
  simp (disch := omega) only [C.laws_vBelow, ↓SXd, SXu, slBounds, ↓sop, ↓aop, ↓reduceIte, LV.cells, AOp.dst, LV.I, LV.B, LV.U, LV.S, LV.nil, Nat.reduceEqDiff, Nat.reduceAdd, Nat.reduceMul, Nat.reduceSub, Nat.reduceLeDiff, Nat.reduceBEq, Nat.reduceDiv, Nat.reduceMod, Int.reduceToNat, Int.reduceLT, Int.reduceLE, Int.reduceAdd, Int.reduceSub, Int.reduceMul, Int.reduceEq, Int.reduceNeg, reduceCtorEq, resV, resAll, ARes.ev, LV.flat, ite_true, ite_false, exists_eq_left', exists_eq_left, keyOf, implies_true, fillC, capOf]
  refine ev_loop (fun m fr M' => ∃ k : Nat, k + m = l.length ∧ M' = M ∧ fr 0 = v ∧ fr 1 = v' ∧ fr 5 = .I k) l.length ⟨0, by omega, rfl, rfl, rfl, rfl⟩ ?_
  rintro m fr M' ⟨k, hk, rfl, h0, h1, h5⟩
  by_cases hlt : k < l.length
  · obtain ⟨t, o, rfl, hg⟩ := h.at (k := k) hlt
    obtain ⟨t', o', rfl, hg'⟩ := h'.at (k := k) (by omega)
    have hk1 : (k : Int) < (l.length : Nat) := by omega
    have hk2 : (k : Int) < (l'.length : Nat) := by omega
    have hgt : ¬ l.getD k 0 > l'.getD k 0 := by have := hle k hlt; omega
    simp (disch := omega) only [h0, h1, h5, hv, hv', hk1, hk2, hg, hg', Nat.mul_one, hgt, ↓SXd, SXu, slBounds, ↓sop, ↓aop, ↓reduceIte, LV.cells, AOp.dst, LV.I, LV.B, LV.U, LV.S, LV.nil, Nat.reduceEqDiff, Nat.reduceAdd, Nat.reduceMul, Nat.reduceSub, Nat.reduceLeDiff, Nat.reduceBEq, Nat.reduceDiv, Nat.reduceMod, Int.reduceToNat, Int.reduceLT, Int.reduceLE, Int.reduceAdd, Int.reduceSub, Int.reduceMul, Int.reduceEq, Int.reduceNeg, reduceCtorEq, resV, resAll, ARes.ev, LV.flat, ite_true, ite_false, exists_eq_left', exists_eq_left, keyOf, implies_true, fillC, capOf]
    exact ⟨m - 1, by omega, k + 1, by omega, rfl, h0, h1, eqI (natI _)⟩
  · have hk1 : ¬ (k : Int) < (l.length : Nat) := by omega
    have hll : (l.length : Int) = (l'.length : Nat) := by omega
    simp (disch := omega) only [h0, h1, h5, hv, hv', hk1, hll, ↓SXd, SXu, slBounds, ↓sop, ↓aop, ↓reduceIte, LV.cells, AOp.dst, LV.I, LV.B, LV.U, LV.S, LV.nil, Nat.reduceEqDiff, Nat.reduceAdd, Nat.reduceMul, Nat.reduceSub, Nat.reduceLeDiff, Nat.reduceBEq, Nat.reduceDiv, Nat.reduceMod, Int.reduceToNat, Int.reduceLT, Int.reduceLE, Int.reduceAdd, Int.reduceSub, Int.reduceMul, Int.reduceEq, Int.reduceNeg, reduceCtorEq, resV, resAll, ARes.ev, LV.flat, ite_true, ite_false, exists_eq_left', exists_eq_left, keyOf, implies_true, fillC, capOf]
    exact cmp_drop0 rfl
theorem k_vHeap {g h : Hp} {v v' : LV} {M : Mem} (hg : CellsV M v g.cs) (hh : CellsV M v' h.cs) (hn : g.cs.length ≤ 1000000000) (hn' : h.cs.length ≤ 1000000000) :
    CallsTo PG F.laws_vHeap [.agg [.I g.x, .I g.y, .I g.z, v], .agg [.I h.x, .I h.y, .I h.z, v']] M (.B (decide (g.dims = h.dims ∧ g.cs = h.cs))) M := by
  refine calls_run K.laws_vHeap rfl ?_
  by_cases h1 : g.x = h.x
  rotate_left
  · rw [decide_eq_false (fun e => h1 (congrArg Cell.a e.1))]
    simp (disch := omega) only [C.laws_vHeap, h1, ↓SXd, SXu, slBounds, ↓sop, ↓aop, ↓reduceIte, LV.cells, AOp.dst, LV.I, LV.B, LV.U, LV.S, LV.nil, Nat.reduceEqDiff, Nat.reduceAdd, Nat.reduceMul, Nat.reduceSub, Nat.reduceLeDiff, Nat.reduceBEq, Nat.reduceDiv, Nat.reduceMod, Int.reduceToNat, Int.reduceLT, Int.reduceLE, Int.reduceAdd, Int.reduceSub, Int.reduceMul, Int.reduceEq, Int.reduceNeg, reduceCtorEq, resV, resAll, ARes.ev, LV.flat, ite_true, ite_false, exists_eq_left', exists_eq_left, keyOf, implies_true, fillC, capOf]
    exact cmp_drop rfl
  by_cases h2 : g.y = h.y
  rotate_left
  · rw [decide_eq_false (fun e => h2 (congrArg Cell.b e.1))]
    simp (disch := omega) only [C.laws_vHeap, h1, h2, ↓SXd, SXu, slBounds, ↓sop, ↓aop, ↓reduceIte, LV.cells, AOp.dst, LV.I, LV.B, LV.U, LV.S, LV.nil, Nat.reduceEqDiff, Nat.reduceAdd, Nat.reduceMul, Nat.reduceSub, Nat.reduceLeDiff, Nat.reduceBEq, Nat.reduceDiv, Nat.reduceMod, Int.reduceToNat, Int.reduceLT, Int.reduceLE, Int.reduceAdd, Int.reduceSub, Int.reduceMul, Int.reduceEq, Int.reduceNeg, reduceCtorEq, resV, resAll, ARes.ev, LV.flat, ite_true, ite_false, exists_eq_left', exists_eq_left, keyOf, implies_true, fillC, capOf]
    exact cmp_drop rfl
  by_cases h3 : g.z = h.z
  rotate_left
  · rw [decide_eq_false (fun e => h3 (congrArg Cell.c e.1))]
    simp (disch := omega) only [C.laws_vHeap, h1, h2, h3, ↓SXd, SXu, slBounds, ↓sop, ↓aop, ↓reduceIte, LV.cells, AOp.dst, LV.I, LV.B, LV.U, LV.S, LV.nil, Nat.reduceEqDiff, Nat.reduceAdd, Nat.reduceMul, Nat.reduceSub, Nat.reduceLeDiff, Nat.reduceBEq, Nat.reduceDiv, Nat.reduceMod, Int.reduceToNat, Int.reduceLT, Int.reduceLE, Int.reduceAdd, Int.reduceSub, Int.reduceMul, Int.reduceEq, Int.reduceNeg, reduceCtorEq, resV, resAll, ARes.ev, LV.flat, ite_true, ite_false, exists_eq_left', exists_eq_left, keyOf, implies_true, fillC, capOf]
    exact cmp_drop rfl
  have hd : g.dims = h.dims := by unfold Hp.dims; rw [h1, h2, h3]
  simp (disch := omega) only [C.laws_vHeap, h1, h2, h3, ↓SXd, SXu, slBounds, ↓sop, ↓aop, ↓reduceIte, LV.cells, AOp.dst, LV.I, LV.B, LV.U, LV.S, LV.nil, Nat.reduceEqDiff, Nat.reduceAdd, Nat.reduceMul, Nat.reduceSub, Nat.reduceLeDiff, Nat.reduceBEq, Nat.reduceDiv, Nat.reduceMod, Int.reduceToNat, Int.reduceLT, Int.reduceLE, Int.reduceAdd, Int.reduceSub, Int.reduceMul, Int.reduceEq, Int.reduceNeg, reduceCtorEq, resV, resAll, ARes.ev, LV.flat, ite_true, ite_false, exists_eq_left', exists_eq_left, keyOf, implies_true, fillC, capOf]
  refine callK_of (k_vCells (hg.pre (Pre.app _ _)) (hh.pre (Pre.app _ _)) hn hn') ?_
  simp (disch := omega) only [↓SXd, SXu, slBounds, ↓sop, ↓aop, ↓reduceIte, LV.cells, AOp.dst, LV.I, LV.B, LV.U, LV.S, LV.nil, Nat.reduceEqDiff, Nat.reduceAdd, Nat.reduceMul, Nat.reduceSub, Nat.reduceLeDiff, Nat.reduceBEq, Nat.reduceDiv, Nat.reduceMod, Int.reduceToNat, Int.reduceLT, Int.reduceLE, Int.reduceAdd, Int.reduceSub, Int.reduceMul, Int.reduceEq, Int.reduceNeg, reduceCtorEq, resV, resAll, ARes.ev, LV.flat, ite_true, ite_false, exists_eq_left', exists_eq_left, keyOf, implies_true, fillC, capOf]
  rw [show decide (g.dims = h.dims ∧ g.cs = h.cs) = decide (g.cs = h.cs) from decide_eq_decide.2 ⟨fun e => e.2, fun e => ⟨hd, e⟩⟩]
  exact cmp_drop rfl
theorem k_vWithin {l l' : List Cell} {v v' : LV} {M : Mem} (h : CellsV M v l) (h' : CellsV M v' l') (hn : l.length ≤ 1000000000) (hn' : l'.length ≤ 1000000000) (hall : ∀ c ∈ l, c ∈ l') : CallsTo PG F.laws_vWithin [v, v'] M (.B true) M := by
  refine calls_run K.laws_vWithin rfl ?_
  have hv := h.lenV
  simp (disch := omega) only [C.laws_vWithin, ↓SXd, SXu, slBounds, ↓sop, ↓aop, ↓reduceIte, LV.cells, AOp.dst, LV.I, LV.B, LV.U, LV.S, LV.nil, Nat.reduceEqDiff, Nat.reduceAdd, Nat.reduceMul, Nat.reduceSub, Nat.reduceLeDiff, Nat.reduceBEq, Nat.reduceDiv, Nat.reduceMod, Int.reduceToNat, Int.reduceLT, Int.reduceLE, Int.reduceAdd, Int.reduceSub, Int.reduceMul, Int.reduceEq, Int.reduceNeg, reduceCtorEq, resV, resAll, ARes.ev, LV.flat, ite_true, ite_false, exists_eq_left', exists_eq_left, keyOf, implies_true, fillC, capOf]
  refine ev_loop (fun m fr M' => ∃ k : Nat, k + m = l.length ∧ M' = M ∧ fr 0 = v ∧ fr 1 = v' ∧ fr 5 = .I k) l.length ⟨0, by omega, rfl, rfl, rfl, rfl⟩ ?_
  rintro m fr M' ⟨k, hk, rfl, h0, h1, h5⟩
  simp (disch := omega) only [h0, h1, h5, hv, ↓SXd, SXu, slBounds, ↓sop, ↓aop, ↓reduceIte, LV.cells, AOp.dst, LV.I, LV.B, LV.U, LV.S, LV.nil, Nat.reduceEqDiff, Nat.reduceAdd, Nat.reduceMul, Nat.reduceSub, Nat.reduceLeDiff, Nat.reduceBEq, Nat.reduceDiv, Nat.reduceMod, Int.reduceToNat, Int.reduceLT, Int.reduceLE, Int.reduceAdd, Int.reduceSub, Int.reduceMul, Int.reduceEq, Int.reduceNeg, reduceCtorEq, resV, resAll, ARes.ev, LV.flat, ite_true, ite_false, exists_eq_left', exists_eq_left, keyOf, implies_true, fillC, capOf]
  refine condC_dec (fun hlt => ?_) (fun hlt => ?_)
  · obtain ⟨t, o, rfl, hg⟩ := h.at (k := k) (by omega)
    have hin := hall _ (getD_mem' (d := default) (show k < l.length by omega))
    simp (disch := omega) only [h0, h1, h5, hg, Cell.row, ↓SXd, SXu, slBounds, ↓sop, ↓aop, ↓reduceIte, LV.cells, AOp.dst, LV.I, LV.B, LV.U, LV.S, LV.nil, Nat.reduceEqDiff, Nat.reduceAdd, Nat.reduceMul, Nat.reduceSub, Nat.reduceLeDiff, Nat.reduceBEq, Nat.reduceDiv, Nat.reduceMod, Int.reduceToNat, Int.reduceLT, Int.reduceLE, Int.reduceAdd, Int.reduceSub, Int.reduceMul, Int.reduceEq, Int.reduceNeg, reduceCtorEq, resV, resAll, ARes.ev, LV.flat, ite_true, ite_false, exists_eq_left', exists_eq_left, keyOf, implies_true, fillC, capOf]
    refine callK_of (k_vIn (c := l.getD k default) h' hn') ?_
    simp (disch := omega) only [h0, h1, h5, hin, ↓SXd, SXu, slBounds, ↓sop, ↓aop, ↓reduceIte, LV.cells, AOp.dst, LV.I, LV.B, LV.U, LV.S, LV.nil, Nat.reduceEqDiff, Nat.reduceAdd, Nat.reduceMul, Nat.reduceSub, Nat.reduceLeDiff, Nat.reduceBEq, Nat.reduceDiv, Nat.reduceMod, Int.reduceToNat, Int.reduceLT, Int.reduceLE, Int.reduceAdd, Int.reduceSub, Int.reduceMul, Int.reduceEq, Int.reduceNeg, reduceCtorEq, resV, resAll, ARes.ev, LV.flat, ite_true, ite_false, exists_eq_left', exists_eq_left, keyOf, implies_true, fillC, capOf]
    exact ⟨m - 1, by omega, k + 1, by omega, rfl, h0, h1, eqI (natI _)⟩
  · simp (disch := omega) only [h0, h1, h5, ↓SXd, SXu, slBounds, ↓sop, ↓aop, ↓reduceIte, LV.cells, AOp.dst, LV.I, LV.B, LV.U, LV.S, LV.nil, Nat.reduceEqDiff, Nat.reduceAdd, Nat.reduceMul, Nat.reduceSub, Nat.reduceLeDiff, Nat.reduceBEq, Nat.reduceDiv, Nat.reduceMod, Int.reduceToNat, Int.reduceLT, Int.reduceLE, Int.reduceAdd, Int.reduceSub, Int.reduceMul, Int.reduceEq, Int.reduceNeg, reduceCtorEq, resV, resAll, ARes.ev, LV.flat, ite_true, ite_false, exists_eq_left', exists_eq_left, keyOf, implies_true, fillC, capOf]
    exact cmp_drop0 rfl
end Go.Ab
