/- Parts of the proof of FnDominoesSaid: Tk Tl Tt Hi C_Jb K_Jb C_Ja K_Ja C_Zd K_Zd C_Zc K_Zc C_Zb K_Zb C_Za K_Za Za C_Yh K_Yh C_Yf K_Yf Yf C_Gf K_Gf C_Gc K_Gc Gc Gf Yg Yh Zb C_Yi K_Yi Yi Zc Zd Ja Jb Jc Jf C_Jh K_Jh C_Jg K_Jg Jg Jh C_Hk K_Hk C_Tr K_Tr C_Tp K_Tp C_Tn K_Tn C_Tm K_Tm Tm Tn Tp Tr C_Tq K_Tq Tq C_Tz K_Tz Tz Hk Ji C_Yo K_Yo C_Yn K_Yn Yj C_Og K_Og C_Of K_Of Of Og Oi Yk Yl C_Cd K_Cd Ca C_Zh K_Zh C_Zg K_Zg C_Ze K_Ze Ze Zf Zg Zh Zi C_Bk K_Bk C_Bh K_Bh C_Ej K_Ej C_Ed2 K_Ed2 C_Ec2 K_Ec2 C_Eg K_Eg C_Ef K_Ef C_Ee K_Ee C_Ed K_Ed C_Ec K_Ec C_Eb3 K_Eb3 C_Eb2 K_Eb2. -/
import Derived.Test.YtggnfklcgopflaaA7
import Derived.Test.YtggnfklcgopflaaA4
import Derived.Test.YtggnfklcgopflaaA6
import Derived.Test.YtggnfklcgopflaaA3
import Derived.Test.YtggnfklcgopflaaProg
import Derived.KernelRfl
import Derived.Test.YtggnfklcgopflaaA5
set_option linter.all false
/- Contracts: the program's turned heaps. -/
namespace Go.Ab
open Go
set_option linter.unusedSimpArgs false
set_option linter.unusedVariables false

theorem g_moved {x y z X Y Z : Int} {t o : Nat} {cs : List Cell} {g : Cell → Cell} {f : FuncId} {caps : List (Nat × Nat)} {M : Mem} (h : Tri M t o cs) (hn : cs.length ≤ 1000000) (hS : Sides X Y Z) (hin : ∀ c ∈ cs, (g c).inBox X Y Z)
    (hf : ∀ M', Pre M M' → ∀ c ∈ cs, CallsTo PG f ([.agg [.I c.a, .I c.b, .I c.c]] ++ caps.map fun p => .ptr p.1 p.2) M' (.agg [.I (g c).a, .I (g c).b, .I (g c).c]) M') :
    CallsTo PG F.impl_Heap_moved [.agg [.I x, .I y, .I z, .ref t o cs.length], .agg [.I X, .I Y, .I Z], .clo f caps] M (.agg [.I X, .I Y, .I Z, .ref M.length 0 (pick X Y Z fun d => decide (d ∈ cs.map g)).length])
      (M ++ [some (.row (triL (pick X Y Z fun d => decide (d ∈ cs.map g))) true 3)]) := by
  have ht := h.lt
  refine calls_run K.impl_Heap_moved rfl ?_
  simp (disch := omega) only [C.impl_Heap_moved, ↓SXd, SXu, slBounds, ↓sop, ↓aop, ↓reduceIte, LV.cells, AOp.dst, LV.I, LV.B, LV.U, LV.S, LV.nil, Nat.reduceEqDiff, Nat.reduceAdd, Nat.reduceMul, Nat.reduceSub, Nat.reduceLeDiff, Nat.reduceBEq, Nat.reduceDiv, Nat.reduceMod, Int.reduceToNat, Int.reduceLT, Int.reduceLE, Int.reduceAdd, Int.reduceSub, Int.reduceMul, Int.reduceEq, Int.reduceNeg, reduceCtorEq, resV, resAll, ARes.ev, LV.flat, ite_true, ite_false, exists_eq_left', exists_eq_left, keyOf, implies_true, fillC, capOf]
  have hLl : (cs.map g).length = cs.length := List.length_map ..
  have hLg : ∀ i, i < cs.length → (cs.map g).getD i default = g (cs.getD i default) := fun i hi => by simp [hi]
  generalize cs.map g = L at hLl hLg ⊢
  refine ev_loop (fun m fr M' => ∃ i : Nat, i + m = cs.length ∧ Pre M M' ∧ Live M' M.length (.row [.I x, .I y, .I z, .ref t o cs.length] true 0) ∧ Live M' (M.length + 1) (.row [.I X, .I Y, .I Z] true 0) ∧ Live M' (M.length + 2) (.row [.I 0, .I 0, .I 0, .nil] true 0) ∧
    fr 2 = .clo f caps ∧ fr 3 = .ptr M.length 0 ∧ fr 4 = .ptr (M.length + 1) 0 ∧ fr 6 = .ptr (M.length + 2) 0 ∧ fr 7 = .W (bs X Y Z fun d => decide (d ∈ L.take i)) ∧ fr 11 = .ref t o cs.length ∧ fr 12 = .I cs.length ∧ fr 13 = .I i) cs.length
    ⟨0, by omega, Pre.app _ _, Live.new, Live.newj rfl, Live.newj rfl, rfl, rfl, rfl, rfl, by rw [show (bs X Y Z fun d => decide (d ∈ L.take 0)) = 0#64 from (bs_zero hS).2 fun c _ => by simp]; rfl, rfl, rfl, rfl⟩ ?_
  rintro m fr M' ⟨i, hi, hpre, b3, b4, b6, f2, f3, f4, f6, f7, f11, f12, f13⟩
  simp (disch := omega) only [f2, f3, f4, f6, f7, f11, f12, f13, ↓SXd, SXu, slBounds, ↓sop, ↓aop, ↓reduceIte, LV.cells, AOp.dst, LV.I, LV.B, LV.U, LV.S, LV.nil, Nat.reduceEqDiff, Nat.reduceAdd, Nat.reduceMul, Nat.reduceSub, Nat.reduceLeDiff, Nat.reduceBEq, Nat.reduceDiv, Nat.reduceMod, Int.reduceToNat, Int.reduceLT, Int.reduceLE, Int.reduceAdd, Int.reduceSub, Int.reduceMul, Int.reduceEq, Int.reduceNeg, reduceCtorEq, resV, resAll, ARes.ev, LV.flat, ite_true, ite_false, exists_eq_left', exists_eq_left, keyOf, implies_true, fillC, capOf]
  refine condC_dec (fun hlt => ?_) (fun hlt => ?_)
  · have hil : i < cs.length := by omega
    have hg := Tri.get (h.pre hpre) hil
    have hmem := getD_mem' (d := default) hil
    have hLi := hLg i hil
    have htd := fun d => take_dec (cs := L) (k := i) (c := d) (by omega)
    have hgi := hin _ hmem
    have hfi := hf (M' ++ [some (.row [.I (cs.getD i default).a, .I (cs.getD i default).b, .I (cs.getD i default).c] true 0)]) (hpre.trans (Pre.app _ _)) _ hmem
    generalize cs.getD i default = c at hg hLi hmem hgi hfi
    have hix := (idx_in hS hgi).1
    have hl6 := b6.lt
    simp (disch := omega) only [f2, f3, f4, f6, f7, f11, f12, f13, hg, Cell.row, splice, b4.app.cells, List.getElem?_append_left, ↓SXd, SXu, slBounds, ↓sop, ↓aop, ↓reduceIte, LV.cells, AOp.dst, LV.I, LV.B, LV.U, LV.S, LV.nil, Nat.reduceEqDiff, Nat.reduceAdd, Nat.reduceMul, Nat.reduceSub, Nat.reduceLeDiff, Nat.reduceBEq, Nat.reduceDiv, Nat.reduceMod, Int.reduceToNat, Int.reduceLT, Int.reduceLE, Int.reduceAdd, Int.reduceSub, Int.reduceMul, Int.reduceEq, Int.reduceNeg, reduceCtorEq, resV, resAll, ARes.ev, LV.flat, ite_true, ite_false, exists_eq_left', exists_eq_left, keyOf, implies_true, fillC, capOf]
    refine callK_of hfi ?_
    simp (disch := omega) only [f2, f3, f4, f6, f7, f11, f12, f13, List.getElem?_append_left, ↓SXd, SXu, slBounds, ↓sop, ↓aop, ↓reduceIte, LV.cells, AOp.dst, LV.I, LV.B, LV.U, LV.S, LV.nil, Nat.reduceEqDiff, Nat.reduceAdd, Nat.reduceMul, Nat.reduceSub, Nat.reduceLeDiff, Nat.reduceBEq, Nat.reduceDiv, Nat.reduceMod, Int.reduceToNat, Int.reduceLT, Int.reduceLE, Int.reduceAdd, Int.reduceSub, Int.reduceMul, Int.reduceEq, Int.reduceNeg, reduceCtorEq, resV, resAll, ARes.ev, LV.flat, ite_true, ite_false, exists_eq_left', exists_eq_left, keyOf, implies_true, fillC, capOf]
    refine callK_of (g_index hS hgi) ?_
    simp (disch := omega) only [f2, f3, f4, f6, f7, f11, f12, f13, ↓SXd, SXu, slBounds, ↓sop, ↓aop, ↓reduceIte, LV.cells, AOp.dst, LV.I, LV.B, LV.U, LV.S, LV.nil, Nat.reduceEqDiff, Nat.reduceAdd, Nat.reduceMul, Nat.reduceSub, Nat.reduceLeDiff, Nat.reduceBEq, Nat.reduceDiv, Nat.reduceMod, Int.reduceToNat, Int.reduceLT, Int.reduceLE, Int.reduceAdd, Int.reduceSub, Int.reduceMul, Int.reduceEq, Int.reduceNeg, reduceCtorEq, resV, resAll, ARes.ev, LV.flat, ite_true, ite_false, exists_eq_left', exists_eq_left, keyOf, implies_true, fillC, capOf]
    rw [bs_one hS hgi, bs_or hS, show (bs X Y Z fun d => decide (d ∈ L.take i) || decide (d = g c)) = bs X Y Z fun d => decide (d ∈ L.take (i + 1)) from (bs_eq hS).2 fun d _ => by rw [← hLi]; exact htd d]
    exact ⟨m - 1, by omega, i + 1, by omega, hpre.app', b3.app, b4.app, b6.app, f2, f3, f4, f6, rfl, f11, f12, eqI (natI _)⟩
  · simp (disch := omega) only [f2, f3, f4, f6, f7, f11, f12, f13, b4.cells, ↓SXd, SXu, slBounds, ↓sop, ↓aop, ↓reduceIte, LV.cells, AOp.dst, LV.I, LV.B, LV.U, LV.S, LV.nil, Nat.reduceEqDiff, Nat.reduceAdd, Nat.reduceMul, Nat.reduceSub, Nat.reduceLeDiff, Nat.reduceBEq, Nat.reduceDiv, Nat.reduceMod, Int.reduceToNat, Int.reduceLT, Int.reduceLE, Int.reduceAdd, Int.reduceSub, Int.reduceMul, Int.reduceEq, Int.reduceNeg, reduceCtorEq, resV, resAll, ARes.ev, LV.flat, ite_true, ite_false, exists_eq_left', exists_eq_left, keyOf, implies_true, fillC, capOf]
    have : i = cs.length := by omega
    subst this
    rw [← hLl, List.take_length]
    refine callH_of (g_heap hS) ?_
    intro tn N htn hp2 hnr
    simp (disch := omega) only [f2, f3, f4, f6, f7, f11, f12, f13, ↓SXd, SXu, slBounds, ↓sop, ↓aop, ↓reduceIte, LV.cells, AOp.dst, LV.I, LV.B, LV.U, LV.S, LV.nil, Nat.reduceEqDiff, Nat.reduceAdd, Nat.reduceMul, Nat.reduceSub, Nat.reduceLeDiff, Nat.reduceBEq, Nat.reduceDiv, Nat.reduceMod, Int.reduceToNat, Int.reduceLT, Int.reduceLE, Int.reduceAdd, Int.reduceSub, Int.reduceMul, Int.reduceEq, Int.reduceNeg, reduceCtorEq, resV, resAll, ARes.ev, LV.flat, ite_true, ite_false, exists_eq_left', exists_eq_left, keyOf, implies_true, fillC, capOf]
    have hN := hp2.1
    have hl6 := b6.lt
    refine memK_box (b6.pre hp2) (by simp) fun N3 k1 k2 k3 => ?_
    simp (disch := omega) only [f2, f3, f4, f6, f7, f11, f12, f13, k2.cells, ↓SXd, SXu, slBounds, ↓sop, ↓aop, ↓reduceIte, LV.cells, AOp.dst, LV.I, LV.B, LV.U, LV.S, LV.nil, Nat.reduceEqDiff, Nat.reduceAdd, Nat.reduceMul, Nat.reduceSub, Nat.reduceLeDiff, Nat.reduceBEq, Nat.reduceDiv, Nat.reduceMod, Int.reduceToNat, Int.reduceLT, Int.reduceLE, Int.reduceAdd, Int.reduceSub, Int.reduceMul, Int.reduceEq, Int.reduceNeg, reduceCtorEq, resV, resAll, ARes.ev, LV.flat, ite_true, ite_false, exists_eq_left', exists_eq_left, keyOf, implies_true, fillC, capOf]
    exact cmp_keepL (pre_step (hpre.trans hp2) (by omega) (j := 0) k1 k3) (by omega) (live_step hnr (by omega) k3) (triL_lo _) (by simp [rn, rn0, rn1])

end Go.Ab

/- Contracts: the program's least boxes. -/
namespace Go.Ab
open Go
set_option linter.unusedSimpArgs false
set_option linter.unusedVariables false

def leC (a b : Cell) : Prop := a.a ≤ b.a ∧ a.b ≤ b.b ∧ a.c ≤ b.c
end Go.Ab

/- Plain words: the turns as a group; forms of turned heaps; symmetries and positions. -/
namespace Go.Ab
open Go
set_option linter.unusedSimpArgs false
set_option linter.unusedVariables false
set_option maxRecDepth 20000

def xorI (a b : Int) : Int := if a = b then 0 else 1
/-- First the one turn, then the other. -/
def behind (t u : Turn) : Turn := ⟨⟨t.fr.at u.fr.a, t.fr.at u.fr.b, t.fr.at u.fr.c⟩, ⟨xorI (t.fl.at u.fr.a) u.fl.a, xorI (t.fl.at u.fr.b) u.fl.b, xorI (t.fl.at u.fr.c) u.fl.c⟩⟩
def oneT : Turn := ⟨⟨0, 1, 2⟩, ⟨0, 0, 0⟩⟩
def invT (t : Turn) : Turn := (turns.find? fun u => decide (behind t u = oneT)).getD oneT
def Bit (n : Int) : Prop := n = 0 ∨ n = 1
def BitT (t : Turn) : Prop := Bit t.fl.a ∧ Bit t.fl.b ∧ Bit t.fl.c
instance (n : Int) : Decidable (Bit n) := by unfold Bit; exact inferInstance
instance (t : Turn) : Decidable (BitT t) := by unfold BitT; exact inferInstance
def turnS (x y z x' y' z' : Int) (T : Turn) (p : Cell) : Cell :=
  ⟨if T.fl.a = 1 then sideOf x' y' z' T.fr.a - sideOf x y z T.fr.a - p.at T.fr.a else p.at T.fr.a, if T.fl.b = 1 then sideOf x' y' z' T.fr.b - sideOf x y z T.fr.b - p.at T.fr.b else p.at T.fr.b, if T.fl.c = 1 then sideOf x' y' z' T.fr.c - sideOf x y z T.fr.c - p.at T.fr.c else p.at T.fr.c⟩
section
variable {x y z : Int} {cs : List Cell} (hH : HeapOK x y z cs) (h0 : 0 < cs.length)
include hH
include h0
end

section
variable {x y z : Int} {cs : List Cell} (hH : HeapOK x y z cs)
include hH
end

def mir2C (z : Int) (c : Cell) : Cell := ⟨c.a, c.b, z - 1 - c.c⟩
def mir2Hp (x y z : Int) (cs : List Cell) : List Cell := pick x y z fun d => decide (d ∈ cs.map (mir2C z))
end Go.Ab

/- Contracts: a form that a law draws; turned and mirrored heaps. -/
namespace Go.Ab
open Go
set_option linter.unusedSimpArgs false
set_option linter.unusedVariables false
set_option maxRecDepth 20000

/-- What TurnHeap answers. -/
noncomputable def turnOf (x y z : Int) (cs : List Cell) (k : Int) : Option Hp := by
  classical
  exact if HeapOK x y z cs ∧ (0 ≤ k ∧ k ≤ 23) then some (turnHp x y z (turns.getD k.toNat oneT) cs) else none
/-- A heap and true. -/
def HeapT (M : Mem) (r : Hp) (v : LV) (N : Mem) : Prop := ∃ u : Nat, v = .tup [.agg [.I r.x, .I r.y, .I r.z, .ref u 0 r.cs.length], .B true] ∧ Live N u (.row (triL r.cs) true 3) ∧ M.length ≤ u
/-- Mirrored in a direction. -/
def mirDC (x y z : Int) (d : Int) (c : Cell) : Cell := ⟨if d = 0 then x - 1 - c.a else c.a, if d = 1 then y - 1 - c.b else c.b, if d = 2 then z - 1 - c.c else c.c⟩
def mirD (x y z : Int) (d : Int) (cs : List Cell) : List Cell := pick x y z fun e => decide (e ∈ cs.map (mirDC x y z d))
theorem mirDC_in {x y z d : Int} {c : Cell} (hc : c.inBox x y z) : (mirDC x y z d c).inBox x y z := by
  obtain ⟨⟨_, _⟩, ⟨_, _⟩, ⟨_, _⟩⟩ := hc
  unfold mirDC
  refine ⟨⟨?_, ?_⟩, ⟨?_, ?_⟩, ⟨?_, ?_⟩⟩ <;> simp only <;> split <;> omega
theorem Live.only {M N : Mem} {q : Nat} {b0 : Blk} (h : Live M q b0) (k : Live N q b0) : ∀ b, M[q]? = some (some b) → N[q]? = some (some b) := fun b hb => by
  have e : some (some b0) = some (some b) := Eq.trans (Eq.symm h) hb
  cases e
  exact k
end Go.Ab

/- The abstract code of some functions (written by a program of mine from the translation, by way of prepF). -/
namespace Go.Ab.C
open Go.Ab
def impl_FreeParity : AFn :=
 ⟨1, 13, [.tmp 2, .tmp 3],
 .seq (.ops [(none, .box 1 (.t 0)),
 (none, .mv 2 (.c (.I 0))),
 (none, .mv 3 (.c (.B false)))])
 (.seq (.seq (.ops [(none, .loadN 4 4 (.t 1)),
 (none, .call (some 5) F.impl_IsHeap [(.t 4)]),
 (none, .un 6 .not (.t 5))])
 (.cond (.t 6) (.seq (.ops [(none, .mv 2 (.c (.I 0))),
 (none, .mv 3 (.c (.B false)))])
 (.ret))
 (.skip)))
 (.seq (.draw [⟨(none, .loadN 7 4 (.t 1)), [], []⟩,
 ⟨(none, .loadN 9 4 (.t 1)), [], []⟩,
 ⟨(none, .call (some 8) F.impl_Heap_box [(.t 7)]), [], [1]⟩,
 ⟨(none, .call (some 10) F.impl_Heap_free [(.t 9)]), [], []⟩,
 ⟨(none, .call (some 11) F.impl_box_list [(.t 8), (.t 10)]), [], []⟩,
 ⟨(none, .call (some 12) F.impl_parity [(.t 11)]), [], []⟩,
 ⟨(none, .mv 2 (.t 12)), [], []⟩,
 ⟨(none, .mv 3 (.c (.B true))), [], []⟩])
 (.ret)))⟩
end Go.Ab.C

/- That the program has this code. -/
namespace Go.Ab.K
open Go Go.Ab
theorem impl_FreeParity : prepF Go.Proofs.Try.prog F.impl_FreeParity = some C.impl_FreeParity := by kernel_rfl
end Go.Ab.K

/- The abstract code of some functions (written by a program of mine from the translation, by way of prepF). -/
namespace Go.Ab.C
open Go.Ab
end Go.Ab.C

/- That the program has this code. -/
namespace Go.Ab.K
open Go Go.Ab
end Go.Ab.K

/- The abstract code of some functions (written by a program of mine from the translation, by way of prepF). -/
namespace Go.Ab.C
open Go.Ab
def spec_l9Place : AFn :=
 ⟨2, 19, [.tmp 4],
 .seq (.ops [(none, .box 2 (.t 0)),
 (none, .box 3 (.t 1)),
 (none, .mv 4 (.c (.I 0)))])
 (.seq (.ops [(none, .idxA 5 3 1 (.t 3) (.c (.I 0))),
 (none, .load1 6 (.t 5)),
 (none, .fieldAddr 7 (.t 2) 1),
 (none, .load1 8 (.t 7)),
 (none, .bin 9 .mul (.t 6) (.t 8)),
 (none, .idxA 10 3 1 (.t 3) (.c (.I 1))),
 (none, .load1 11 (.t 10)),
 (none, .bin 12 .add (.t 9) (.t 11)),
 (none, .fieldAddr 13 (.t 2) 2),
 (none, .load1 14 (.t 13)),
 (none, .bin 15 .mul (.t 12) (.t 14)),
 (none, .idxA 16 3 1 (.t 3) (.c (.I 2))),
 (none, .load1 17 (.t 16)),
 (none, .bin 18 .add (.t 15) (.t 17)),
 (none, .mv 4 (.t 18))])
 (.ret))⟩
end Go.Ab.C

/- That the program has this code. -/
namespace Go.Ab.K
open Go Go.Ab
theorem spec_l9Place : prepF Go.Proofs.Try.prog F.spec_l9Place = some C.spec_l9Place := by kernel_rfl
end Go.Ab.K

/- The abstract code of some functions (written by a program of mine from the translation, by way of prepF). -/
namespace Go.Ab.C
open Go.Ab
end Go.Ab.C

/- That the program has this code. -/
namespace Go.Ab.K
open Go Go.Ab
end Go.Ab.K

/- The abstract code of some functions (written by a program of mine from the translation, by way of prepF). -/
namespace Go.Ab.C
open Go.Ab
end Go.Ab.C

/- That the program has this code. -/
namespace Go.Ab.K
open Go Go.Ab
end Go.Ab.K

/- The abstract code of some functions (written by a program of mine from the translation, by way of prepF). -/
namespace Go.Ab.C
open Go.Ab
end Go.Ab.C

/- That the program has this code. -/
namespace Go.Ab.K
open Go Go.Ab
end Go.Ab.K

/- Contracts: the laws' helpers on lists of pairs of numbers. -/
namespace Go.Ab
open Go
set_option linter.unusedSimpArgs false
set_option linter.unusedVariables false
set_option maxRecDepth 20000

/-- A list of n pairs, number by number, that is one's own. -/
def SlF (N : Mem) (v : LV) (n : Nat) (Z : List Int) : Prop := Z.length = n * 2 ∧ ((v = .nil ∧ n = 0) ∨ ∃ t, v = .ref t 0 n ∧ Live N t (.row (intL Z) true 2))
theorem SlF.pre {M N : Mem} {v : LV} {n : Nat} {Z : List Int} (h : SlF M v n Z) (hp : Pre M N) : SlF N v n Z := by
  obtain ⟨h0, h | ⟨t, h1, h2⟩⟩ := h
  · exact ⟨h0, .inl h⟩
  · exact ⟨h0, .inr ⟨t, h1, h2.pre hp⟩⟩
theorem SlF.lenV {N : Mem} {v : LV} {n : Nat} {Z : List Int} (h : SlF N v n Z) : lenV v = some (n : Int) := by
  obtain ⟨h0, ⟨rfl, rfl⟩ | ⟨t, rfl, h2⟩⟩ := h <;> rfl
theorem SlF.older {M : Mem} {v : LV} {n : Nat} {Z : List Int} (h : SlF M v n Z) : Older M v := fun t o m e => by
  obtain ⟨h0, ⟨rfl, rfl⟩ | ⟨t', rfl, h2⟩⟩ := h
  · cases e
  · cases e; exact h2.lt
theorem SlF.at {M N : Mem} {w : LV} {n : Nat} {Z : List Int} (h : SlF M w n Z) (hk : ∀ t o m, w = .ref t o m → N[t]? = M[t]?) : SlF N w n Z := by
  obtain ⟨h0, h | ⟨t, h1, h2⟩⟩ := h
  · exact ⟨h0, .inl h⟩
  · refine ⟨h0, .inr ⟨t, h1, ?_⟩⟩
    unfold Live; rw [hk _ _ _ h1]; exact h2
end Go.Ab

/- The abstract code of some functions (written by a program of mine from the translation, by way of prepF). -/
namespace Go.Ab.C
open Go.Ab
end Go.Ab.C

/- That the program has this code. -/
namespace Go.Ab.K
open Go Go.Ab
end Go.Ab.K

/- The abstract code of some functions (written by a program of mine from the translation, by way of prepF). -/
namespace Go.Ab.C
open Go.Ab
end Go.Ab.C

/- That the program has this code. -/
namespace Go.Ab.K
open Go Go.Ab
end Go.Ab.K

/- Contracts: pieces placed in a box, the program's side. -/
namespace Go.Ab
open Go
set_option linter.unusedSimpArgs false
set_option linter.unusedVariables false
set_option maxRecDepth 20000

def At4 (at' : Cell) : Prop := (0 ≤ at'.a ∧ at'.a ≤ 4) ∧ (0 ≤ at'.b ∧ at'.b ≤ 4) ∧ (0 ≤ at'.c ∧ at'.c ≤ 4)
def PlacedOK (x y z : Int) (fr : Cell → Bool) (l : List Cell) (at' : Cell) : Prop := At4 at' ∧ ∀ c ∈ l, (shift at' c).inBox x y z ∧ fr (shift at' c) = true
noncomputable instance {x y z : Int} {fr : Cell → Bool} {l : List Cell} {at' : Cell} : Decidable (PlacedOK x y z fr l at') := Classical.propDecidable _
instance {at' : Cell} : Decidable (At4 at') := by unfold At4; exact inferInstance
end Go.Ab

/- The abstract code of some functions (written by a program of mine from the translation, by way of prepF). -/
namespace Go.Ab.C
open Go.Ab
end Go.Ab.C

/- That the program has this code. -/
namespace Go.Ab.K
open Go Go.Ab
end Go.Ab.K

/- The abstract code of some functions (written by a program of mine from the translation, by way of prepF). -/
namespace Go.Ab.C
open Go.Ab
end Go.Ab.C

/- That the program has this code. -/
namespace Go.Ab.K
open Go Go.Ab
end Go.Ab.K

/- Contracts: marks that are held, on lists of cells and on heaps. -/
namespace Go.Ab
open Go
set_option linter.unusedSimpArgs false
set_option linter.unusedVariables false

end Go.Ab

/- Contracts: the laws' helpers on lists of lists of cells. -/
namespace Go.Ab
open Go
set_option linter.unusedSimpArgs false
set_option linter.unusedVariables false

/-- A list of lists of cells that may be read. -/
def CssV (N : Mem) (v : LV) (L : List (List Cell)) : Prop := (v = .nil ∧ L = []) ∨ ∃ (t : Nat) (refs : List LV), v = .ref t 0 L.length ∧ Live N t (.row refs true 1) ∧ refs.length = L.length ∧ ∀ i, i < L.length → ∃ r, refs[i]? = some r ∧ CellsV N r (L.getD i [])
/-- A list of lists of cells that is one's own, and behind M. -/
def SlCC (M N : Mem) (v : LV) (L : List (List Cell)) : Prop := (v = .nil ∧ L = []) ∨ ∃ (t : Nat) (refs : List LV), v = .ref t 0 L.length ∧ M.length ≤ t ∧ Live N t (.row refs true 1) ∧ refs.length = L.length ∧
  (∀ i, i < L.length → ∃ r, refs[i]? = some r ∧ SlC N r (L.getD i []) ∧ Newer M r) ∧ ∀ (i j : Nat) (r s : LV), i ≠ j → refs[i]? = some r → refs[j]? = some s → Apart r s
theorem CssV.lenV {N : Mem} {v : LV} {L : List (List Cell)} (h : CssV N v L) : lenV v = some (L.length : Int) := by
  rcases h with ⟨rfl, rfl⟩ | ⟨t, refs, rfl, _⟩ <;> rfl
theorem SlCC.v {M N : Mem} {v : LV} {L : List (List Cell)} (h : SlCC M N v L) : CssV N v L := by
  rcases h with h | ⟨t, refs, h1, h2, h3, h4, h5, _⟩
  · exact .inl h
  · exact .inr ⟨t, refs, h1, h3, h4, fun i hi => by obtain ⟨r, k1, k2, _⟩ := h5 i hi; exact ⟨r, k1, k2.v⟩⟩
theorem CssV.pre {M N : Mem} {v : LV} {L : List (List Cell)} (h : CssV M v L) (hp : Pre M N) : CssV N v L := by
  rcases h with h | ⟨t, refs, h1, h3, h4, h5⟩
  · exact .inl h
  · exact .inr ⟨t, refs, h1, h3.pre hp, h4, fun i hi => by obtain ⟨r, k1, k2⟩ := h5 i hi; exact ⟨r, k1, k2.pre hp⟩⟩
/-- What is not behind M may have changed. -/
theorem SlCC.keep {M N N' : Mem} {v : LV} {L : List (List Cell)} (h : SlCC M N v L) (hp : ∀ u, M.length ≤ u → u < N.length → N'[u]? = N[u]?) : SlCC M N' v L := by
  have hl : ∀ {u : Nat} {b : Blk}, Live N u b → M.length ≤ u → Live N' u b := fun {u b} hL hu => by unfold Live; rw [hp u hu hL.lt]; exact hL
  rcases h with h | ⟨t, refs, h1, h2, h3, h4, h5, h6⟩
  · exact .inl h
  · refine .inr ⟨t, refs, h1, h2, hl h3 h2, h4, fun i hi => ?_, h6⟩
    obtain ⟨r, k1, k2, k3⟩ := h5 i hi
    refine ⟨r, k1, ?_, k3⟩
    rcases k2 with k2 | ⟨t', ex, q1, q2⟩
    · exact .inl k2
    · refine .inr ⟨t', ex, q1, hl q2 (Nat.not_lt.1 fun h => ?_)⟩
      rw [q1] at k3
      exact (k3 t' h) rfl
theorem SlCC.pre {M N N' : Mem} {v : LV} {L : List (List Cell)} (h : SlCC M N v L) (hp : Pre N N') : SlCC M N' v L := h.keep fun u _ hu => hp.2 u hu
theorem SlCC.mono {M M' N : Mem} {v : LV} {L : List (List Cell)} (h : SlCC M' N v L) (hp : Pre M M') : SlCC M N v L := by
  rcases h with h | ⟨t, refs, h1, h2, h3, h4, h5, h6⟩
  · exact .inl h
  · exact .inr ⟨t, refs, h1, Nat.le_trans hp.1 h2, h3, h4, fun i hi => by obtain ⟨r, k1, k2, k3⟩ := h5 i hi; exact ⟨r, k1, k2, k3.mono hp⟩, h6⟩
theorem SlCC.nil {M N : Mem} : SlCC M N .nil [] := .inl ⟨rfl, rfl⟩
theorem Css.ge {N : Mem} {hi : Nat} : ∀ {lo : Nat} {rs : List LV} {ls : List (List Cell)}, Css N lo hi rs ls → ∀ s ∈ rs, ∃ u n, s = .ref u 0 n ∧ lo ≤ u
  | _, [], _, _, s, hs => by cases hs
  | _, _ :: _, [], h, _, _ => h.elim
  | lo, r :: rs, l :: ls, ⟨u, h1, h2, h3, h4, h5⟩, s, hs => by
    rcases List.mem_cons.1 hs with rfl | hs
    · exact ⟨u, _, h3, h1⟩
    · obtain ⟨w, n, k1, k2⟩ := h5.ge s hs
      exact ⟨w, n, k1, by omega⟩
theorem Css.pair {N : Mem} {hi : Nat} : ∀ {lo : Nat} {rs : List LV} {ls : List (List Cell)}, Css N lo hi rs ls → rs.Pairwise Apart
  | _, [], _, _ => List.Pairwise.nil
  | _, _ :: _, [], h => h.elim
  | lo, r :: rs, l :: ls, ⟨u, h1, h2, h3, h4, h5⟩ => List.pairwise_cons.2 ⟨fun s hs t o n e => by
      obtain ⟨w, m, k1, k2⟩ := h5.ge s hs
      rw [k1] at e; cases e
      rw [h3]; show t ≠ u; omega, h5.pair⟩
theorem SlCC.of {M N : Mem} {u lo hi : Nat} {refs : List LV} {L : List (List Cell)} (hu : M.length ≤ u) (hlo : M.length ≤ lo) (h : Live N u (.row refs true 1)) (hc : Css N lo hi refs L) : SlCC M N (.ref u 0 refs.length) L := by
  have hpw := hc.pair
  rw [List.pairwise_iff_getElem] at hpw
  refine .inr ⟨u, refs, by rw [hc.len], hu, h, hc.len, fun i hi => ?_, fun i j r s hij hr hs => ?_⟩
  · obtain ⟨w, k1, k2, k3, k4⟩ := hc.get hi
    exact ⟨_, k3, SlC.of k4, Newer.of (by omega)⟩
  · obtain ⟨h1, rfl⟩ := List.getElem?_eq_some_iff.1 hr
    obtain ⟨h2, rfl⟩ := List.getElem?_eq_some_iff.1 hs
    rcases Nat.lt_or_ge i j with h3 | h3
    · exact hpw i j h1 h2 h3
    · exact (hpw j i h2 h1 (by omega)).symm

def tot : List (List Cell) → Nat
  | [] => 0
  | l :: ls => l.length + tot ls
/-- Of which the first i lists are marked. -/
def marksT (k : Int) (L : List (List Cell)) (i : Nat) : List (List Cell) := (List.range L.length).map fun j => if j < i then marks3 (k + 3 * (tot (L.take j) : Nat)) (L.getD j []).length else L.getD j []
/-- A list of lists of cells, or none, and whether there is one. -/
def CssRes (M : Mem) (r : Option (List (List Cell))) (v : LV) (N : Mem) : Prop := ∃ w, v = .tup [w, .B r.isSome] ∧ SlCC M N w (r.getD []) ∧ Pre M N
end Go.Ab

/- Plain: packings, as both sides see them. -/
namespace Go.Ab
open Go
set_option linter.unusedSimpArgs false
set_option linter.unusedVariables false

def atL (y z : Int) (xs : List Int) (c : Cell) : Int := xs.getD (idx y z c).toNat 0
/-- The cells with a number. -/
def fib (x y z : Int) (xs : List Int) (k : Nat) : List Cell := pick x y z fun c => decide (atL y z xs c = k)
/-- The free cells without those of the first pieces. -/
def leftP (y z : Int) (cs : List Cell) (xs : List Int) (i : Nat) (c : Cell) : Bool := freeP cs c && !decide (0 ≤ atL y z xs c ∧ atL y z xs c < i)
def negC (c : Cell) : Cell := ⟨-c.a, -c.b, -c.c⟩
/-- Where the program tries a piece. -/
def tryAt (x y z : Int) (L : List (List Cell)) (xs : List Int) (i : Nat) : Cell := shift (negC ((L.getD i []).getD 0 default)) ((fib x y z xs i).getD 0 default)
def StepOK (x y z : Int) (cs : List Cell) (L : List (List Cell)) (xs : List Int) (i : Nat) : Prop :=
  fib x y z xs i ≠ [] ∧ PlacedOK x y z (leftP y z cs xs i) (L.getD i []) (tryAt x y z L xs i) ∧ ∀ d, d.inBox x y z → (d ∈ (L.getD i []).map (shift (tryAt x y z L xs i)) ↔ d ∈ fib x y z xs i)
def ImplPk (x y z : Int) (cs : List Cell) (L : List (List Cell)) (xs : List Int) : Prop :=
  xs.length = vol x y z ∧ (∀ v ∈ xs, -1 ≤ v ∧ v ≤ (L.length : Int) - 1) ∧ (∀ i, i < L.length → StepOK x y z cs L xs i) ∧ ∀ c, c.inBox x y z → leftP y z cs xs L.length c = false
def DiffOK (x y z : Int) (L : List (List Cell)) (xs : List Int) (k : Nat) : Prop :=
  (fib x y z xs k).length = (L.getD k []).length ∧ ∀ i, 1 ≤ i → i < (fib x y z xs k).length → ∀ d : Nat, d < 3 → Cell.at ((fib x y z xs k).getD i default) (d : Int) - Cell.at ((fib x y z xs k).getD 0 default) (d : Int) = Cell.at ((L.getD k []).getD i default) (d : Int) - Cell.at ((L.getD k []).getD 0 default) (d : Int)
def SpecPk (x y z : Int) (cs : List Cell) (L : List (List Cell)) (xs : List Int) : Prop :=
  xs.length = vol x y z ∧ tot L + cs.length = vol x y z ∧ (∀ i, i < vol x y z → (-1 ≤ xs.getD i 0 ∧ xs.getD i 0 ≤ (L.length : Int) - 1) ∧ (xs.getD i 0 < 0 ↔ cellAt y z i ∈ cs)) ∧ ∀ k, k < L.length → DiffOK x y z L xs k

section
variable {x y z : Int} {cs : List Cell} {L : List (List Cell)} {xs : List Int} (hA : AskOK x y z cs L)
include hA
end
end Go.Ab

/- Contracts: packings, the reference's side. -/
namespace Go.Ab
open Go
set_option linter.unusedSimpArgs false
set_option linter.unusedVariables false
set_option maxRecDepth 20000

noncomputable instance {x y z : Int} {cs : List Cell} {L : List (List Cell)} {xs : List Int} : Decidable (SpecPk x y z cs L xs) := Classical.propDecidable _
noncomputable def pkP (x y z : Int) (cs : List Cell) (L : List (List Cell)) (xs : List Int) : Bool × Bool := if AskOK x y z cs L then (decide (SpecPk x y z cs L xs), true) else (false, false)
end Go.Ab

/- Contracts: FaultPlanes, the reference's side. -/
namespace Go.Ab
open Go
set_option linter.unusedSimpArgs false
set_option linter.unusedVariables false
set_option maxRecDepth 20000

/-- Cell i lies before plane k, cell j not, and both are of one piece. -/
def CrossAt (y z : Int) (xs : List Int) (d k i j : Nat) : Prop := 0 ≤ xs.getD i 0 ∧ xs.getD j 0 = xs.getD i 0 ∧ (cellAt y z i).at (d : Int) < k ∧ (k : Int) ≤ (cellAt y z j).at (d : Int)
def Crossed (x y z : Int) (xs : List Int) (d k : Nat) : Prop := ∃ i, i < vol x y z ∧ ∃ j, j < vol x y z ∧ CrossAt y z xs d k i j
noncomputable instance {x y z : Int} {xs : List Int} {d k : Nat} : Decidable (Crossed x y z xs d k) := Classical.propDecidable _
noncomputable def plK (x y z : Int) (xs : List Int) (d : Nat) : Nat → List Int
  | 0 => []
  | k + 1 => plK x y z xs d k ++ (if 1 ≤ k ∧ ¬ Crossed x y z xs d k then [(d : Int), (k : Int)] else [])
noncomputable def plD (x y z : Int) (xs : List Int) : Nat → List Int
  | 0 => []
  | d + 1 => plD x y z xs d ++ plK x y z xs d (sideOf x y z (d : Int)).toNat
noncomputable def planesN (x y z : Int) (cs : List Cell) (L : List (List Cell)) (xs : List Int) : Option (List Int) := if AskOK x y z cs L ∧ SpecPk x y z cs L xs then some (plD x y z xs 3) else none
/-- A list of pairs of numbers, or none, and whether there is one. -/
def PairsRes (M : Mem) (r : Option (List Int)) (v : LV) (N : Mem) : Prop := ∃ w n, v = .tup [w, .B r.isSome] ∧ SlF N w n (r.getD []) ∧ n ≤ 100 ∧ Newer M w ∧ Pre M N

end Go.Ab

/- The abstract code of some functions (written by a program of mine from the translation, by way of prepF). -/
namespace Go.Ab.C
open Go.Ab
end Go.Ab.C

/- That the program has this code. -/
namespace Go.Ab.K
open Go Go.Ab
end Go.Ab.K

/- Contracts: packings, the program's side. -/
namespace Go.Ab
open Go
set_option linter.unusedSimpArgs false
set_option linter.unusedVariables false
set_option maxRecDepth 20000

end Go.Ab

/- Contracts: FaultPlanes, the program's side. -/
namespace Go.Ab
open Go
set_option linter.unusedSimpArgs false
set_option linter.unusedVariables false
set_option maxRecDepth 20000

end Go.Ab

/- Contracts: pieces put into a list of numbers, the reference's side. -/
namespace Go.Ab
open Go
set_option linter.unusedSimpArgs false
set_option linter.unusedVariables false
set_option maxRecDepth 20000

def At3 (p : Cell) : Prop := (0 ≤ p.a ∧ p.a ≤ 3) ∧ (0 ≤ p.b ∧ p.b ≤ 3) ∧ (0 ≤ p.c ∧ p.c ≤ 3)
def FitsP (x y z : Int) (cs l : List Cell) (p : Cell) : Prop := At3 p ∧ ∀ c ∈ l, (shift p c).inBox x y z ∧ shift p c ∉ cs
def startL (x y z : Int) (cs : List Cell) : List Int := (cellsOf x y z).map fun c => if c ∈ cs then -1 else -2
def setsL (y z : Int) (n : Int) (xs : List Int) (ds : List Cell) : List Int := ds.foldl (fun v d => v.set (idx y z d).toNat n) xs
def PutOK (x y z : Int) (cs l : List Cell) (p : Cell) (xs : List Int) : Prop := FitsP x y z cs l p ∧ ∀ c ∈ l, atL y z xs (shift p c) = -2
noncomputable instance {x y z : Int} {cs l : List Cell} {p : Cell} : Decidable (FitsP x y z cs l p) := Classical.propDecidable _
noncomputable instance {x y z : Int} {cs l : List Cell} {p : Cell} {xs : List Int} : Decidable (PutOK x y z cs l p xs) := Classical.propDecidable _
noncomputable def putR (x y z : Int) (cs l : List Cell) (p : Cell) (xs : List Int) (n : Int) : List Int := if PutOK x y z cs l p xs then setsL y z n xs (l.map (shift p)) else []

section
variable {l : List Cell} {t o : Nat} {M : Mem} {p : Cell} (h : Tri M t o l) (hn : l.length ≤ 64) (hin : ∀ c ∈ l, c.inBox 4 4 4) (hp : At3 p)
include h hn hin hp
end
theorem h_l9Place {x y z : Int} {v : LV} {c : Cell} {M : Mem} (hS : Sides x y z) (hc : c.inBox x y z) (hv : v.one = true ∧ v.cells = some [v]) :
    CallsTo PG F.spec_l9Place [.agg [.I x, .I y, .I z, v], .agg [.I c.a, .I c.b, .I c.c]] M (.I (idx y z c)) M := by
  obtain ⟨⟨_, _⟩, ⟨_, _⟩, ⟨_, _⟩⟩ := id hS
  obtain ⟨⟨_, _⟩, ⟨_, _⟩, ⟨_, _⟩⟩ := id hc
  have h1 : 0 ≤ c.a * y ∧ c.a * y ≤ 12 := by rcases (show y = 1 ∨ y = 2 ∨ y = 3 ∨ y = 4 by omega) with rfl | rfl | rfl | rfl <;> omega
  have h2 : 0 ≤ (c.a * y + c.b) * z ∧ (c.a * y + c.b) * z ≤ 60 := by rcases (show z = 1 ∨ z = 2 ∨ z = 3 ∨ z = 4 by omega) with rfl | rfl | rfl | rfl <;> omega
  refine calls_run K.spec_l9Place rfl ?_
  simp (disch := omega) only [C.spec_l9Place, hv, splice, ↓SXd, SXu, slBounds, ↓sop, ↓aop, ↓reduceIte, LV.cells, AOp.dst, LV.I, LV.B, LV.U, LV.S, LV.nil, Nat.reduceEqDiff, Nat.reduceAdd, Nat.reduceMul, Nat.reduceSub, Nat.reduceLeDiff, Nat.reduceBEq, Nat.reduceDiv, Nat.reduceMod, Int.reduceToNat, Int.reduceLT, Int.reduceLE, Int.reduceAdd, Int.reduceSub, Int.reduceMul, Int.reduceEq, Int.reduceNeg, reduceCtorEq, resV, resAll, ARes.ev, LV.flat, ite_true, ite_false, exists_eq_left', exists_eq_left, keyOf, implies_true, fillC, capOf]
  exact cmp_pre (Pre.app _ _) rfl
section
variable {x y z : Int} {t o u q : Nat} {cs l : List Cell} {p : Cell} {M : Mem} (h : Tri M t o cs) (hH : HeapOK x y z cs) (hl : Tri M u q l) (hn : l.length ≤ 64) (hin : ∀ c ∈ l, c.inBox 4 4 4)
include h hH hl hn hin
end
end Go.Ab

/- Contracts: pieces that fit, places, boxes, parities: the reference's side. -/
namespace Go.Ab
open Go
set_option linter.unusedSimpArgs false
set_option linter.unusedVariables false
set_option maxRecDepth 20000

theorem PieceOK.le {l : List Cell} (h : PieceOK l) : l.length ≤ 5 := h.1.2
def FitQ (x y z : Int) (cs l : List Cell) : Prop := HeapOK x y z cs ∧ PieceOK l
noncomputable def fitOf (x y z : Int) (cs l : List Cell) (p : Cell) : Option Bool := by
  classical
  exact if FitQ x y z cs l then some (decide (FitsP x y z cs l p)) else none
noncomputable def placesOf (x y z : Int) (cs l : List Cell) : Option (List Cell) := by
  classical
  exact if FitQ x y z cs l then some (pick x y z fun c => decide (FitsP x y z cs l c)) else none
noncomputable def boxOf (x y z : Int) : Option (List Cell) := by
  classical
  exact if Sides x y z ∧ vol x y z ≤ 5 then some (cellsOf x y z) else none
noncomputable def ppOf (l : List Cell) : Option Int := by
  classical
  exact if PieceOK l then some (max (parL l) (0 - parL l)) else none
noncomputable def fpOf (x y z : Int) (cs : List Cell) : Option Int := by
  classical
  exact if HeapOK x y z cs then some (parL (pick x y z (freeP cs))) else none
section
variable {x y z : Int} {t o u q : Nat} {cs l : List Cell} {M : Mem} (h : Tri M t o cs) (hn : cs.length ≤ 1000000000) (hl : Tri M u q l) (hln : l.length ≤ 1000000000)
include hl hln
include h hn
end
end Go.Ab

/- Contracts: pieces that fit, places, boxes, parities, other cells: the program's side. -/
namespace Go.Ab
open Go
set_option linter.unusedSimpArgs false
set_option linter.unusedVariables false
set_option maxRecDepth 20000

noncomputable instance {x y z : Int} {cs l : List Cell} : Decidable (FitQ x y z cs l) := Classical.propDecidable _
section
variable {x y z : Int} {t o u q : Nat} {cs l : List Cell} {M : Mem} (h : Tri M t o cs) (hn : cs.length ≤ 1000000000) (hl : Tri M u q l) (hln : l.length ≤ 1000000000)
include hl hln
include h hn
end
theorem g_FreeParity {x y z : Int} {t o : Nat} {cs : List Cell} {M : Mem} (h : Tri M t o cs) (hn : cs.length ≤ 1000000000) : CallsTo PG F.impl_FreeParity [.agg [.I x, .I y, .I z, .ref t o cs.length]] M (.tup [.I ((fpOf x y z cs).getD 0), .B (fpOf x y z cs).isSome]) M := by
  refine calls_run K.impl_FreeParity rfl ?_
  simp (disch := omega) only [C.impl_FreeParity, ↓SXd, SXu, slBounds, ↓sop, ↓aop, ↓reduceIte, LV.cells, AOp.dst, LV.I, LV.B, LV.U, LV.S, LV.nil, Nat.reduceEqDiff, Nat.reduceAdd, Nat.reduceMul, Nat.reduceSub, Nat.reduceLeDiff, Nat.reduceBEq, Nat.reduceDiv, Nat.reduceMod, Int.reduceToNat, Int.reduceLT, Int.reduceLE, Int.reduceAdd, Int.reduceSub, Int.reduceMul, Int.reduceEq, Int.reduceNeg, reduceCtorEq, resV, resAll, ARes.ev, LV.flat, ite_true, ite_false, exists_eq_left', exists_eq_left, keyOf, implies_true, fillC, capOf]
  refine callK_of (g_IsHeap h.app hn) ?_
  simp (disch := omega) only [↓SXd, SXu, slBounds, ↓sop, ↓aop, ↓reduceIte, LV.cells, AOp.dst, LV.I, LV.B, LV.U, LV.S, LV.nil, Nat.reduceEqDiff, Nat.reduceAdd, Nat.reduceMul, Nat.reduceSub, Nat.reduceLeDiff, Nat.reduceBEq, Nat.reduceDiv, Nat.reduceMod, Int.reduceToNat, Int.reduceLT, Int.reduceLE, Int.reduceAdd, Int.reduceSub, Int.reduceMul, Int.reduceEq, Int.reduceNeg, reduceCtorEq, resV, resAll, ARes.ev, LV.flat, ite_true, ite_false, exists_eq_left', exists_eq_left, keyOf, implies_true, fillC, capOf]
  by_cases hH : HeapOK x y z cs
  rotate_left
  · rw [show fpOf x y z cs = none from if_neg hH]
    simp (disch := omega) only [hH, ↓SXd, SXu, slBounds, ↓sop, ↓aop, ↓reduceIte, LV.cells, AOp.dst, LV.I, LV.B, LV.U, LV.S, LV.nil, Nat.reduceEqDiff, Nat.reduceAdd, Nat.reduceMul, Nat.reduceSub, Nat.reduceLeDiff, Nat.reduceBEq, Nat.reduceDiv, Nat.reduceMod, Int.reduceToNat, Int.reduceLT, Int.reduceLE, Int.reduceAdd, Int.reduceSub, Int.reduceMul, Int.reduceEq, Int.reduceNeg, reduceCtorEq, resV, resAll, ARes.ev, LV.flat, ite_true, ite_false, exists_eq_left', exists_eq_left, keyOf, implies_true, fillC, capOf]
    exact cmp_drop rfl
  rw [show fpOf x y z cs = some (parL (pick x y z (freeP cs))) from if_pos hH]
  simp (disch := omega) only [hH, ↓SXd, SXu, slBounds, ↓sop, ↓aop, ↓reduceIte, LV.cells, AOp.dst, LV.I, LV.B, LV.U, LV.S, LV.nil, Nat.reduceEqDiff, Nat.reduceAdd, Nat.reduceMul, Nat.reduceSub, Nat.reduceLeDiff, Nat.reduceBEq, Nat.reduceDiv, Nat.reduceMod, Int.reduceToNat, Int.reduceLT, Int.reduceLE, Int.reduceAdd, Int.reduceSub, Int.reduceMul, Int.reduceEq, Int.reduceNeg, reduceCtorEq, resV, resAll, ARes.ev, LV.flat, ite_true, ite_false, exists_eq_left', exists_eq_left, keyOf, implies_true, fillC, capOf]
  refine callK_of (g_box) ?_
  simp (disch := omega) only [↓SXd, SXu, slBounds, ↓sop, ↓aop, ↓reduceIte, LV.cells, AOp.dst, LV.I, LV.B, LV.U, LV.S, LV.nil, Nat.reduceEqDiff, Nat.reduceAdd, Nat.reduceMul, Nat.reduceSub, Nat.reduceLeDiff, Nat.reduceBEq, Nat.reduceDiv, Nat.reduceMod, Int.reduceToNat, Int.reduceLT, Int.reduceLE, Int.reduceAdd, Int.reduceSub, Int.reduceMul, Int.reduceEq, Int.reduceNeg, reduceCtorEq, resV, resAll, ARes.ev, LV.flat, ite_true, ite_false, exists_eq_left', exists_eq_left, keyOf, implies_true, fillC, capOf]
  refine callK_of (g_free h.app hH) ?_
  simp (disch := omega) only [↓SXd, SXu, slBounds, ↓sop, ↓aop, ↓reduceIte, LV.cells, AOp.dst, LV.I, LV.B, LV.U, LV.S, LV.nil, Nat.reduceEqDiff, Nat.reduceAdd, Nat.reduceMul, Nat.reduceSub, Nat.reduceLeDiff, Nat.reduceBEq, Nat.reduceDiv, Nat.reduceMod, Int.reduceToNat, Int.reduceLT, Int.reduceLE, Int.reduceAdd, Int.reduceSub, Int.reduceMul, Int.reduceEq, Int.reduceNeg, reduceCtorEq, resV, resAll, ARes.ev, LV.flat, ite_true, ite_false, exists_eq_left', exists_eq_left, keyOf, implies_true, fillC, capOf]
  refine callK_of (g_list hH.1) ?_
  simp (disch := omega) only [↓SXd, SXu, slBounds, ↓sop, ↓aop, ↓reduceIte, LV.cells, AOp.dst, LV.I, LV.B, LV.U, LV.S, LV.nil, Nat.reduceEqDiff, Nat.reduceAdd, Nat.reduceMul, Nat.reduceSub, Nat.reduceLeDiff, Nat.reduceBEq, Nat.reduceDiv, Nat.reduceMod, Int.reduceToNat, Int.reduceLT, Int.reduceLE, Int.reduceAdd, Int.reduceSub, Int.reduceMul, Int.reduceEq, Int.reduceNeg, reduceCtorEq, resV, resAll, ARes.ev, LV.flat, ite_true, ite_false, exists_eq_left', exists_eq_left, keyOf, implies_true, fillC, capOf]
  have hpk := pick_ok hH.1 (freeP cs)
  have hpl := hpk.len
  refine callK_of (g_parity (Live.newj (M := M) (j := 1) (b := .row (triL (pick x y z (freeP cs))) true 3) rfl).has hpl (fun c hc => box4 hH.1 (hpk.mem hc))) ?_
  simp (disch := omega) only [↓SXd, SXu, slBounds, ↓sop, ↓aop, ↓reduceIte, LV.cells, AOp.dst, LV.I, LV.B, LV.U, LV.S, LV.nil, Nat.reduceEqDiff, Nat.reduceAdd, Nat.reduceMul, Nat.reduceSub, Nat.reduceLeDiff, Nat.reduceBEq, Nat.reduceDiv, Nat.reduceMod, Int.reduceToNat, Int.reduceLT, Int.reduceLE, Int.reduceAdd, Int.reduceSub, Int.reduceMul, Int.reduceEq, Int.reduceNeg, reduceCtorEq, resV, resAll, ARes.ev, LV.flat, ite_true, ite_false, exists_eq_left', exists_eq_left, keyOf, implies_true, fillC, capOf]
  exact cmp_drop rfl
end Go.Ab

/- Plain: boxes as pieces; parities of all cells; places. -/
namespace Go.Ab
open Go
set_option linter.unusedSimpArgs false
set_option linter.unusedVariables false
set_option maxRecDepth 20000

end Go.Ab

/- Heaps that a law keeps: mirrored, swapped, joined, common, shifted, cropped and widened ones, plainly. -/
namespace Go.Ab
open Go
set_option linter.unusedSimpArgs false
set_option linter.unusedVariables false
set_option maxRecDepth 20000

/-- A heap, or the empty one and false; its cells lie in a block of their own. -/
def HeapX (M : Mem) (r : Option Hp) (v : LV) (N : Mem) : Prop := ∃ u : Nat, v = .tup [.agg [.I (r.getD Hp.none).x, .I (r.getD Hp.none).y, .I (r.getD Hp.none).z, .ref u 0 (r.getD Hp.none).cs.length], .B r.isSome] ∧ Live N u (.row (triL (r.getD Hp.none).cs) true 3) ∧ Pre M N
theorem heapX_some {M N : Mem} {g : Hp} {v : LV} (h : HeapT M g v N) (hp : Pre M N) : HeapX M (some g) v N := by
  obtain ⟨u, rfl, hu, _⟩ := h
  exact ⟨u, rfl, hu, hp⟩
theorem heapX_of {f : FuncId} {args : List LV} {M : Mem} {r : Option Hp} (h : CallsR PG f args M fun v N => (∃ g, r = some g ∧ HeapT M g v N ∧ Pre M N) ∨ (r = none ∧ v = .tup [.agg [.I 0, .I 0, .I 0, .nil], .B false] ∧ Pre M N)) : CallsR PG f args M (HeapX M r) := by
  refine h.den (e := 3) ?_
  rintro v N (⟨g, rfl, hg, hp⟩ | ⟨rfl, rfl, hp⟩)
  · exact .inl (heapX_some hg hp)
  · exact .inr ⟨.tup [.agg [.I 0, .I 0, .I 0, .ref N.length 0 0], .B false], .inr ⟨_, _, rfl, rfl, .inr ⟨_, _, rfl, rfl, .rfl, .rfl, .rfl, .nil, trivial⟩, .rfl, trivial⟩, N.length, rfl, Live.new, hp.trans (Pre.app _ _)⟩
theorem heapX_no {M : Mem} {r : Option Hp} {v : LV} {N : Mem} (hr : r = none) (hv : v = .tup [.agg [.I 0, .I 0, .I 0, .nil], .B false]) (hp : Pre M N) : (∃ g, r = some g ∧ HeapT M g v N ∧ Pre M N) ∨ (r = none ∧ v = .tup [.agg [.I 0, .I 0, .I 0, .nil], .B false] ∧ Pre M N) := .inr ⟨hr, hv, hp⟩
section
variable (x y z : Int) (cs : List Cell)
noncomputable def mirOf (d : Int) : Option Hp := by
  classical
  exact if HeapOK x y z cs ∧ Dir d then some ⟨x, y, z, mirD x y z d cs⟩ else none
noncomputable def othOf : Option Hp := by
  classical
  exact if HeapOK x y z cs then some ⟨x, y, z, pick x y z (freeP cs)⟩ else none
end
/-- Two coordinates exchanged. -/
def swI (a b i : Int) : Int := if i = a then b else if i = b then a else i
def swC (a b : Int) (c : Cell) : Cell := ⟨c.at (swI a b 0), c.at (swI a b 1), c.at (swI a b 2)⟩
def swX (a b : Int) (x y z : Int) (cs : List Cell) : Hp := ⟨(swC a b ⟨x, y, z⟩).a, (swC a b ⟨x, y, z⟩).b, (swC a b ⟨x, y, z⟩).c, pick (swC a b ⟨x, y, z⟩).a (swC a b ⟨x, y, z⟩).b (swC a b ⟨x, y, z⟩).c fun d => decide (d ∈ cs.map (swC a b))⟩
section
variable {x y z : Int} {cs : List Cell}
theorem mirDC_twice {d : Int} {c : Cell} : mirDC x y z d (mirDC x y z d c) = c := by
  unfold mirDC
  obtain ⟨a, b, e⟩ := c
  simp only [cell_eq]
  refine ⟨?_, ?_, ?_⟩ <;> split <;> omega
end
section
variable (x y z : Int) (cs : List Cell)
noncomputable def swpOf (a b : Int) : Option Hp := by
  classical
  exact if HeapOK x y z cs ∧ Dir a ∧ Dir b then some (swX a b x y z cs) else none
/-- Both are heaps, in the same box. -/
def Alike (x' y' z' : Int) (ds : List Cell) : Prop := HeapOK x y z cs ∧ HeapOK x' y' z' ds ∧ x = x' ∧ y = y' ∧ z = z'
noncomputable instance {x y z : Int} {cs : List Cell} {x' y' z' : Int} {ds : List Cell} : Decidable (Alike x y z cs x' y' z' ds) := Classical.propDecidable _
noncomputable def jnOf (x' y' z' : Int) (ds : List Cell) : Option Hp := if Alike x y z cs x' y' z' ds then some ⟨x, y, z, pick x y z fun c => decide (c ∈ cs) || decide (c ∈ ds)⟩ else none
noncomputable def cmOf (x' y' z' : Int) (ds : List Cell) : Option Hp := if Alike x y z cs x' y' z' ds then some ⟨x, y, z, pick x y z fun c => decide (c ∈ cs) && decide (c ∈ ds)⟩ else none
/-- A shift that is not too far. -/
def Near4 (p : Cell) : Prop := (-4 ≤ p.a ∧ p.a ≤ 4) ∧ (-4 ≤ p.b ∧ p.b ≤ 4) ∧ (-4 ≤ p.c ∧ p.c ≤ 4)
noncomputable def shOf (p : Cell) : Option Hp := by
  classical
  exact if HeapOK x y z cs ∧ Near4 p ∧ HeapOK x y z (cs.map (shift p)) then some ⟨x, y, z, cs.map (shift p)⟩ else none
noncomputable def crOf : Option Hp := by
  classical
  exact if HeapOK x y z cs ∧ 0 < cs.length then some (cropHp cs) else none
noncomputable def wdOf (X Y Z : Int) : Option Hp := by
  classical
  exact if HeapOK x y z cs ∧ HeapOK X Y Z cs then some ⟨X, Y, Z, cs⟩ else none
end
theorem part_len {p : Cell → Bool} : ∀ l : List Cell, (l.filter p).length + (l.filter fun c => !p c).length = l.length
  | [] => rfl
  | a :: l => by
    have ih := part_len (p := p) l
    simp only [List.filter_cons]
    cases p a <;> simp <;> omega
theorem free_len {x y z : Int} {cs : List Cell} (hH : HeapOK x y z cs) : ((pick x y z (freeP cs)).length : Int) + cs.length = x * y * z := by
  have := part_len (p := fun c => decide (c ∈ cs)) (cellsOf x y z)
  have e1 : ((cellsOf x y z).filter fun c => decide (c ∈ cs)).length = cs.length := congrArg List.length hH.pick.symm
  have e2 : ((cellsOf x y z).filter fun c => !decide (c ∈ cs)) = pick x y z (freeP cs) := rfl
  have hcl : (cellsOf x y z).length = vol x y z := by simp [cellsOf]
  have hv := vol_cast hH.1
  rw [e2] at this
  omega
end Go.Ab

/- The abstract code of some functions (written by a program of mine from the translation, by way of prepF). -/
namespace Go.Ab.C
open Go.Ab
end Go.Ab.C

/- That the program has this code. -/
namespace Go.Ab.K
open Go Go.Ab
end Go.Ab.K

/- The abstract code of some functions (written by a program of mine from the translation, by way of prepF). -/
namespace Go.Ab.C
open Go.Ab
end Go.Ab.C

/- That the program has this code. -/
namespace Go.Ab.K
open Go Go.Ab
end Go.Ab.K

/- Contracts: the reference's mirrored, other, cropped, widened and shifted heaps. -/
namespace Go.Ab
open Go
set_option linter.unusedSimpArgs false
set_option linter.unusedVariables false
set_option maxRecDepth 20000

theorem dir_in {d : Int} : Dir d ↔ (0 ≤ d ∧ d ≤ 2) := by unfold Dir; omega
section
variable {x y z : Int} {t : Nat} {w : Bool} {cs : List Cell} {M : Mem} (h : Live M t (.row (triL cs) w 3)) (hn : cs.length ≤ 1000000000)
include h hn
end
end Go.Ab

/- Contracts: the reference's joined, common and swapped heaps. -/
namespace Go.Ab
open Go
set_option linter.unusedSimpArgs false
set_option linter.unusedVariables false
set_option maxRecDepth 20000

section
variable {x y z x' y' z' : Int} {t t' : Nat} {w w' : Bool} {cs ds : List Cell} {M : Mem} (h : Live M t (.row (triL cs) w 3)) (hn : cs.length ≤ 1000000000) (h' : Live M t' (.row (triL ds) w' 3)) (hn' : ds.length ≤ 1000000000)
include h hn h' hn'
end
section
variable {x y z a b : Int} {t : Nat} {w : Bool} {cs : List Cell} {M : Mem} (h : Live M t (.row (triL cs) w 3))
include h
end
end Go.Ab

/- The abstract code of some functions (written by a program of mine from the translation, by way of prepF). -/
namespace Go.Ab.C
open Go.Ab
end Go.Ab.C

/- That the program has this code. -/
namespace Go.Ab.K
open Go Go.Ab
end Go.Ab.K

/- The abstract code of some functions (written by a program of mine from the translation, by way of prepF). -/
namespace Go.Ab.C
open Go.Ab
def impl_MirrorHeap : AFn :=
 ⟨2, 20, [.cellN 4 4, .tmp 5],
 .seq (.ops [(none, .box 2 (.t 0)),
 (none, .box 3 (.t 1)),
 (none, .alloc 4 [(.I 0), (.I 0), (.I 0), .nil]),
 (none, .mv 5 (.c (.B false)))])
 (.seq (.seq (.ops [(none, .loadN 6 4 (.t 2)),
 (none, .call (some 7) F.impl_IsHeap [(.t 6)]),
 (none, .un 8 .not (.t 7)),
 (none, .mv 9 (.t 8)),
 (some (9, false), .load1 10 (.t 3)),
 (some (9, false), .call (some 11) F.impl_isDirection [(.t 10)]),
 (some (9, false), .un 12 .not (.t 11)),
 (none, .pick 13 (.t 9) (.c (.B true)) (.t 12))])
 (.cond (.t 13) (.seq (.ops [(none, .build 14 [(.I 0), (.I 0), (.I 0), .nil] []),
 (none, .store 4 (.t 4) (.t 14)),
 (none, .mv 5 (.c (.B false)))])
 (.ret))
 (.skip)))
 (.seq (.draw [⟨(none, .loadN 15 4 (.t 2)), [], []⟩,
 ⟨(none, .loadN 16 4 (.t 2)), [], []⟩,
 ⟨(none, .mkf 18 F.impl_MirrorHeap_1 [(.t 2), (.t 3)]), [], []⟩,
 ⟨(none, .call (some 17) F.impl_Heap_box [(.t 16)]), [], [0, 2]⟩,
 ⟨(none, .call (some 19) F.impl_Heap_moved [(.t 15), (.t 17), (.t 18)]), [], []⟩,
 ⟨(none, .store 4 (.t 4) (.t 19)), [], []⟩,
 ⟨(none, .mv 5 (.c (.B true))), [], []⟩])
 (.ret)))⟩
def impl_MirrorHeap_1 : AFn :=
 ⟨3, 10, [.cellN 4 3],
 .seq (.ops [(none, .box 3 (.t 0)),
 (none, .alloc 4 [(.I 0), (.I 0), (.I 0)])])
 (.seq (.draw [⟨(none, .loadN 5 4 (.t 1)), [], []⟩,
 ⟨(none, .loadN 7 3 (.t 3)), [], []⟩,
 ⟨(none, .load1 8 (.t 2)), [], []⟩,
 ⟨(none, .call (some 6) F.impl_Heap_box [(.t 5)]), [], [1, 2]⟩,
 ⟨(none, .call (some 9) F.impl_box_mirror [(.t 6), (.t 7), (.t 8)]), [], []⟩,
 ⟨(none, .store 3 (.t 4) (.t 9)), [], []⟩])
 (.ret))⟩
def impl_box_mirror : AFn :=
 ⟨3, 18, [.cellN 6 3],
 .seq (.ops [(none, .box 3 (.t 0)),
 (none, .box 4 (.t 1)),
 (none, .alloc 6 [(.I 0), (.I 0), (.I 0)])])
 (.seq (.draw [⟨(none, .mv 7 (.t 2)), [], []⟩,
 ⟨(none, .mv 8 (.t 2)), [], []⟩,
 ⟨(none, .idxA 9 3 1 (.t 3) (.t 8)), [], []⟩,
 ⟨(none, .load1 10 (.t 9)), [], []⟩,
 ⟨(none, .bin 11 .sub (.t 10) (.c (.I 1))), [], []⟩,
 ⟨(none, .mv 12 (.t 2)), [], []⟩,
 ⟨(none, .idxA 13 3 1 (.t 4) (.t 12)), [], []⟩,
 ⟨(none, .load1 14 (.t 13)), [], []⟩,
 ⟨(none, .bin 15 .sub (.t 11) (.t 14)), [], []⟩,
 ⟨(none, .idxA 16 3 1 (.t 4) (.t 7)), [], []⟩,
 ⟨(none, .store 1 (.t 16) (.t 15)), [], []⟩])
 (.seq (.ops [(none, .loadN 17 3 (.t 4)),
 (none, .store 3 (.t 6) (.t 17))])
 (.ret)))⟩
def impl_isDirection : AFn :=
 ⟨1, 5, [.tmp 2],
 .seq (.ops [(none, .mv 2 (.c (.B false)))])
 (.seq (.ops [(none, .mv 3 (.t 0)),
 (none, .call (some 4) F.impl_within [(.t 3), (.c (.I 0)), (.c (.I 2))]),
 (none, .mv 2 (.t 4))])
 (.ret))⟩
end Go.Ab.C

/- That the program has this code. -/
namespace Go.Ab.K
open Go Go.Ab
theorem impl_MirrorHeap : prepF Go.Proofs.Try.prog F.impl_MirrorHeap = some C.impl_MirrorHeap := by kernel_rfl
theorem impl_MirrorHeap_1 : prepF Go.Proofs.Try.prog F.impl_MirrorHeap_1 = some C.impl_MirrorHeap_1 := by kernel_rfl
theorem impl_box_mirror : prepF Go.Proofs.Try.prog F.impl_box_mirror = some C.impl_box_mirror := by kernel_rfl
theorem impl_isDirection : prepF Go.Proofs.Try.prog F.impl_isDirection = some C.impl_isDirection := by kernel_rfl
end Go.Ab.K

/- The abstract code of some functions (written by a program of mine from the translation, by way of prepF). -/
namespace Go.Ab.C
open Go.Ab
end Go.Ab.C

/- That the program has this code. -/
namespace Go.Ab.K
open Go Go.Ab
end Go.Ab.K

/- The abstract code of some functions (written by a program of mine from the translation, by way of prepF). -/
namespace Go.Ab.C
open Go.Ab
end Go.Ab.C

/- That the program has this code. -/
namespace Go.Ab.K
open Go Go.Ab
end Go.Ab.K

/- The abstract code of some functions (written by a program of mine from the translation, by way of prepF). -/
namespace Go.Ab.C
open Go.Ab
end Go.Ab.C

/- That the program has this code. -/
namespace Go.Ab.K
open Go Go.Ab
end Go.Ab.K

/- Contracts: the program's order of heaps. -/
namespace Go.Ab
open Go
set_option linter.unusedSimpArgs false
set_option linter.unusedVariables false

def cmp3 (a b : Cell) : Int := cmpL [a.a, a.b, a.c] [b.a, b.b, b.c]
def cmpC : List Cell → List Cell → Int
  | [], [] => 0
  | [], _ :: _ => -1
  | _ :: _, [] => 1
  | a :: l, b :: m => if cmp3 a b ≠ 0 then cmp3 a b else cmpC l m
def cmpH (g h : Hp) : Int := if cmp3 g.dims h.dims ≠ 0 then cmp3 g.dims h.dims else cmpC g.cs h.cs
end Go.Ab

/- Contracts: the program's positions and forms. -/
namespace Go.Ab
open Go
set_option linter.unusedSimpArgs false
set_option linter.unusedVariables false

/-- Heaps, as the elements of a slice; each with the block of its cells. -/
def hrow (p : Nat × Hp) : List LV := [.I p.2.x, .I p.2.y, .I p.2.z, .ref p.1 0 p.2.cs.length]
def hpL (l : List (Nat × Hp)) : List LV := l.flatMap hrow
theorem hpL_len (l : List (Nat × Hp)) : (hpL l).length = l.length * 4 := by
  induction l with
  | nil => rfl
  | cons t l ih => rw [show hpL (t :: l) = hrow t ++ hpL l from rfl, List.length_append, ih, List.length_cons]; simp [hrow]; omega
theorem hpL_at {l : List (Nat × Hp)} : ∀ {k : Nat}, (hk : k < l.length) → ((hpL l).drop (k * 4)).take 4 = hrow l[k] := by
  induction l with
  | nil => intro k hk; simp at hk
  | cons t l ih =>
    intro k hk
    have e : hpL (t :: l) = hrow t ++ hpL l := rfl
    have hr : (hrow t).length = 4 := rfl
    cases k with
    | zero => rw [e, Nat.zero_mul, List.drop_zero, List.take_append_of_le_length (by omega), List.take_of_length_le (by omega)]; rfl
    | succ k =>
      rw [e, List.drop_append, List.drop_eq_nil_of_le (by omega), List.nil_append, hr, show (k + 1) * 4 - 4 = k * 4 by omega, ih (by simpa using hk)]
      rfl
theorem Live.hp {N : Mem} {t k e : Nat} {w : Bool} {l : List (Nat × Hp)} (h : Live N t (.row (hpL l) w e)) (hk : k < l.length) : getCells N t (k * 4) 4 = some (hrow l[k]) := by
  rw [h.cells, if_pos (by rw [hpL_len]; omega), hpL_at hk]
/-- All these heaps' cells are there, behind M. -/
def HpsOK (M N : Mem) (l : List (Nat × Hp)) : Prop := ∀ p ∈ l, Live N p.1 (.row (triL p.2.cs) true 3) ∧ M.length ≤ p.1 ∧ p.2.cs.length ≤ 64
theorem HpsOK.pre {M N N' : Mem} {l : List (Nat × Hp)} (h : HpsOK M N l) (hp : Pre N N') : HpsOK M N' l := fun p hpl => ⟨(h p hpl).1.pre hp, (h p hpl).2⟩

def bestP (b : Nat × Hp) (l : List (Nat × Hp)) : Nat × Hp := l.foldl (fun b n => if lessHp n.2 b.2 then n else b) b
/-- A form as a value: its cells are in a block behind M. -/
def FormRes (M : Mem) (f : Hp) (v : LV) (N : Mem) : Prop := ∃ u : Nat, v = .agg [.I f.x, .I f.y, .I f.z, .ref u 0 f.cs.length] ∧ M.length ≤ u ∧ Live N u (.row (triL f.cs) true 3) ∧ Pre M N
end Go.Ab

/- Contracts: the program's statements on forms. -/
namespace Go.Ab
open Go
set_option linter.unusedSimpArgs false
set_option linter.unusedVariables false

end Go.Ab

/- Contracts: the program's mirrored heaps; IsHanded. -/
namespace Go.Ab
open Go
set_option linter.unusedSimpArgs false
set_option linter.unusedVariables false

end Go.Ab

/- The abstract code of some functions (written by a program of mine from the translation, by way of prepF). -/
namespace Go.Ab.C
open Go.Ab
end Go.Ab.C

/- That the program has this code. -/
namespace Go.Ab.K
open Go Go.Ab
end Go.Ab.K

/- Contracts: the program's PositionsOf, AreSameForm, IsHanded. -/
namespace Go.Ab
open Go
set_option linter.unusedSimpArgs false
set_option linter.unusedVariables false

theorem SlI.lenV {N : Mem} {v : LV} {l : List Int} (h : SlI N v l) : lenV v = some (l.length : Int) := by
  rcases h with ⟨rfl, rfl⟩ | ⟨t, ex, rfl, _⟩ <;> rfl
end Go.Ab

/- The abstract code of some functions (written by a program of mine from the translation, by way of prepF). -/
namespace Go.Ab.C
open Go.Ab
end Go.Ab.C

/- That the program has this code. -/
namespace Go.Ab.K
open Go Go.Ab
end Go.Ab.K

/- Contracts: whether a number is one of a turn. -/
namespace Go.Ab
open Go
set_option linter.unusedSimpArgs false

def In24 (k : Int) : Prop := 0 ≤ k ∧ k ≤ 23
instance (k : Int) : Decidable (In24 k) := by unfold In24; exact inferInstance
end Go.Ab

/- Contracts: the laws' helpers that compare cells and heaps; the program's turned, mirrored, cropped heaps and forms, exactly. -/
namespace Go.Ab
open Go
set_option linter.unusedSimpArgs false
set_option linter.unusedVariables false
set_option maxRecDepth 20000

theorem CellsV.lenV {N : Mem} {v : LV} {l : List Cell} (h : CellsV N v l) : lenV v = some (l.length : Int) := by
  rcases h with ⟨rfl, rfl⟩ | ⟨t, o, rfl, _⟩ <;> rfl
theorem CellsV.at {N : Mem} {v : LV} {l : List Cell} {k : Nat} (h : CellsV N v l) (hk : k < l.length) : ∃ t o, v = .ref t o l.length ∧ getCells N t (o + k * 3) 3 = some (l.getD k default).row := by
  rcases h with ⟨rfl, rfl⟩ | ⟨t, o, rfl, h⟩
  · simp at hk
  · exact ⟨t, o, rfl, Tri.get h hk⟩
section
variable {x y z : Int} {t : Nat} {w : Bool} {cs : List Cell} {M : Mem} (h : Live M t (.row (triL cs) w 3)) (hH : HeapOK x y z cs)
include h hH
end
end Go.Ab

/- Contracts: the program's mirrored, other, joined, common, swapped, shifted, cropped and widened heaps. -/
namespace Go.Ab
open Go
set_option linter.unusedSimpArgs false
set_option linter.unusedVariables false
set_option maxRecDepth 20000

theorem g_isDirectionB {d : Int} {M : Mem} : CallsTo PG F.impl_isDirection [.I d] M (.B (decide (0 ≤ d ∧ d ≤ 2))) M := by
  refine calls_run K.impl_isDirection rfl ?_
  simp (disch := omega) only [C.impl_isDirection, ↓SXd, SXu, slBounds, ↓sop, ↓aop, ↓reduceIte, LV.cells, AOp.dst, LV.I, LV.B, LV.U, LV.S, LV.nil, Nat.reduceEqDiff, Nat.reduceAdd, Nat.reduceMul, Nat.reduceSub, Nat.reduceLeDiff, Nat.reduceBEq, Nat.reduceDiv, Nat.reduceMod, Int.reduceToNat, Int.reduceLT, Int.reduceLE, Int.reduceAdd, Int.reduceSub, Int.reduceMul, Int.reduceEq, Int.reduceNeg, reduceCtorEq, resV, resAll, ARes.ev, LV.flat, ite_true, ite_false, exists_eq_left', exists_eq_left, keyOf, implies_true, fillC, capOf]
  refine callK_of (g_within) ?_
  simp (disch := omega) only [↓SXd, SXu, slBounds, ↓sop, ↓aop, ↓reduceIte, LV.cells, AOp.dst, LV.I, LV.B, LV.U, LV.S, LV.nil, Nat.reduceEqDiff, Nat.reduceAdd, Nat.reduceMul, Nat.reduceSub, Nat.reduceLeDiff, Nat.reduceBEq, Nat.reduceDiv, Nat.reduceMod, Int.reduceToNat, Int.reduceLT, Int.reduceLE, Int.reduceAdd, Int.reduceSub, Int.reduceMul, Int.reduceEq, Int.reduceNeg, reduceCtorEq, resV, resAll, ARes.ev, LV.flat, ite_true, ite_false, exists_eq_left', exists_eq_left, keyOf, implies_true, fillC, capOf]
  exact cmp_drop0 rfl
theorem g_mirrorD {x y z d : Int} {c : Cell} {M : Mem} (hS : Sides x y z) (hc : c.inBox x y z) (hd : Dir d) :
    CallsTo PG F.impl_box_mirror [.agg [.I x, .I y, .I z], .agg [.I c.a, .I c.b, .I c.c], .I d] M (.agg [.I (mirDC x y z d c).a, .I (mirDC x y z d c).b, .I (mirDC x y z d c).c]) M := by
  obtain ⟨⟨_, _⟩, ⟨_, _⟩, ⟨_, _⟩⟩ := hS
  obtain ⟨⟨_, _⟩, ⟨_, _⟩, ⟨_, _⟩⟩ := hc
  refine calls_run K.impl_box_mirror rfl ?_
  rcases hd with rfl | rfl | rfl
  all_goals
    simp (disch := omega) only [C.impl_box_mirror, splice, ↓SXd, SXu, slBounds, ↓sop, ↓aop, ↓reduceIte, LV.cells, AOp.dst, LV.I, LV.B, LV.U, LV.S, LV.nil, Nat.reduceEqDiff, Nat.reduceAdd, Nat.reduceMul, Nat.reduceSub, Nat.reduceLeDiff, Nat.reduceBEq, Nat.reduceDiv, Nat.reduceMod, Int.reduceToNat, Int.reduceLT, Int.reduceLE, Int.reduceAdd, Int.reduceSub, Int.reduceMul, Int.reduceEq, Int.reduceNeg, reduceCtorEq, resV, resAll, ARes.ev, LV.flat, ite_true, ite_false, exists_eq_left', exists_eq_left, keyOf, implies_true, fillC, capOf]
    exact cmp_drop rfl
theorem g_mirrorD_1 {x y z d : Int} {c : Cell} {v : LV} {t t' : Nat} {M : Mem} (hS : Sides x y z) (hc : c.inBox x y z) (hd : Dir d) (h : Live M t (.row [.I x, .I y, .I z, v] true 0)) (h' : Live M t' (.row [.I d] true 0)) :
    CallsTo PG F.impl_MirrorHeap_1 ([.agg [.I c.a, .I c.b, .I c.c]] ++ [(t, 0), (t', 0)].map fun p => .ptr p.1 p.2) M (.agg [.I (mirDC x y z d c).a, .I (mirDC x y z d c).b, .I (mirDC x y z d c).c]) M := by
  have ht := h.lt
  have ht' := h'.lt
  refine calls_run K.impl_MirrorHeap_1 rfl ?_
  simp (disch := omega) only [C.impl_MirrorHeap_1, List.map_cons, List.map_nil, h.app.cells, h'.app.cell, ↓SXd, SXu, slBounds, ↓sop, ↓aop, ↓reduceIte, LV.cells, AOp.dst, LV.I, LV.B, LV.U, LV.S, LV.nil, Nat.reduceEqDiff, Nat.reduceAdd, Nat.reduceMul, Nat.reduceSub, Nat.reduceLeDiff, Nat.reduceBEq, Nat.reduceDiv, Nat.reduceMod, Int.reduceToNat, Int.reduceLT, Int.reduceLE, Int.reduceAdd, Int.reduceSub, Int.reduceMul, Int.reduceEq, Int.reduceNeg, reduceCtorEq, resV, resAll, ARes.ev, LV.flat, ite_true, ite_false, exists_eq_left', exists_eq_left, keyOf, implies_true, fillC, capOf]
  refine callK_of (g_box) ?_
  simp (disch := omega) only [↓SXd, SXu, slBounds, ↓sop, ↓aop, ↓reduceIte, LV.cells, AOp.dst, LV.I, LV.B, LV.U, LV.S, LV.nil, Nat.reduceEqDiff, Nat.reduceAdd, Nat.reduceMul, Nat.reduceSub, Nat.reduceLeDiff, Nat.reduceBEq, Nat.reduceDiv, Nat.reduceMod, Int.reduceToNat, Int.reduceLT, Int.reduceLE, Int.reduceAdd, Int.reduceSub, Int.reduceMul, Int.reduceEq, Int.reduceNeg, reduceCtorEq, resV, resAll, ARes.ev, LV.flat, ite_true, ite_false, exists_eq_left', exists_eq_left, keyOf, implies_true, fillC, capOf]
  refine callK_of (g_mirrorD hS hc hd) ?_
  simp (disch := omega) only [splice, ↓SXd, SXu, slBounds, ↓sop, ↓aop, ↓reduceIte, LV.cells, AOp.dst, LV.I, LV.B, LV.U, LV.S, LV.nil, Nat.reduceEqDiff, Nat.reduceAdd, Nat.reduceMul, Nat.reduceSub, Nat.reduceLeDiff, Nat.reduceBEq, Nat.reduceDiv, Nat.reduceMod, Int.reduceToNat, Int.reduceLT, Int.reduceLE, Int.reduceAdd, Int.reduceSub, Int.reduceMul, Int.reduceEq, Int.reduceNeg, reduceCtorEq, resV, resAll, ARes.ev, LV.flat, ite_true, ite_false, exists_eq_left', exists_eq_left, keyOf, implies_true, fillC, capOf]
  exact cmp_drop rfl
section
variable {x y z : Int} {t : Nat} {w : Bool} {cs : List Cell} {M : Mem} (h : Live M t (.row (triL cs) w 3)) (hn : cs.length ≤ 1000000000)
include h hn
theorem g_MirrorHeapX {d : Int} : CallsR PG F.impl_MirrorHeap [.agg [.I x, .I y, .I z, .ref t 0 cs.length], .I d] M (HeapX M (mirOf x y z cs d)) := by
  refine heapX_of ?_
  refine callsR_run K.impl_MirrorHeap rfl ?_
  simp (disch := omega) only [C.impl_MirrorHeap, ↓SXd, SXu, slBounds, ↓sop, ↓aop, ↓reduceIte, LV.cells, AOp.dst, LV.I, LV.B, LV.U, LV.S, LV.nil, Nat.reduceEqDiff, Nat.reduceAdd, Nat.reduceMul, Nat.reduceSub, Nat.reduceLeDiff, Nat.reduceBEq, Nat.reduceDiv, Nat.reduceMod, Int.reduceToNat, Int.reduceLT, Int.reduceLE, Int.reduceAdd, Int.reduceSub, Int.reduceMul, Int.reduceEq, Int.reduceNeg, reduceCtorEq, resV, resAll, ARes.ev, LV.flat, ite_true, ite_false, exists_eq_left', exists_eq_left, keyOf, implies_true, fillC, capOf]
  refine callK_of (g_IsHeap (Has.app h.has) hn) ?_
  simp (disch := omega) only [↓SXd, SXu, slBounds, ↓sop, ↓aop, ↓reduceIte, LV.cells, AOp.dst, LV.I, LV.B, LV.U, LV.S, LV.nil, Nat.reduceEqDiff, Nat.reduceAdd, Nat.reduceMul, Nat.reduceSub, Nat.reduceLeDiff, Nat.reduceBEq, Nat.reduceDiv, Nat.reduceMod, Int.reduceToNat, Int.reduceLT, Int.reduceLE, Int.reduceAdd, Int.reduceSub, Int.reduceMul, Int.reduceEq, Int.reduceNeg, reduceCtorEq, resV, resAll, ARes.ev, LV.flat, ite_true, ite_false, exists_eq_left', exists_eq_left, keyOf, implies_true, fillC, capOf]
  by_cases hH : HeapOK x y z cs
  rotate_left
  · simp (disch := omega) only [hH, splice, ↓SXd, SXu, slBounds, ↓sop, ↓aop, ↓reduceIte, LV.cells, AOp.dst, LV.I, LV.B, LV.U, LV.S, LV.nil, Nat.reduceEqDiff, Nat.reduceAdd, Nat.reduceMul, Nat.reduceSub, Nat.reduceLeDiff, Nat.reduceBEq, Nat.reduceDiv, Nat.reduceMod, Int.reduceToNat, Int.reduceLT, Int.reduceLE, Int.reduceAdd, Int.reduceSub, Int.reduceMul, Int.reduceEq, Int.reduceNeg, reduceCtorEq, resV, resAll, ARes.ev, LV.flat, ite_true, ite_false, exists_eq_left', exists_eq_left, keyOf, implies_true, fillC, capOf]
    exact heapX_no (if_neg fun e => hH e.1) rfl (Pre.app _ _)
  have hlen := hH.len
  simp (disch := omega) only [hH, ↓SXd, SXu, slBounds, ↓sop, ↓aop, ↓reduceIte, LV.cells, AOp.dst, LV.I, LV.B, LV.U, LV.S, LV.nil, Nat.reduceEqDiff, Nat.reduceAdd, Nat.reduceMul, Nat.reduceSub, Nat.reduceLeDiff, Nat.reduceBEq, Nat.reduceDiv, Nat.reduceMod, Int.reduceToNat, Int.reduceLT, Int.reduceLE, Int.reduceAdd, Int.reduceSub, Int.reduceMul, Int.reduceEq, Int.reduceNeg, reduceCtorEq, resV, resAll, ARes.ev, LV.flat, ite_true, ite_false, exists_eq_left', exists_eq_left, keyOf, implies_true, fillC, capOf]
  refine callK_of (g_isDirectionB) ?_
  simp (disch := omega) only [↓SXd, SXu, slBounds, ↓sop, ↓aop, ↓reduceIte, LV.cells, AOp.dst, LV.I, LV.B, LV.U, LV.S, LV.nil, Nat.reduceEqDiff, Nat.reduceAdd, Nat.reduceMul, Nat.reduceSub, Nat.reduceLeDiff, Nat.reduceBEq, Nat.reduceDiv, Nat.reduceMod, Int.reduceToNat, Int.reduceLT, Int.reduceLE, Int.reduceAdd, Int.reduceSub, Int.reduceMul, Int.reduceEq, Int.reduceNeg, reduceCtorEq, resV, resAll, ARes.ev, LV.flat, ite_true, ite_false, exists_eq_left', exists_eq_left, keyOf, implies_true, fillC, capOf]
  by_cases hd : 0 ≤ d ∧ d ≤ 2
  rotate_left
  · simp (disch := omega) only [hd, splice, ↓SXd, SXu, slBounds, ↓sop, ↓aop, ↓reduceIte, LV.cells, AOp.dst, LV.I, LV.B, LV.U, LV.S, LV.nil, Nat.reduceEqDiff, Nat.reduceAdd, Nat.reduceMul, Nat.reduceSub, Nat.reduceLeDiff, Nat.reduceBEq, Nat.reduceDiv, Nat.reduceMod, Int.reduceToNat, Int.reduceLT, Int.reduceLE, Int.reduceAdd, Int.reduceSub, Int.reduceMul, Int.reduceEq, Int.reduceNeg, reduceCtorEq, resV, resAll, ARes.ev, LV.flat, ite_true, ite_false, exists_eq_left', exists_eq_left, keyOf, implies_true, fillC, capOf]
    exact heapX_no (if_neg fun e => hd (dir_in.1 e.2)) rfl (Pre.app _ _)
  have hD := dir_in.2 hd
  have hif : mirOf x y z cs d = some ⟨x, y, z, mirD x y z d cs⟩ := if_pos ⟨hH, hD⟩
  rw [hif]
  simp (disch := omega) only [hd, ↓SXd, SXu, slBounds, ↓sop, ↓aop, ↓reduceIte, LV.cells, AOp.dst, LV.I, LV.B, LV.U, LV.S, LV.nil, Nat.reduceEqDiff, Nat.reduceAdd, Nat.reduceMul, Nat.reduceSub, Nat.reduceLeDiff, Nat.reduceBEq, Nat.reduceDiv, Nat.reduceMod, Int.reduceToNat, Int.reduceLT, Int.reduceLE, Int.reduceAdd, Int.reduceSub, Int.reduceMul, Int.reduceEq, Int.reduceNeg, reduceCtorEq, resV, resAll, ARes.ev, LV.flat, ite_true, ite_false, exists_eq_left', exists_eq_left, keyOf, implies_true, fillC, capOf]
  refine callK_of (g_box) ?_
  simp (disch := omega) only [↓SXd, SXu, slBounds, ↓sop, ↓aop, ↓reduceIte, LV.cells, AOp.dst, LV.I, LV.B, LV.U, LV.S, LV.nil, Nat.reduceEqDiff, Nat.reduceAdd, Nat.reduceMul, Nat.reduceSub, Nat.reduceLeDiff, Nat.reduceBEq, Nat.reduceDiv, Nat.reduceMod, Int.reduceToNat, Int.reduceLT, Int.reduceLE, Int.reduceAdd, Int.reduceSub, Int.reduceMul, Int.reduceEq, Int.reduceNeg, reduceCtorEq, resV, resAll, ARes.ev, LV.flat, ite_true, ite_false, exists_eq_left', exists_eq_left, keyOf, implies_true, fillC, capOf]
  refine callK_of (g_moved (g := mirDC x y z d) (Has.app h.has) (by omega) hH.1 (fun c hc => mirDC_in (hH.mem hc)) fun N hp c hcc => ?_) ?_
  · exact g_mirrorD_1 hH.1 (hH.mem hcc) hD ((Live.newj (j := 0) rfl).pre hp) ((Live.newj (j := 1) rfl).pre hp)
  simp (disch := omega) only [splice, ↓SXd, SXu, slBounds, ↓sop, ↓aop, ↓reduceIte, LV.cells, AOp.dst, LV.I, LV.B, LV.U, LV.S, LV.nil, Nat.reduceEqDiff, Nat.reduceAdd, Nat.reduceMul, Nat.reduceSub, Nat.reduceLeDiff, Nat.reduceBEq, Nat.reduceDiv, Nat.reduceMod, Int.reduceToNat, Int.reduceLT, Int.reduceLE, Int.reduceAdd, Int.reduceSub, Int.reduceMul, Int.reduceEq, Int.reduceNeg, reduceCtorEq, resV, resAll, ARes.ev, LV.flat, ite_true, ite_false, exists_eq_left', exists_eq_left, keyOf, implies_true, fillC, capOf]
  exact .inl ⟨⟨M.length + 3, rfl, Live.newj (j := 3) rfl, by omega⟩, Pre.app _ _⟩
end
section
variable {x y z x' y' z' : Int} {t t' : Nat} {w w' : Bool} {cs ds : List Cell} {M : Mem} (h : Live M t (.row (triL cs) w 3)) (hn : cs.length ≤ 1000000000) (h' : Live M t' (.row (triL ds) w' 3)) (hn' : ds.length ≤ 1000000000)
include h hn h' hn'
end
end Go.Ab

/- The abstract code of some functions (written by a program of mine from the translation, by way of prepF). -/
namespace Go.Ab.C
open Go.Ab
def impl_MostDominoes : AFn :=
 ⟨1, 50, [.tmp 2, .tmp 3],
 .seq (.ops [(none, .box 1 (.t 0)),
 (none, .mv 2 (.c (.I 0))),
 (none, .mv 3 (.c (.B false)))])
 (.seq (.seq (.ops [(none, .loadN 11 4 (.t 1)),
 (none, .call (some 12) F.impl_IsHeap [(.t 11)]),
 (none, .un 13 .not (.t 12))])
 (.cond (.t 13) (.seq (.ops [(none, .mv 2 (.c (.I 0))),
 (none, .mv 3 (.c (.B false)))])
 (.ret))
 (.skip)))
 (.seq (.draw [⟨(none, .loadN 14 4 (.t 1)), [], []⟩,
 ⟨(none, .loadN 16 4 (.t 1)), [], []⟩,
 ⟨(none, .alloc 4 [(.I 0), (.I 0), (.I 0)]), [], []⟩,
 ⟨(none, .alloc 5 [(.U 0)]), [], []⟩,
 ⟨(none, .call (some 15) F.impl_Heap_box [(.t 14)]), [2, 3], [1]⟩,
 ⟨(none, .call (some 17) F.impl_Heap_free [(.t 16)]), [2, 3], []⟩,
 ⟨(none, .store 3 (.t 4) (.t 15)), [], []⟩,
 ⟨(none, .store 1 (.t 5) (.t 17)), [], []⟩])
 (.seq (.ops [(none, .mkmap 18),
 (none, .alloc 6 [(.val (.map none))]),
 (none, .store 1 (.t 6) (.t 18))])
 (.seq (.ops [(none, .alloc 7 [(.val .nilFunc)])])
 (.seq (.ops [(none, .mkf 19 F.impl_MostDominoes_1 [(.t 4), (.t 5), (.t 6), (.t 7)]),
 (none, .store 1 (.t 7) (.t 19))])
 (.seq (.ops [(none, .mv 8 (.c (.I 0)))])
 (.seq (.seq (.ops [(none, .loadN 20 3 (.t 4)),
 (none, .load1 21 (.t 5)),
 (none, .call (some 22) F.impl_box_list [(.t 20), (.t 21)]),
 (none, .len 23 (.t 22)),
 (none, .mv 24 (.c (.I 0)))])
 (.block 0 (.loop (.seq (.ops [(none, .bin 25 .lss (.t 24) (.t 23))])
 (.seq (.cond (.t 25) (.skip)
 (.exit 0))
 (.seq (.block 1 (.seq (.ops [(none, .idxS 26 3 (.t 22) (.t 24)),
 (none, .loadN 27 3 (.t 26)),
 (none, .alloc 10 [(.I 0), (.I 0), (.I 0)]),
 (none, .store 3 (.t 10) (.t 27))])
 (.seq (.draw [⟨(none, .idxA 28 3 1 (.t 10) (.c (.I 0))), [], []⟩,
 ⟨(none, .load1 29 (.t 28)), [], []⟩,
 ⟨(none, .idxA 30 3 1 (.t 10) (.c (.I 1))), [], []⟩,
 ⟨(none, .load1 31 (.t 30)), [], []⟩,
 ⟨(none, .bin 32 .add (.t 29) (.t 31)), [], []⟩,
 ⟨(none, .idxA 33 3 1 (.t 10) (.c (.I 2))), [], []⟩,
 ⟨(none, .load1 34 (.t 33)), [], []⟩,
 ⟨(none, .bin 35 .add (.t 32) (.t 34)), [], []⟩,
 ⟨(none, .bin 36 .rem (.t 35) (.c (.I 2))), [], []⟩,
 ⟨(none, .bin 37 .eql (.t 36) (.c (.I 0))), [], []⟩,
 ⟨(none, .mv 38 (.t 37)), [], []⟩,
 ⟨(some (38, true), .load1 39 (.t 7)), [], []⟩,
 ⟨(some (38, true), .loadN 40 3 (.t 4)), [], []⟩,
 ⟨(some (38, true), .loadN 41 3 (.t 10)), [], []⟩,
 ⟨(some (38, true), .mkmap 43), [], []⟩,
 ⟨(some (38, true), .call (some 42) F.impl_box_index [(.t 40), (.t 41)]), [14], [11]⟩,
 ⟨(some (38, true), .callV (some 44) (.t 39) [(.t 42), (.t 43)]), [], []⟩,
 ⟨(none, .pick 45 (.t 38) (.t 44) (.c (.B false))), [], []⟩])
 (.cond (.t 45) (.ops [(none, .mv 46 (.t 8)),
 (none, .bin 47 .add (.t 46) (.c (.I 1))),
 (none, .mv 8 (.t 47))])
 (.skip)))))
 (.ops [(none, .bin 48 .add (.t 24) (.c (.I 1))),
 (none, .mv 24 (.t 48))])))))))
 (.seq (.ops [(none, .mv 49 (.t 8)),
 (none, .mv 2 (.t 49)),
 (none, .mv 3 (.c (.B true)))])
 (.ret)))))))))⟩
def impl_MostDominoes_1 : AFn :=
 ⟨6, 54, [.tmp 8],
 .seq (.ops [(none, .mv 8 (.c (.B false)))])
 (.seq (.seq (.draw [⟨(none, .loadN 14 3 (.t 2)), [], []⟩,
 ⟨(none, .loadN 15 3 (.t 2)), [], []⟩,
 ⟨(none, .loadN 16 3 (.t 2)), [], []⟩,
 ⟨(none, .mv 17 (.t 0)), [], []⟩,
 ⟨(none, .load1 20 (.t 3)), [], []⟩,
 ⟨(none, .mv 24 (.c (.I 0))), [], []⟩,
 ⟨(none, .call (some 18) F.impl_box_cell [(.t 16), (.t 17)]), [], [0, 1, 4, 5]⟩,
 ⟨(none, .call (some 19) F.impl_box_near [(.t 15), (.t 18)]), [], [0, 4, 5]⟩,
 ⟨(none, .bin 21 .and (.t 19) (.t 20)), [], []⟩,
 ⟨(none, .call (some 22) F.impl_box_list [(.t 14), (.t 21)]), [], [5]⟩,
 ⟨(none, .len 23 (.t 22)), [], []⟩])
 (.block 0 (.loop (.seq (.ops [(none, .bin 25 .lss (.t 24) (.t 23))])
 (.seq (.cond (.t 25) (.skip)
 (.exit 0))
 (.seq (.block 1 (.seq (.ops [(none, .idxS 26 3 (.t 22) (.t 24)),
 (none, .loadN 27 3 (.t 26)),
 (none, .alloc 10 [(.I 0), (.I 0), (.I 0)]),
 (none, .store 3 (.t 10) (.t 27))])
 (.seq (.ops [(none, .loadN 28 3 (.t 2)),
 (none, .loadN 29 3 (.t 10)),
 (none, .call (some 30) F.impl_box_index [(.t 28), (.t 29)]),
 (none, .mv 11 (.t 30))])
 (.seq (.seq (.ops [(none, .mv 31 (.t 1)),
 (none, .mv 32 (.t 11)),
 (none, .lookup 33 0 (.t 31) (.t 32) (.bool false) false)])
 (.cond (.t 33) (.exit 1)
 (.skip)))
 (.seq (.ops [(none, .mv 34 (.t 1)),
 (none, .mv 35 (.t 11)),
 (none, .mupd 0 (.t 34) (.t 35) (.c (.B true)))])
 (.seq (.ops [(none, .load1 37 (.t 4)),
 (none, .mv 38 (.t 11)),
 (none, .lookup 39 0 (.t 37) (.t 38) (.int .i64 0) true),
 (none, .mv 36 (.t 39)),
 (none, .extract 40 (.t 36) 0),
 (none, .extract 41 (.t 36) 1),
 (none, .mv 12 (.t 40)),
 (none, .mv 13 (.t 41))])
 (.seq (.ops [(none, .mv 42 (.t 13)),
 (none, .un 43 .not (.t 42)),
 (none, .mv 44 (.t 43)),
 (some (44, false), .load1 45 (.t 5)),
 (some (44, false), .mv 46 (.t 12)),
 (some (44, false), .mv 47 (.t 1)),
 (some (44, false), .callV (some 48) (.t 45) [(.t 46), (.t 47)]),
 (none, .pick 49 (.t 44) (.c (.B true)) (.t 48))])
 (.cond (.t 49) (.seq (.ops [(none, .load1 50 (.t 4)),
 (none, .mv 51 (.t 11)),
 (none, .mv 52 (.t 0)),
 (none, .mupd 0 (.t 50) (.t 51) (.t 52))])
 (.seq (.ops [(none, .mv 8 (.c (.B true)))])
 (.ret)))
 (.skip)))))))))
 (.ops [(none, .bin 53 .add (.t 24) (.c (.I 1))),
 (none, .mv 24 (.t 53))])))))))
 (.seq (.ops [(none, .mv 8 (.c (.B false)))])
 (.ret)))⟩
end Go.Ab.C

/- That the program has this code. -/
namespace Go.Ab.K
open Go Go.Ab
theorem impl_MostDominoes : prepF Go.Proofs.Try.prog F.impl_MostDominoes = some C.impl_MostDominoes := by kernel_rfl
theorem impl_MostDominoes_1 : prepF Go.Proofs.Try.prog F.impl_MostDominoes_1 = some C.impl_MostDominoes_1 := by kernel_rfl
end Go.Ab.K

/- The abstract code of some functions (written by a program of mine from the translation, by way of prepF). -/
namespace Go.Ab.C
open Go.Ab
def spec_l9Match : AFn :=
 ⟨4, 59, [.tmp 8],
 .seq (.ops [(none, .box 4 (.t 0)),
 (none, .box 5 (.t 1)),
 (none, .mv 8 (.c (.B false)))])
 (.seq (.ops [(none, .loadN 12 4 (.t 4)),
 (none, .loadN 13 3 (.t 5)),
 (none, .call (some 14) F.spec_l2Near [(.t 12), (.t 13)]),
 (none, .mv 9 (.t 14))])
 (.seq (.seq (.ops [(none, .mv 10 (.c (.I 0)))])
 (.block 0 (.loop (.seq (.seq (.ops [(none, .mv 15 (.t 10)),
 (none, .mv 16 (.t 9)),
 (none, .len 17 (.t 16)),
 (none, .bin 18 .lss (.t 15) (.t 17))])
 (.cond (.t 18) (.skip)
 (.exit 0)))
 (.seq (.block 1 (.seq (.draw [⟨(none, .loadN 21 4 (.t 4)), [], []⟩,
 ⟨(none, .mv 22 (.t 9)), [], []⟩,
 ⟨(none, .mv 23 (.t 10)), [], []⟩,
 ⟨(none, .idxS 24 3 (.t 22) (.t 23)), [], []⟩,
 ⟨(none, .loadN 25 3 (.t 24)), [], []⟩,
 ⟨(none, .call (some 26) F.spec_l9Place [(.t 21), (.t 25)]), [], []⟩,
 ⟨(none, .mv 11 (.t 26)), [], []⟩])
 (.seq (.seq (.ops [(none, .mv 27 (.t 3)),
 (none, .mv 28 (.t 11)),
 (none, .idxS 29 1 (.t 27) (.t 28)),
 (none, .load1 30 (.t 29))])
 (.cond (.t 30) (.exit 1)
 (.skip)))
 (.seq (.ops [(none, .mv 31 (.t 3)),
 (none, .mv 32 (.t 11)),
 (none, .idxS 33 1 (.t 31) (.t 32)),
 (none, .store 1 (.t 33) (.c (.B true)))])
 (.seq (.draw [⟨(none, .mv 34 (.t 2)), [], []⟩,
 ⟨(none, .mv 35 (.t 11)), [], []⟩,
 ⟨(none, .idxS 36 1 (.t 34) (.t 35)), [], []⟩,
 ⟨(none, .load1 37 (.t 36)), [], []⟩,
 ⟨(none, .bin 38 .lss (.t 37) (.c (.I 0))), [], []⟩,
 ⟨(none, .mv 39 (.t 38)), [], []⟩,
 ⟨(some (39, false), .loadN 40 4 (.t 4)), [], []⟩,
 ⟨(some (39, false), .loadN 41 4 (.t 4)), [], []⟩,
 ⟨(some (39, false), .mv 43 (.t 2)), [], []⟩,
 ⟨(some (39, false), .mv 44 (.t 11)), [], []⟩,
 ⟨(some (39, false), .idxS 45 1 (.t 43) (.t 44)), [], []⟩,
 ⟨(some (39, false), .load1 46 (.t 45)), [], []⟩,
 ⟨(some (39, false), .mv 49 (.t 2)), [], []⟩,
 ⟨(some (39, false), .mv 50 (.t 3)), [], []⟩,
 ⟨(some (39, false), .call (some 42) F.spec_l2All [(.t 41)]), [], [6, 8, 9, 10, 11, 12, 13]⟩,
 ⟨(some (39, false), .idxS 47 3 (.t 42) (.t 46)), [], []⟩,
 ⟨(some (39, false), .loadN 48 3 (.t 47)), [], []⟩,
 ⟨(some (39, false), .call (some 51) F.spec_l9Match [(.t 40), (.t 48), (.t 49), (.t 50)]), [], []⟩,
 ⟨(none, .pick 52 (.t 39) (.c (.B true)) (.t 51)), [], []⟩])
 (.cond (.t 52) (.seq (.ops [(none, .mv 53 (.t 2)),
 (none, .mv 54 (.t 11)),
 (none, .loadN 55 4 (.t 4)),
 (none, .loadN 56 3 (.t 5)),
 (none, .call (some 57) F.spec_l9Place [(.t 55), (.t 56)]),
 (none, .idxS 58 1 (.t 53) (.t 54)),
 (none, .store 1 (.t 58) (.t 57))])
 (.seq (.ops [(none, .mv 8 (.c (.B true)))])
 (.ret)))
 (.skip)))))))
 (.ops [(none, .mv 19 (.t 10)),
 (none, .bin 20 .add (.t 19) (.c (.I 1))),
 (none, .mv 10 (.t 20))]))))))
 (.seq (.ops [(none, .mv 8 (.c (.B false)))])
 (.ret))))⟩
def spec_l9Even : AFn :=
 ⟨1, 13, [.tmp 2],
 .seq (.ops [(none, .box 1 (.t 0)),
 (none, .mv 2 (.c (.B false)))])
 (.seq (.ops [(none, .idxA 3 3 1 (.t 1) (.c (.I 0))),
 (none, .load1 4 (.t 3)),
 (none, .idxA 5 3 1 (.t 1) (.c (.I 1))),
 (none, .load1 6 (.t 5)),
 (none, .bin 7 .add (.t 4) (.t 6)),
 (none, .idxA 8 3 1 (.t 1) (.c (.I 2))),
 (none, .load1 9 (.t 8)),
 (none, .bin 10 .add (.t 7) (.t 9)),
 (none, .bin 11 .rem (.t 10) (.c (.I 2))),
 (none, .bin 12 .eql (.t 11) (.c (.I 0))),
 (none, .mv 2 (.t 12))])
 (.ret))⟩
def spec_MostDominoes : AFn :=
 ⟨1, 59, [.tmp 2, .tmp 3],
 .seq (.ops [(none, .box 1 (.t 0)),
 (none, .mv 2 (.c (.I 0))),
 (none, .mv 3 (.c (.B false)))])
 (.seq (.seq (.ops [(none, .loadN 9 4 (.t 1)),
 (none, .call (some 10) F.spec_l2Heap [(.t 9)]),
 (none, .un 11 .not (.t 10))])
 (.cond (.t 11) (.seq (.ops [(none, .mv 2 (.c (.I 0))),
 (none, .mv 3 (.c (.B false)))])
 (.ret))
 (.skip)))
 (.seq (.ops [(none, .loadN 12 4 (.t 1)),
 (none, .call (some 13) F.spec_l9Free [(.t 12)]),
 (none, .alloc 4 [(.I 0), (.I 0), (.I 0), .nil]),
 (none, .store 4 (.t 4) (.t 13)),
 (none, .mv 5 (.c (.I 0)))])
 (.seq (.ops [(none, .buildSl 14 0 1 [] []),
 (none, .mv 6 (.t 14))])
 (.seq (.seq (.ops [(none, .mv 7 (.c (.I 0)))])
 (.block 0 (.loop (.seq (.seq (.ops [(none, .mv 15 (.t 7)),
 (none, .fieldAddr 16 (.t 1) 0),
 (none, .load1 17 (.t 16)),
 (none, .fieldAddr 18 (.t 1) 1),
 (none, .load1 19 (.t 18)),
 (none, .bin 20 .mul (.t 17) (.t 19)),
 (none, .fieldAddr 21 (.t 1) 2),
 (none, .load1 22 (.t 21)),
 (none, .bin 23 .mul (.t 20) (.t 22)),
 (none, .bin 24 .lss (.t 15) (.t 23))])
 (.cond (.t 24) (.skip)
 (.exit 0)))
 (.seq (.block 1 (.ops [(none, .mv 27 (.t 6)),
 (none, .buildSl 28 1 1 [(.I 0)] [(0, 1, (.c (.I (-1))))]),
 (none, .append 29 1 8 (.t 27) (.t 28)),
 (none, .mv 6 (.t 29))]))
 (.ops [(none, .mv 25 (.t 7)),
 (none, .bin 26 .add (.t 25) (.c (.I 1))),
 (none, .mv 7 (.t 26))]))))))
 (.seq (.seq (.ops [(none, .mv 8 (.c (.I 0)))])
 (.block 2 (.loop (.seq (.seq (.ops [(none, .mv 30 (.t 8)),
 (none, .fieldAddr 31 (.t 4) 3),
 (none, .load1 32 (.t 31)),
 (none, .len 33 (.t 32)),
 (none, .bin 34 .lss (.t 30) (.t 33))])
 (.cond (.t 34) (.skip)
 (.exit 2)))
 (.seq (.block 3 (.seq (.draw [⟨(none, .fieldAddr 37 (.t 4) 3), [], []⟩,
 ⟨(none, .load1 38 (.t 37)), [], []⟩,
 ⟨(none, .mv 39 (.t 8)), [], []⟩,
 ⟨(none, .idxS 40 3 (.t 38) (.t 39)), [], []⟩,
 ⟨(none, .loadN 41 3 (.t 40)), [], []⟩,
 ⟨(none, .call (some 42) F.spec_l9Even [(.t 41)]), [], []⟩,
 ⟨(none, .mv 43 (.t 42)), [], []⟩,
 ⟨(some (43, true), .loadN 44 4 (.t 4)), [], []⟩,
 ⟨(some (43, true), .fieldAddr 45 (.t 4) 3), [], []⟩,
 ⟨(some (43, true), .load1 46 (.t 45)), [], []⟩,
 ⟨(some (43, true), .mv 47 (.t 8)), [], []⟩,
 ⟨(some (43, true), .idxS 48 3 (.t 46) (.t 47)), [], []⟩,
 ⟨(some (43, true), .loadN 49 3 (.t 48)), [], []⟩,
 ⟨(some (43, true), .mv 50 (.t 6)), [], []⟩,
 ⟨(some (43, true), .mv 51 (.t 6)), [], []⟩,
 ⟨(some (43, true), .len 52 (.t 51)), [], []⟩,
 ⟨(some (43, true), .mksl 53 1 1 [(.B false)] (.t 52) (.t 52)), [], []⟩,
 ⟨(some (43, true), .call (some 54) F.spec_l9Match [(.t 44), (.t 49), (.t 50), (.t 53)]), [], []⟩,
 ⟨(none, .pick 55 (.t 43) (.t 54) (.c (.B false))), [], []⟩])
 (.cond (.t 55) (.ops [(none, .mv 56 (.t 5)),
 (none, .bin 57 .add (.t 56) (.c (.I 1))),
 (none, .mv 5 (.t 57))])
 (.skip))))
 (.ops [(none, .mv 35 (.t 8)),
 (none, .bin 36 .add (.t 35) (.c (.I 1))),
 (none, .mv 8 (.t 36))]))))))
 (.seq (.ops [(none, .mv 58 (.t 5)),
 (none, .mv 2 (.t 58)),
 (none, .mv 3 (.c (.B true)))])
 (.ret)))))))⟩
end Go.Ab.C

/- That the program has this code. -/
namespace Go.Ab.K
open Go Go.Ab
theorem spec_l9Match : prepF Go.Proofs.Try.prog F.spec_l9Match = some C.spec_l9Match := by kernel_rfl
theorem spec_l9Even : prepF Go.Proofs.Try.prog F.spec_l9Even = some C.spec_l9Even := by kernel_rfl
theorem spec_MostDominoes : prepF Go.Proofs.Try.prog F.spec_MostDominoes = some C.spec_MostDominoes := by kernel_rfl
end Go.Ab.K

/- Plain words: in how many ways cells can be put into pairs; the order of the cells makes no difference. -/
namespace Go.Ab
open Go
set_option linter.unusedSimpArgs false
set_option linter.unusedVariables false

def sumD (l : List Cell) (k : Cell → Nat) : Nat := (l.map k).sum
theorem sumD_nil {k : Cell → Nat} : sumD [] k = 0 := rfl
theorem sumD_cons {k : Cell → Nat} {c : Cell} {l : List Cell} : sumD (c :: l) k = k c + sumD l k := by simp [sumD]
theorem sumD_congr {k k' : Cell → Nat} : ∀ {l : List Cell}, (∀ c ∈ l, k c = k' c) → sumD l k = sumD l k'
  | [], _ => rfl
  | c :: l, h => by rw [sumD_cons, sumD_cons, h c (by simp), sumD_congr fun d hd => h d (List.mem_cons_of_mem _ hd)]
theorem sumD_perm {k : Cell → Nat} {l l' : List Cell} (h : l.Perm l') : sumD l k = sumD l' k := by
  induction h with
  | nil => rfl
  | cons c _ ih => rw [sumD_cons, sumD_cons, ih]
  | swap c d l => simp only [sumD_cons]; omega
  | trans _ _ i1 i2 => rw [i1, i2]
theorem sumD_zero : ∀ {l : List Cell}, sumD l (fun _ => 0) = 0
  | [] => rfl
  | c :: l => by rw [sumD_cons, sumD_zero]
theorem sumD_add {k k' : Cell → Nat} : ∀ {l : List Cell}, sumD l (fun c => k c + k' c) = sumD l k + sumD l k'
  | [] => rfl
  | c :: l => by rw [sumD_cons, sumD_cons, sumD_cons, sumD_add]; omega
theorem sumD_swap {k : Cell → Cell → Nat} {m : List Cell} : ∀ {l : List Cell}, sumD l (fun c => sumD m fun d => k c d) = sumD m fun d => sumD l fun c => k c d
  | [] => by simp only [sumD_nil]; exact sumD_zero.symm
  | c :: l => by
    rw [sumD_cons, sumD_swap]
    rw [← sumD_add]
    exact sumD_congr fun d _ => by rw [sumD_cons]
theorem sumD_filter {k : Cell → Nat} {p : Cell → Bool} : ∀ {l : List Cell}, sumD (l.filter p) k = sumD l fun c => if p c then k c else 0
  | [] => rfl
  | c :: l => by
    rw [sumD_cons]
    by_cases h : p c = true
    · rw [List.filter_cons_of_pos h, sumD_cons, sumD_filter, if_pos h]
    · rw [List.filter_cons_of_neg h, sumD_filter, if_neg h]; omega
theorem sumD_pos {k : Cell → Nat} : ∀ {l : List Cell}, 0 < sumD l k ↔ ∃ c ∈ l, 0 < k c
  | [] => by simp [sumD_nil]
  | c :: l => by
    have ih := sumD_pos (k := k) (l := l)
    rw [sumD_cons]
    constructor
    · intro h
      by_cases h1 : 0 < k c
      · exact ⟨c, by simp, h1⟩
      · obtain ⟨d, h2, h3⟩ := ih.1 (by omega)
        exact ⟨d, by simp [h2], h3⟩
    · rintro ⟨d, h2, h3⟩
      rcases List.mem_cons.1 h2 with rfl | h2
      · omega
      · have := ih.2 ⟨d, h2, h3⟩; omega
theorem sumD_map {k : Cell → Nat} {f : Cell → Cell} {l : List Cell} : sumD (l.map f) k = sumD l fun c => k (f c) := by simp [sumD, List.map_map]; rfl
def delC (l : List Cell) (d : Cell) : List Cell := l.filter fun e => !decide (e = d)
theorem del_out {l : List Cell} {d : Cell} (h : d ∉ l) : delC l d = l := List.filter_eq_self.2 fun e he => by simp; rintro rfl; exact h he
theorem mem_del {l : List Cell} {d e : Cell} : e ∈ delC l d ↔ e ∈ l ∧ e ≠ d := by simp [delC]
theorem del_cons {l : List Cell} {c d : Cell} (h : c ≠ d) : delC (c :: l) d = c :: delC l d := by unfold delC; rw [List.filter_cons_of_pos (by simp [h])]
theorem del_self {l : List Cell} {d : Cell} (h : d ∉ l) : delC (d :: l) d = l := by
  have := del_out h
  unfold delC at this ⊢
  rw [List.filter_cons_of_neg (by simp)]; exact this
theorem del_comm {l : List Cell} {c d : Cell} : delC (delC l c) d = delC (delC l d) c := by
  unfold delC
  rw [List.filter_filter, List.filter_filter]
  exact List.filter_congr fun e _ => Bool.and_comm _ _
theorem del_nodup {l : List Cell} {d : Cell} (h : l.Nodup) : (delC l d).Nodup := h.filter _
theorem del_len {l : List Cell} {d : Cell} (h : l.Nodup) (hd : d ∈ l) : (delC l d).length + 1 = l.length := by
  induction l with
  | nil => simp at hd
  | cons c l ih =>
    rw [List.nodup_cons] at h
    by_cases e : c = d
    · subst e; rw [del_self h.1]; rfl
    · rw [del_cons e, List.length_cons, List.length_cons, ih h.2 (by rcases List.mem_cons.1 hd with e2 | e2; exact absurd e2.symm e; exact e2)]
/-- The number of ways to put all cells into pairs of neighbors (two cells a step of fuel). -/
def domL : Nat → List Cell → Nat
  | _, [] => 1
  | 0, _ :: _ => 0
  | f + 1, c :: l => sumD l fun d => if apart d c = 1 then domL f (delC l d) else 0
theorem dom_nil (f : Nat) : domL f [] = 1 := by unfold domL; rfl
theorem dom_cons {f : Nat} {c : Cell} {l : List Cell} : domL (f + 1) (c :: l) = sumD l fun d => if apart d c = 1 then domL f (delC l d) else 0 := by rw [domL]
theorem dom_zero {c : Cell} {l : List Cell} : domL 0 (c :: l) = 0 := by unfold domL; rfl
theorem dom_two {f : Nat} {c d : Cell} {l : List Cell} (hc : c ∉ l) (hd : d ∉ l) (hcd : c ≠ d) : domL (f + 1) (c :: d :: l) = (if apart d c = 1 then domL f l else 0) + sumD l fun e => if apart e c = 1 then domL f (d :: delC l e) else 0 := by
  rw [dom_cons, sumD_cons, del_self hd]
  congr 1
  exact sumD_congr fun e he => by rw [del_cons (show d ≠ e from fun q => hd (by rw [q]; exact he))]
theorem dom_swap {f : Nat} {c d : Cell} {l : List Cell} (hc : c ∉ l) (hd : d ∉ l) (hcd : c ≠ d) : domL f (c :: d :: l) = domL f (d :: c :: l) := by
  cases f with
  | zero => rw [dom_zero, dom_zero]
  | succ f =>
    rw [dom_two hc hd hcd, dom_two hd hc fun e => hcd e.symm, apart_comm c d]
    congr 1
    cases f with
    | zero =>
      refine sumD_congr fun e _ => ?_
      rw [dom_zero, dom_zero]
      split <;> split <;> rfl
    | succ f =>
      have e1 : ∀ a b : Cell, sumD l (fun e => if apart e a = 1 then domL (f + 1) (b :: delC l e) else 0) = sumD l fun e => sumD l fun g => if apart e a = 1 ∧ g ≠ e ∧ apart g b = 1 then domL f (delC (delC l e) g) else 0 := fun a b => sumD_congr fun e _ => by
        by_cases h : apart e a = 1
        · rw [if_pos h, dom_cons]
          conv => lhs; rw [show delC l e = l.filter fun g => !decide (g = e) from rfl]
          rw [sumD_filter]
          refine sumD_congr fun g _ => ?_
          by_cases q : g = e
          · rw [if_neg (by simp [q]), if_neg fun w => w.2.1 q]
          · rw [if_pos (by simp [q])]
            by_cases q2 : apart g b = 1
            · rw [if_pos q2, if_pos ⟨h, q, q2⟩]; rfl
            · rw [if_neg q2, if_neg fun w => q2 w.2.2]
        · rw [if_neg h]
          refine sumD_zero.symm.trans (sumD_congr (l := l) (k := fun _ => 0) fun g _ => ?_)
          rw [if_neg (fun w : apart e a = 1 ∧ g ≠ e ∧ apart g b = 1 => h w.1)]
      rw [e1, e1, sumD_swap]
      refine sumD_congr fun e _ => sumD_congr fun g _ => ?_
      by_cases q : apart g c = 1 ∧ e ≠ g ∧ apart e d = 1
      · rw [if_pos q, if_pos ⟨q.2.2, fun w => q.2.1 w.symm, q.1⟩, del_comm]
      · rw [if_neg q, if_neg fun w => q ⟨w.2.2, fun w2 => w.2.1 w2.symm, w.1⟩]
/-- The order of the cells makes no difference. -/
theorem dom_perm : ∀ {f : Nat} {l l' : List Cell}, l.Perm l' → l.Nodup → domL f l = domL f l' := by
  intro f
  induction f with
  | zero =>
    intro l l' h _
    match l, l', h with
    | [], [], _ => rfl
    | [], _ :: _, h => exact absurd h.length_eq (by simp)
    | _ :: _, [], h => exact absurd h.length_eq (by simp)
    | _ :: _, _ :: _, _ => rw [dom_zero, dom_zero]
  | succ f ih =>
    intro l l' h
    induction h with
    | nil => intro _; rfl
    | cons c h _ =>
      intro hn
      rw [List.nodup_cons] at hn
      rw [dom_cons, dom_cons, sumD_perm h]
      refine sumD_congr fun d _ => ?_
      rw [ih (show (delC _ d).Perm (delC _ d) from h.filter _) (del_nodup hn.2)]
    | swap c d l =>
      intro hn
      rw [List.nodup_cons, List.nodup_cons, List.mem_cons, not_or] at hn
      exact dom_swap hn.1.2 hn.2.1 hn.1.1
    | trans h1 _ i1 i2 =>
      intro hn
      rw [i1 hn, i2 (h1.nodup_iff.1 hn)]
theorem dom_map {m : Cell → Cell} (hi : ∀ c d, m c = m d → c = d) (ha : ∀ c d, apart (m c) (m d) = apart c d) : ∀ {f : Nat} {l : List Cell}, domL f (l.map m) = domL f l
  | _, [] => by rw [List.map_nil]
  | 0, c :: l => by rw [List.map_cons, dom_zero, dom_zero]
  | f + 1, c :: l => by
    rw [List.map_cons, dom_cons, dom_cons, sumD_map]
    refine sumD_congr fun d _ => ?_
    have e : delC (l.map m) (m d) = (delC l d).map m := by
      unfold delC
      rw [List.filter_map]
      congr 1
      exact List.filter_congr fun e _ => by
        simp only [Function.comp_apply]
        congr 1
        exact decide_eq_decide.2 ⟨hi e d, fun h => by rw [h]⟩
    rw [ha, e, dom_map hi ha]
/-- All cells are in pairs. -/
def Paired (l : List Cell) (q : Cell → Cell) : Prop := ∀ c ∈ l, q c ∈ l ∧ q (q c) = c ∧ apart (q c) c = 1
theorem apart_self (c : Cell) : apart c c = 0 := by unfold apart; omega
theorem dom_pos : ∀ {f : Nat} {l : List Cell}, l.Nodup → 0 < domL f l → ∃ q, Paired l q
  | _, [], _, _ => ⟨id, fun c h => by simp at h⟩
  | 0, c :: l, _, h => by rw [dom_zero] at h; omega
  | f + 1, c :: l, hn, h => by
    rw [dom_cons, sumD_pos] at h
    obtain ⟨d, hd, h⟩ := h
    rw [List.nodup_cons] at hn
    by_cases ha : apart d c = 1
    · rw [if_pos ha] at h
      obtain ⟨q, hq⟩ := dom_pos (del_nodup hn.2) h
      have hdc : d ≠ c := fun e => hn.1 (e ▸ hd)
      refine ⟨fun e => if e = c then d else if e = d then c else q e, fun e he => ?_⟩
      by_cases e1 : e = c
      · subst e1
        simp only [if_true, if_neg hdc]
        exact ⟨by simp [hd], trivial, ha⟩
      · by_cases e2 : e = d
        · subst e2
          simp only [if_neg e1, if_true]
          exact ⟨by simp, trivial, by rw [apart_comm]; exact ha⟩
        · simp only [if_neg e1, if_neg e2]
          have he' : e ∈ delC l d := mem_del.2 ⟨by rcases List.mem_cons.1 he with h | h; exact absurd h e1; exact h, e2⟩
          obtain ⟨k1, k2, k3⟩ := hq e he'
          have k4 := mem_del.1 k1
          rw [if_neg (show ¬ q e = c from fun w => hn.1 (by rw [← w]; exact k4.1)), if_neg k4.2]
          exact ⟨List.mem_cons_of_mem _ k4.1, k2, k3⟩
    · rw [if_neg ha] at h; omega
theorem pos_dom : ∀ {f : Nat} {l : List Cell}, l.Nodup → l.length ≤ 2 * f → (∃ q, Paired l q) → 0 < domL f l
  | _, [], _, _, _ => by rw [dom_nil]; omega
  | 0, c :: l, _, h, _ => by simp at h
  | f + 1, c :: l, hn, hl, ⟨q, hq⟩ => by
    rw [dom_cons, sumD_pos]
    rw [List.nodup_cons] at hn
    obtain ⟨h1, h2, h3⟩ := hq c (by simp)
    have hqc : q c ≠ c := fun e => by rw [e, apart_self] at h3; omega
    have hm : q c ∈ l := by rcases List.mem_cons.1 h1 with h | h; exact absurd h hqc; exact h
    refine ⟨q c, hm, ?_⟩
    rw [if_pos h3]
    have hlen := del_len hn.2 hm
    refine pos_dom (del_nodup hn.2) (by simp only [List.length_cons] at hl; omega) ⟨q, fun e he => ?_⟩
    have he' := mem_del.1 he
    obtain ⟨k1, k2, k3⟩ := hq e (List.mem_cons_of_mem _ he'.1)
    refine ⟨mem_del.2 ⟨?_, fun w => ?_⟩, k2, k3⟩
    · rcases List.mem_cons.1 k1 with h | h
      · exact absurd (by rw [← k2, h]) he'.2
      · exact h
    · rw [w, h2] at k2
      exact hn.1 (k2 ▸ he'.1)
end Go.Ab

/- The abstract code of some functions (written by a program of mine from the translation, by way of prepF). -/
namespace Go.Ab.C
open Go.Ab
end Go.Ab.C

/- That the program has this code. -/
namespace Go.Ab.K
open Go Go.Ab
end Go.Ab.K

/- The abstract code of some functions (written by a program of mine from the translation, by way of prepF). -/
namespace Go.Ab.C
open Go.Ab
end Go.Ab.C

/- That the program has this code. -/
namespace Go.Ab.K
open Go Go.Ab
end Go.Ab.K

/- Contracts: the reference's cubes that stand or hang. -/
namespace Go.Ab
open Go
set_option linter.unusedSimpArgs false
set_option linter.unusedVariables false

end Go.Ab

/- Contracts: what stands, both sides. -/
namespace Go.Ab
open Go
set_option linter.unusedSimpArgs false
set_option linter.unusedVariables false

/-- All of a set stands. -/
def Firm (x y z : Int) (p : Cell → Bool) : Prop := ∀ c, c.inBox x y z → p c = true → stand x y z p c = true
noncomputable instance (x y z : Int) (p : Cell → Bool) : Decidable (Firm x y z p) := Classical.propDecidable _
section
variable {x y z : Int} (hS : Sides x y z)
include hS
/-- A cube can be taken. -/
noncomputable def canTake (x y z : Int) (p : Cell → Bool) (c : Cell) : Bool := p c && decide (Firm x y z fun d => p d && !decide (d = c))

end

end Go.Ab

/- Plain words: the first cell of a set; laying and taking orders. -/
namespace Go.Ab

def first (x y z : Int) (p : Cell → Bool) : Cell := (pick x y z p).headD default
theorem nodup_sub {l m : List Cell} (hn : l.Nodup) (hm : ∀ c ∈ l, c ∈ m) : l.length ≤ m.length := by
  induction l generalizing m with
  | nil => simp
  | cons c l ih =>
    rw [List.nodup_cons] at hn
    have hc := hm c (by simp)
    have := ih (m := m.erase c) hn.2 fun d hd => (List.mem_erase_of_ne (fun e => hn.1 (by rw [← e]; exact hd))).2 (hm d (by simp [hd]))
    rw [List.length_erase_of_mem hc] at this
    have h0 : 0 < m.length := List.length_pos_of_mem hc
    simp only [List.length_cons]
    omega
section
variable {x y z : Int} (hS : Sides x y z)
include hS
/-- A cube that may be laid. -/
def layC (q : Cell → Bool) (laid : List Cell) : Cell → Bool := fun c => q c && (!decide (c ∈ laid) && (decide (c.c = 0) || laid.any fun d => decide (apart d c = 1)))
def layL (x y z : Int) (q : Cell → Bool) : Nat → List Cell
  | 0 => []
  | k + 1 => layL x y z q k ++ [first x y z (layC q (layL x y z q k))]

/-- The taking order. -/
noncomputable def takeL (x y z : Int) (q : Cell → Bool) : Nat → List Cell
  | 0 => []
  | k + 1 => takeL x y z q k ++ [first x y z (canTake x y z fun d => q d && !decide (d ∈ takeL x y z q k))]
end
end Go.Ab

/- Plain words: a search for augmenting ways finds the most pairs. -/
namespace Go.Ab
open Go
set_option linter.unusedSimpArgs false
set_option linter.unusedVariables false

def updP {α : Type} (p : Nat → α) (o : Nat) (v : α) : Nat → α := fun i => if i = o then v else p i
theorem updP_at {α : Type} {p : Nat → α} {o : Nat} {v : α} : updP p o v o = v := if_pos rfl
theorem updP_ne {α : Type} {p : Nat → α} {o i : Nat} {v : α} (h : i ≠ o) : updP p o v i = p i := if_neg h
/-- How many of the first numbers have a partner of some kind. -/
def cntP (N : Nat) (p : Nat → Option Nat) (P : Option Nat → Bool) : Nat := (List.range N).countP fun o => P (p o)
theorem cntP_succ {N : Nat} {p : Nat → Option Nat} {P : Option Nat → Bool} : cntP (N + 1) p P = cntP N p P + if P (p N) then 1 else 0 := by
  unfold cntP
  rw [List.range_succ, List.countP_append]
  congr 1
  simp [List.countP_cons]
theorem cntP_out {N o : Nat} {p : Nat → Option Nat} {v : Option Nat} {P : Option Nat → Bool} (h : N ≤ o) : cntP N (updP p o v) P = cntP N p P := List.countP_congr fun i hi => by
  rw [updP_ne (by have := List.mem_range.1 hi; omega)]
theorem cntP_upd {o : Nat} {p : Nat → Option Nat} {v : Option Nat} {P : Option Nat → Bool} : ∀ {N : Nat}, o < N → cntP N (updP p o v) P + (if P (p o) then 1 else 0) = cntP N p P + if P v then 1 else 0
  | 0, h => by omega
  | N + 1, h => by
    rw [cntP_succ, cntP_succ]
    by_cases e : N = o
    · subst e
      rw [cntP_out (Nat.le_refl _), updP_at]; omega
    · rw [updP_ne e]
      have := cntP_upd (p := p) (v := v) (P := P) (N := N) (o := o) (by omega)
      omega
theorem nodup_subN : ∀ {l m : List Nat}, l.Nodup → (∀ c ∈ l, c ∈ m) → l.length ≤ m.length
  | [], _, _, _ => by simp
  | c :: l, m, hn, hm => by
    rw [List.nodup_cons] at hn
    have hc := hm c (by simp)
    have := nodup_subN (m := m.erase c) hn.2 fun d hd => (List.mem_erase_of_ne (fun e => hn.1 (by rw [← e]; exact hd))).2 (hm d (by simp [hd]))
    rw [List.length_erase_of_mem hc] at this
    have h0 : 0 < m.length := List.length_pos_of_mem hc
    simp only [List.length_cons]
    omega
structure KS where
  p : Nat → Option Nat
  s : Nat → Bool
def joinL (rec : Nat → KS → Bool × KS) (e : Nat) : List Nat → KS → Bool × KS
  | [], k => (false, k)
  | o :: os, k =>
    if k.s o then joinL rec e os k else
    match k.p o with
    | none => (true, ⟨updP k.p o (some e), updP k.s o true⟩)
    | some e2 => if (rec e2 ⟨k.p, updP k.s o true⟩).1 then (true, ⟨updP (rec e2 ⟨k.p, updP k.s o true⟩).2.p o (some e), (rec e2 ⟨k.p, updP k.s o true⟩).2.s⟩) else joinL rec e os (rec e2 ⟨k.p, updP k.s o true⟩).2
def joinN (nb : Nat → List Nat) : Nat → Nat → KS → Bool × KS
  | 0, _, k => (false, k)
  | f + 1, e, k => joinL (joinN nb f) e (nb e) k
/-- How many have not been asked. -/
def unS (N : Nat) (s : Nat → Bool) : Nat := (List.range N).countP fun o => !s o
theorem unS_upd {o : Nat} {s : Nat → Bool} : ∀ {N : Nat}, o < N → s o = false → unS N (updP s o true) + 1 = unS N s
  | 0, h, _ => by omega
  | N + 1, h, hs => by
    have e : ∀ s, unS (N + 1) s = unS N s + if s N then 0 else 1 := fun s => by
      unfold unS
      rw [List.range_succ, List.countP_append]
      congr 1
      cases hq : s N <;> simp [List.countP_cons, hq]
    rw [e, e]
    by_cases q : N = o
    · subst q
      rw [updP_at, hs]
      have : unS N (updP s N true) = unS N s := List.countP_congr fun i hi => by rw [updP_ne (by have := List.mem_range.1 hi; omega)]
      rw [this]; simp
    · have := unS_upd (s := s) (N := N) (o := o) (by omega) hs
      rw [updP_ne q]; omega
theorem unS_mono {N : Nat} {s s' : Nat → Bool} (h : ∀ o, s o = true → s' o = true) : unS N s' ≤ unS N s := by
  unfold unS
  refine List.countP_mono_left fun o _ q => ?_
  cases hs : s o
  · rfl
  · rw [h o hs] at q; exact absurd q (by simp)
/-- What a search leaves. -/
structure KRes (nb : Nat → List Nat) (N : Nat) (L : List Nat) (e : Nat) (os : List Nat) (k : KS) (r : Bool) (k' : KS) : Prop where
  mono : ∀ o, k.s o = true → k'.s o = true
  keep : ∀ o, k.s o = true → k'.p o = k.p o
  ok : r = true → ∀ P : Option Nat → Bool, P none = false → cntP N k'.p P = cntP N k.p P + if P (some e) then 1 else 0
  no : r = false → k'.p = k.p ∧ (∀ o ∈ os, k'.s o = true) ∧ ∀ o, k'.s o = true → k.s o = false → ∃ e2, k.p o = some e2 ∧ ∀ o2 ∈ nb e2, k'.s o2 = true
  val : ∀ o x, k'.p o = some x → x ∈ L ∧ o ∈ nb x
def ValP (nb : Nat → List Nat) (L : List Nat) (p : Nat → Option Nat) : Prop := ∀ o x, p o = some x → x ∈ L ∧ o ∈ nb x
section
variable {nb : Nat → List Nat} {N : Nat} {L : List Nat} (hN : ∀ e ∈ L, ∀ o ∈ nb e, o < N)
include hN
theorem joinL_res {f : Nat} (ih : ∀ e k, e ∈ L → ValP nb L k.p → unS N k.s < f → KRes nb N L e (nb e) k (joinN nb f e k).1 (joinN nb f e k).2) {e : Nat} (he : e ∈ L) : ∀ (os : List Nat) (k : KS), (∀ o ∈ os, o ∈ nb e) → ValP nb L k.p → unS N k.s < f + 1 →
    KRes nb N L e os k (joinL (joinN nb f) e os k).1 (joinL (joinN nb f) e os k).2
  | [], k, _, hv, _ => ⟨fun _ h => h, fun _ _ => rfl, fun h => (by cases h), fun _ => ⟨rfl, by simp, fun o h1 h2 => by rw [show (joinL (joinN nb f) e [] k).2 = k from rfl, h2] at h1; cases h1⟩, hv⟩
  | o :: os, k, ho, hv, hu => by
    have hon : o < N := hN e he o (ho o (by simp))
    unfold joinL
    by_cases hs : k.s o = true
    · rw [if_pos hs]
      have r := joinL_res ih he os k (fun q hq => ho q (List.mem_cons_of_mem _ hq)) hv hu
      refine ⟨r.mono, r.keep, r.ok, fun hr => ?_, r.val⟩
      obtain ⟨r1, r2, r3⟩ := r.no hr
      refine ⟨r1, fun q hq => ?_, r3⟩
      rcases List.mem_cons.1 hq with rfl | hq
      · exact r.mono _ hs
      · exact r2 q hq
    · rw [if_neg hs]
      have hs : k.s o = false := by simpa using hs
      have huu := unS_upd hon hs
      have hmo : ∀ q, k.s q = true → updP k.s o true q = true := fun q hq => by
        unfold updP; split
        · rfl
        · exact hq
      cases hp : k.p o with
      | none =>
        simp only
        refine ⟨hmo, fun q hq => ?_, fun _ P hP => ?_, fun h => (by cases h), fun q x hx => ?_⟩
        · show updP k.p o (some e) q = _
          rw [updP_ne fun h => by rw [h, hs] at hq; cases hq]
        · have := cntP_upd (p := k.p) (v := some e) (P := P) hon
          rw [hp, hP] at this
          show cntP N (updP k.p o (some e)) P = _
          simpa using this
        · change updP k.p o (some e) q = some x at hx
          by_cases hq : q = o
          · subst hq
            rw [updP_at] at hx
            cases hx
            exact ⟨he, ho q (by simp)⟩
          · rw [updP_ne hq] at hx; exact hv q x hx
      | some e2 =>
        simp only
        have hv2 := hv o e2 hp
        have r := ih e2 ⟨k.p, updP k.s o true⟩ hv2.1 hv (show unS N (updP k.s o true) < f by omega)
        generalize hg : joinN nb f e2 ⟨k.p, updP k.s o true⟩ = g at r ⊢
        obtain ⟨b, k2⟩ := g
        simp only at r ⊢
        have r1 := r.mono
        have r2 := r.keep
        simp only at r1 r2
        have hk2o : k2.p o = some e2 := by rw [r2 o updP_at]; exact hp
        cases b with
        | true =>
          rw [if_pos rfl]
          refine ⟨fun q hq => r1 q (hmo q hq), fun q hq => ?_, fun _ P hP => ?_, fun h => (by cases h), fun q x hx => ?_⟩
          · show updP k2.p o (some e) q = _
            rw [updP_ne fun h => by rw [h, hs] at hq; cases hq]
            exact r2 q (hmo q hq)
          · have a1 := r.ok rfl P hP
            have a2 := cntP_upd (p := k2.p) (v := some e) (P := P) hon
            rw [hk2o] at a2
            simp only at a1
            show cntP N (updP k2.p o (some e)) P = _
            omega
          · change updP k2.p o (some e) q = some x at hx
            by_cases hq : q = o
            · subst hq
              rw [updP_at] at hx
              cases hx
              exact ⟨he, ho q (by simp)⟩
            · rw [updP_ne hq] at hx; exact r.val q x hx
        | false =>
          rw [if_neg (by simp)]
          obtain ⟨a1, a2, a3⟩ := r.no rfl
          simp only at a1 a2 a3
          have t := joinL_res ih he os k2 (fun q hq => ho q (List.mem_cons_of_mem _ hq)) (by rw [a1]; exact hv) (by have := unS_mono (N := N) r1; omega)
          refine ⟨fun q hq => t.mono q (r1 q (hmo q hq)), fun q hq => by rw [t.keep q (r1 q (hmo q hq)), a1], fun hr P hP => by rw [t.ok hr P hP, a1], fun hr => ?_, t.val⟩
          obtain ⟨b1, b2, b3⟩ := t.no hr
          have hso : k2.s o = true := r1 o updP_at
          refine ⟨by rw [b1, a1], fun q hq => ?_, fun q hq1 hq2 => ?_⟩
          · rcases List.mem_cons.1 hq with rfl | hq
            · exact t.mono _ hso
            · exact b2 q hq
          · by_cases h1 : q = o
            · subst h1
              exact ⟨e2, hp, fun o2 ho2 => t.mono _ (a2 o2 ho2)⟩
            · by_cases h2 : k2.s q = true
              · obtain ⟨x, x1, x2⟩ := a3 q h2 (by rw [updP_ne h1]; exact hq2)
                exact ⟨x, x1, fun o2 ho2 => t.mono _ (x2 o2 ho2)⟩
              · obtain ⟨x, x1, x2⟩ := b3 q hq1 (by simpa using h2)
                rw [a1] at x1
                exact ⟨x, x1, x2⟩
theorem joinN_res : ∀ (f : Nat) (e : Nat) (k : KS), e ∈ L → ValP nb L k.p → unS N k.s < f → KRes nb N L e (nb e) k (joinN nb f e k).1 (joinN nb f e k).2
  | 0, e, k, _, _, h => by omega
  | f + 1, e, k, he, hv, h => joinL_res hN (fun e k a b c => joinN_res f e k a b c) he (nb e) k (fun _ h => h) hv h
end
/-- The search for all of a list. -/
def kuhnStep (nb : Nat → List Nat) (F : Nat) (a : Nat × (Nat → Option Nat)) (e : Nat) : Nat × (Nat → Option Nat) :=
  (a.1 + (if (joinN nb F e ⟨a.2, fun _ => false⟩).1 then 1 else 0), (joinN nb F e ⟨a.2, fun _ => false⟩).2.p)
def kuhn (nb : Nat → List Nat) (F : Nat) (L : List Nat) : Nat × (Nat → Option Nat) := L.foldl (kuhnStep nb F) (0, fun _ => none)
theorem kuhn_snoc {nb : Nat → List Nat} {F : Nat} {L : List Nat} {e : Nat} : kuhn nb F (L ++ [e]) = kuhnStep nb F (kuhn nb F L) e := by
  unfold kuhn; rw [List.foldl_append]; rfl
structure KInv (nb : Nat → List Nat) (N : Nat) (L L1 : List Nat) (a : Nat × (Nat → Option Nat)) : Prop where
  le : a.1 ≤ L1.length
  tot : a.1 = cntP N a.2 (fun v => v.isSome)
  val : ValP nb L a.2
  one : ∀ x, cntP N a.2 (fun v => decide (v = some x)) ≤ L1.count x
  all : a.1 = L1.length → ∀ P : Option Nat → Bool, P none = false → cntP N a.2 P = L1.countP fun x => P (some x)
  can : (∃ q : Nat → Nat, (∀ e ∈ L, q e ∈ nb e) ∧ ∀ e e', e ∈ L → e' ∈ L → q e = q e' → e = e') → a.1 = L1.length
theorem cntP_two {N : Nat} {p : Nat → Option Nat} {x : Nat} (h : cntP N p (fun v => decide (v = some x)) ≤ 1) : ∀ {o o' : Nat}, o < N → o' < N → p o = some x → p o' = some x → o = o' := by
  have key : ∀ {o o' : Nat}, o < o' → o' < N → p o = some x → p o' = some x → False := fun {o o'} h1 h2 h3 h4 => by
    have hs : [o, o'].Sublist (List.range N) := by
      have e : List.range N = List.range o' ++ (o' :: List.range' (o' + 1) (N - o' - 1)) := by
        rw [List.range_eq_range', List.range_eq_range', ← List.range'_succ, Nat.sub_add_cancel (by omega)]
        have := List.range'_append (s := 0) (m := o') (n := N - o') (step := 1)
        rw [Nat.one_mul, Nat.zero_add, show o' + (N - o') = N by omega] at this
        exact this.symm
      rw [e]
      exact List.Sublist.append (l₁ := [o]) (List.singleton_sublist.2 (List.mem_range.2 h1)) (List.Sublist.cons_cons _ (List.nil_sublist _))
    have := hs.countP_le (p := fun o => decide (p o = some x))
    simp [List.countP_cons, h3, h4] at this
    unfold cntP at h
    simp only [decide_eq_true_eq] at h
    omega
  intro o o' h1 h2 h3 h4
  rcases Nat.lt_trichotomy o o' with e | e | e
  · exact (key e h2 h3 h4).elim
  · exact e
  · exact (key e h1 h4 h3).elim
theorem kuhn_inv {nb : Nat → List Nat} {N : Nat} {L : List Nat} (hN : ∀ e ∈ L, ∀ o ∈ nb e, o < N) (hnd : L.Nodup) : ∀ (L2 L1 : List Nat), L = L1 ++ L2 → KInv nb N L L1 (kuhn nb (N + 1) L1) → KInv nb N L L (kuhn nb (N + 1) L)
  | [], L1, h, hk => by rw [List.append_nil] at h; subst h; exact hk
  | e :: L2, L1, h, hk => by
    refine kuhn_inv hN hnd L2 (L1 ++ [e]) (by rw [h]; simp) ?_
    rw [kuhn_snoc]
    generalize kuhn nb (N + 1) L1 = a at hk
    obtain ⟨n, p⟩ := a
    have he : e ∈ L := by rw [h]; simp
    have heL : e ∉ L1 := by
      rw [h, List.nodup_append] at hnd
      exact fun hm => hnd.2.2 e hm e (by simp) rfl
    obtain ⟨a1, a2, a3, a4, a5, a6⟩ := hk
    simp only at a1 a2 a3 a4 a5 a6
    have hu : unS N (fun _ => false) < N + 1 := by
      have := List.countP_le_length (p := fun o : Nat => !(fun _ => false) o) (l := List.range N)
      rw [List.length_range] at this
      unfold unS; omega
    have r := joinN_res hN (N + 1) e ⟨p, fun _ => false⟩ he a3 hu
    unfold kuhnStep
    simp only
    generalize joinN nb (N + 1) e ⟨p, fun _ => false⟩ = g at r ⊢
    obtain ⟨b, k⟩ := g
    simp only at r ⊢
    have hcount : ∀ x, (L1 ++ [e]).count x = L1.count x + if e = x then 1 else 0 := fun x => by
      rw [List.count_append]
      congr 1
      by_cases q : e = x
      · subst q; simp
      · rw [if_neg q, List.count_eq_zero]; simp; exact fun w => q w.symm
    cases b with
    | true =>
      rw [if_pos rfl]
      have ok := r.ok rfl
      simp only at ok
      refine ⟨by simp; omega, by rw [ok _ rfl]; simp; exact a2, r.val, fun x => ?_, fun hl P hP => ?_, fun hq => ?_⟩
      · rw [ok _ (by simp), hcount]
        have := a4 x
        by_cases q : e = x
        · subst q; simp; simpa using this
        · simpa [q] using this
      · rw [List.length_append, List.length_singleton] at hl
        rw [ok P hP, a5 (by omega) P hP, List.countP_append]
        congr 1
        simp [List.countP_cons]
      · have := a6 hq
        rw [List.length_append, List.length_singleton]
        show n + 1 = _
        omega
    | false =>
      rw [if_neg (by simp)]
      obtain ⟨n1, n2, n3⟩ := r.no rfl
      simp only at n1 n2 n3
      refine ⟨by simp; omega, by simp only [n1]; exact a2, r.val, fun x => ?_, fun hl => ?_, fun ⟨q, q1, q2⟩ => ?_⟩
      · simp only [n1]
        have := a4 x
        rw [hcount]; omega
      · rw [List.length_append, List.length_singleton] at hl
        simp only at hl
        omega
      · exfalso
        have hp1 : ∀ x, cntP N p (fun v => decide (v = some x)) ≤ 1 := fun x => by
          have h1 := a4 x
          have h2 : L1.count x ≤ 1 := by
            have : L1.Nodup := by rw [h, List.nodup_append] at hnd; exact hnd.1
            exact List.nodup_iff_count.1 this x
          omega
        have hp0 : cntP N p (fun v => decide (v = some e)) = 0 := by
          have h1 := a4 e
          rw [List.count_eq_zero.2 heL] at h1; omega
        let A := (List.range N).filter fun o => k.s o
        have hA : ∀ o ∈ A, o < N ∧ k.s o = true := fun o ho => by
          have := List.mem_filter.1 ho
          exact ⟨List.mem_range.1 this.1, this.2⟩
        have hAn : A.Nodup := List.nodup_range.filter _
        have hsome : ∀ o ∈ A, ∃ x, p o = some x ∧ ∀ o2 ∈ nb x, k.s o2 = true := fun o ho => n3 o (hA o ho).2 trivial
        let B := A.map fun o => (p o).getD 0
        have hBn : (e :: B).Nodup := by
          rw [List.nodup_cons]
          constructor
          · intro hm
            obtain ⟨o, ho, hoe⟩ := List.mem_map.1 hm
            obtain ⟨x, x1, _⟩ := hsome o ho
            rw [x1] at hoe
            simp at hoe
            subst hoe
            unfold cntP at hp0
            rw [List.countP_eq_zero] at hp0
            exact hp0 o (List.mem_range.2 (hA o ho).1) (by simp [x1])
          · refine List.pairwise_map.2 (List.Pairwise.imp_of_mem ?_ hAn)
            intro o o' ho ho' hne heq
            obtain ⟨x, x1, _⟩ := hsome o ho
            obtain ⟨x', x1', _⟩ := hsome o' ho'
            rw [x1, x1'] at heq
            simp at heq
            subst heq
            exact hne (cntP_two (hp1 x) (hA o ho).1 (hA o' ho').1 x1 x1')
        have hmem : ∀ x ∈ e :: B, x ∈ L ∧ ∀ o ∈ nb x, k.s o = true := fun x hx => by
          rcases List.mem_cons.1 hx with rfl | hx
          · exact ⟨he, n2⟩
          · obtain ⟨o, ho, hox⟩ := List.mem_map.1 hx
            obtain ⟨y, y1, y2⟩ := hsome o ho
            rw [y1] at hox
            simp at hox
            subst hox
            exact ⟨(a3 o y y1).1, y2⟩
        have hQ : ((e :: B).map q).Nodup := List.pairwise_map.2 (List.Pairwise.imp_of_mem (fun {x x'} hx hx' hne heq => hne (q2 x x' (hmem x hx).1 (hmem x' hx').1 heq)) hBn)
        have hsub : ∀ o ∈ (e :: B).map q, o ∈ A := fun o ho => by
          obtain ⟨x, hx, rfl⟩ := List.mem_map.1 ho
          have := hmem x hx
          exact List.mem_filter.2 ⟨List.mem_range.2 (hN x this.1 _ (q1 x this.1)), this.2 _ (q1 x this.1)⟩
        have hle : ((e :: B).map q).length ≤ A.length := by
          exact nodup_subN hQ hsub
        simp [B] at hle
        omega
theorem kuhn_all {nb : Nat → List Nat} {N : Nat} {L : List Nat} (hN : ∀ e ∈ L, ∀ o ∈ nb e, o < N) (hnd : L.Nodup) : KInv nb N L L (kuhn nb (N + 1) L) :=
  kuhn_inv hN hnd L [] rfl ⟨by simp [kuhn], by simp [kuhn, cntP], fun o x h => by simp [kuhn] at h, fun x => by simp [kuhn, cntP], fun _ P hP => by simp [kuhn, cntP, hP], fun _ => by simp [kuhn]⟩
end Go.Ab

/- Plain words: pairs of neighbors among free cells: the most of them, and all of them. -/
namespace Go.Ab
open Go
set_option linter.unusedSimpArgs false
set_option linter.unusedVariables false

section
variable (x y z : Int) (cs : List Cell)
def freeL : List Cell := pick x y z (freeP cs)
def evB (c : Cell) : Bool := decide ((c.a + c.b + c.c).tmod 2 = 0)
def ixN (c : Cell) : Nat := (idx y z c).toNat
def evL : List Cell := (freeL x y z cs).filter evB
def nbF (c : Cell) : List Cell := (freeL x y z cs).filter fun d => decide (apart d c = 1)
def nbN (e : Nat) : List Nat := (nbF x y z cs (cellAt y z e)).map (ixN y z)
def evN : List Nat := (evL x y z cs).map (ixN y z)
def kuhnF : Nat × (Nat → Option Nat) := kuhn (nbN x y z cs) (vol x y z + 1) (evN x y z cs)
end
theorem par_count : ∀ {l : List Cell}, (∀ c ∈ l, c.inBox 4 4 4) → ∃ k : Nat, k + (l.filter evB).length = l.length ∧ parL l = (l.filter evB).length - (k : Int) ∧ k = (l.filter fun c => !evB c).length
  | [], _ => ⟨0, by simp [parL]⟩
  | c :: l, h => by
    obtain ⟨k, k1, k2, k3⟩ := par_count (l := l) fun d hd => h d (List.mem_cons_of_mem _ hd)
    have hp := par1_le (h c (by simp))
    have hu : par1 c = 1 - 2 * (c.a + c.b + c.c).tmod 2 := rfl
    by_cases e : (c.a + c.b + c.c).tmod 2 = 0
    · have e1 : evB c = true := decide_eq_true e
      refine ⟨k, by rw [List.filter_cons_of_pos e1]; simp only [List.length_cons]; omega, by rw [List.filter_cons_of_pos e1]; simp only [parL, List.length_cons]; omega, by rw [List.filter_cons_of_neg (by simp [e1])]; exact k3⟩
    · have e1 : evB c = false := decide_eq_false e
      refine ⟨k + 1, by rw [List.filter_cons_of_neg (by simp [e1])]; simp only [List.length_cons]; omega, by rw [List.filter_cons_of_neg (by simp [e1])]; simp only [parL]; omega, by rw [List.filter_cons_of_pos (by simp [e1])]; simp only [List.length_cons]; omega⟩
section
variable {x y z : Int} {cs : List Cell} (hS : Sides x y z)
include hS
theorem ix_lt {c : Cell} (hc : c.inBox x y z) : ixN y z c < vol x y z ∧ cellAt y z (ixN y z c : Nat) = c := by
  obtain ⟨h1, h2, h3⟩ := idx_in hS hc
  have hv := vol_cast hS
  unfold ixN
  rw [Int.toNat_of_nonneg h1]
  exact ⟨by omega, h3⟩
theorem ix_inj {c d : Cell} (hc : c.inBox x y z) (hd : d.inBox x y z) (h : ixN y z c = ixN y z d) : c = d := by rw [← (ix_lt hS hc).2, h, (ix_lt hS hd).2]
theorem free_in {c : Cell} (h : c ∈ freeL x y z cs) : c.inBox x y z := ((mem_pick hS).1 h).1
theorem free_nodup : (freeL x y z cs).Nodup := (pick_ok hS _).nodup
theorem mem_ev {c : Cell} : c ∈ evL x y z cs ↔ c ∈ freeL x y z cs ∧ evB c = true := List.mem_filter
theorem mem_nbN {c : Cell} (hc : c.inBox x y z) {o : Nat} : o ∈ nbN x y z cs (ixN y z c) ↔ ∃ d ∈ freeL x y z cs, apart d c = 1 ∧ o = ixN y z d := by
  unfold nbN nbF
  rw [(ix_lt hS hc).2]
  simp only [List.mem_map, List.mem_filter, decide_eq_true_eq]
  constructor
  · rintro ⟨d, ⟨h1, h2⟩, rfl⟩; exact ⟨d, h1, h2, rfl⟩
  · rintro ⟨d, h1, h2, rfl⟩; exact ⟨d, ⟨h1, h2⟩, rfl⟩
theorem mem_evN {e : Nat} : e ∈ evN x y z cs ↔ ∃ c ∈ freeL x y z cs, evB c = true ∧ e = ixN y z c := by
  unfold evN
  simp only [List.mem_map, mem_ev hS]
  constructor
  · rintro ⟨d, ⟨h1, h2⟩, rfl⟩; exact ⟨d, h1, h2, rfl⟩
  · rintro ⟨d, h1, h2, rfl⟩; exact ⟨d, ⟨h1, h2⟩, rfl⟩
theorem nb_parity {c d : Cell} (hc : c.inBox x y z) (hd : d.inBox x y z) (h : apart d c = 1) : evB d = !evB c := by
  obtain ⟨⟨_, _⟩, ⟨_, _⟩, ⟨_, _⟩⟩ := hc
  obtain ⟨⟨_, _⟩, ⟨_, _⟩, ⟨_, _⟩⟩ := hd
  unfold apart at h
  unfold evB
  rw [Int.tmod_eq_emod_of_nonneg (by omega), Int.tmod_eq_emod_of_nonneg (by omega), Bool.eq_iff_iff, Bool.not_eq_true', decide_eq_true_eq, decide_eq_false_iff_not]
  omega
theorem kuhnF_inv : KInv (nbN x y z cs) (vol x y z) (evN x y z cs) (evN x y z cs) (kuhnF x y z cs) := by
  refine kuhn_all (fun e he o ho => ?_) ?_
  · obtain ⟨c, h1, h2, rfl⟩ := (mem_evN hS).1 he
    obtain ⟨d, h3, h4, rfl⟩ := (mem_nbN hS (free_in hS h1)).1 ho
    exact (ix_lt hS (free_in hS h3)).1
  · exact List.pairwise_map.2 (List.Pairwise.imp_of_mem (fun {c d} hc hd hne he => hne (ix_inj hS (free_in hS ((mem_ev hS).1 hc).1) (free_in hS ((mem_ev hS).1 hd).1) he)) ((free_nodup hS).filter _))
/-- Places that have a partner are places of odd cells. -/
theorem taken_sub : ∀ o, (kuhnF x y z cs).2 o ≠ none → ∃ c d, c ∈ freeL x y z cs ∧ d ∈ freeL x y z cs ∧ evB c = true ∧ evB d = false ∧ apart d c = 1 ∧ o = ixN y z d ∧ (kuhnF x y z cs).2 o = some (ixN y z c) := fun o ho => by
  obtain ⟨e, he⟩ : ∃ e, (kuhnF x y z cs).2 o = some e := by
    cases h : (kuhnF x y z cs).2 o with
    | none => exact absurd h ho
    | some e => exact ⟨e, rfl⟩
  obtain ⟨h1, h2⟩ := (kuhnF_inv hS).val o e he
  obtain ⟨c, c1, c2, rfl⟩ := (mem_evN hS).1 h1
  obtain ⟨d, d1, d2, rfl⟩ := (mem_nbN hS (free_in hS c1)).1 h2
  exact ⟨c, d, c1, d1, c2, by rw [nb_parity hS (free_in hS c1) (free_in hS d1) d2, c2]; rfl, d2, rfl, he⟩
theorem odd_sub : ∀ o ∈ (List.range (vol x y z)).filter (fun o => ((kuhnF x y z cs).2 o).isSome), o ∈ ((freeL x y z cs).filter fun c => !evB c).map (ixN y z) := fun o ho => by
  have h := List.mem_filter.1 ho
  obtain ⟨c, d, c1, d1, c2, d2, _, rfl, _⟩ := taken_sub hS o (by intro e; rw [e] at h; simp at h)
  exact List.mem_map.2 ⟨d, List.mem_filter.2 ⟨d1, by simp [d2]⟩, rfl⟩
theorem most_odd : (kuhnF x y z cs).1 ≤ ((freeL x y z cs).filter fun c => !evB c).length := by
  have h1 := nodup_subN (List.nodup_range.filter _) (odd_sub (cs := cs) hS)
  rw [List.length_map, ← List.countP_eq_length_filter] at h1
  rw [(kuhnF_inv hS).tot]
  exact h1
theorem most_even : (kuhnF x y z cs).1 ≤ (evL x y z cs).length := by
  have := (kuhnF_inv (cs := cs) hS).le
  rwa [evN, List.length_map] at this
/-- No more pairs than the parity allows. -/
theorem most_par : 2 * ((kuhnF x y z cs).1 : Int) ≤ (freeL x y z cs).length - (if parL (freeL x y z cs) < 0 then 0 - parL (freeL x y z cs) else parL (freeL x y z cs)) := by
  obtain ⟨k, k1, k2, k3⟩ := par_count (l := freeL x y z cs) fun c hc => box4 hS (free_in hS hc)
  have h1 := most_odd (cs := cs) hS
  have h2 := most_even (cs := cs) hS
  unfold evL at h2
  split <;> omega
theorem paired_even {q : Cell → Cell} (hq : Paired (freeL x y z cs) q) : (kuhnF x y z cs).1 = (evL x y z cs).length ∧ 2 * (evL x y z cs).length = (freeL x y z cs).length := by
  have hin : ∀ c ∈ freeL x y z cs, c.inBox x y z := fun c hc => free_in hS hc
  constructor
  · have := (kuhnF_inv (cs := cs) hS).can ⟨fun e => ixN y z (q (cellAt y z e)), fun e he => ?_, fun e e' he he' heq => ?_⟩
    · rwa [evN, List.length_map] at this
    · obtain ⟨c, c1, c2, rfl⟩ := (mem_evN hS).1 he
      obtain ⟨h1, h2, h3⟩ := hq c c1
      rw [mem_nbN hS (hin c c1)]
      simp only [(ix_lt hS (hin c c1)).2]
      exact ⟨_, h1, h3, rfl⟩
    · obtain ⟨c, c1, c2, rfl⟩ := (mem_evN hS).1 he
      obtain ⟨d, d1, d2, rfl⟩ := (mem_evN hS).1 he'
      simp only [(ix_lt hS (hin c c1)).2, (ix_lt hS (hin d d1)).2] at heq
      obtain ⟨h1, h2, h3⟩ := hq c c1
      obtain ⟨k1, k2, k3⟩ := hq d d1
      have := ix_inj hS (hin _ h1) (hin _ k1) heq
      rw [← h2, this, k2]
  · obtain ⟨k, k1, k2, k3⟩ := par_count (l := freeL x y z cs) fun c hc => box4 hS (free_in hS hc)
    have hinj : ∀ c ∈ freeL x y z cs, ∀ d ∈ freeL x y z cs, q c = q d → c = d := fun c hc d hd h => by
      rw [← (hq c hc).2.1, h, (hq d hd).2.1]
    have hflip : ∀ c ∈ freeL x y z cs, evB (q c) = !evB c := fun c hc => nb_parity hS (hin c hc) (hin _ (hq c hc).1) (hq c hc).2.2
    have h1 : ((evL x y z cs).map q).length ≤ ((freeL x y z cs).filter fun c => !evB c).length := by
      refine nodup_sub (List.pairwise_map.2 (List.Pairwise.imp_of_mem (fun {c d} hc hd hne he => hne (hinj c ((mem_ev hS).1 hc).1 d ((mem_ev hS).1 hd).1 he)) ((free_nodup hS).filter _))) fun d hd => ?_
      obtain ⟨c, hc, rfl⟩ := List.mem_map.1 hd
      obtain ⟨c1, c2⟩ := (mem_ev hS).1 hc
      exact List.mem_filter.2 ⟨(hq c c1).1, by simp [hflip c c1, c2]⟩
    have h2 : (((freeL x y z cs).filter fun c => !evB c).map q).length ≤ (evL x y z cs).length := by
      refine nodup_sub (List.pairwise_map.2 (List.Pairwise.imp_of_mem (fun {c d} hc hd hne he => hne (hinj c (List.mem_filter.1 hc).1 d (List.mem_filter.1 hd).1 he)) ((free_nodup hS).filter _))) fun d hd => ?_
      obtain ⟨c, hc, rfl⟩ := List.mem_map.1 hd
      obtain ⟨c1, c2⟩ := List.mem_filter.1 hc
      exact (mem_ev hS).2 ⟨(hq c c1).1, by rw [hflip c c1]; exact c2⟩
    rw [List.length_map] at h1 h2
    change k + (evL x y z cs).length = _ at k1
    omega
theorem even_paired (h : 2 * (kuhnF x y z cs).1 = (freeL x y z cs).length) : ∃ q, Paired (freeL x y z cs) q := by
  classical
  have hin : ∀ c ∈ freeL x y z cs, c.inBox x y z := fun c hc => free_in hS hc
  obtain ⟨k, k1, k2, k3⟩ := par_count (l := freeL x y z cs) fun c hc => box4 hS (free_in hS hc)
  change k + (evL x y z cs).length = _ at k1
  have m1 := most_odd (cs := cs) hS
  have m2 := most_even (cs := cs) hS
  have hI := kuhnF_inv (cs := cs) hS
  have hall := hI.all (by rw [evN, List.length_map]; omega)
  have hnd : (evN x y z cs).Nodup := List.pairwise_map.2 (List.Pairwise.imp_of_mem (fun {c d} hc hd hne he => hne (ix_inj hS (hin _ ((mem_ev hS).1 hc).1) (hin _ ((mem_ev hS).1 hd).1) he)) ((free_nodup hS).filter _))
  have hone : ∀ {o o' a : Nat}, o < vol x y z → o' < vol x y z → (kuhnF x y z cs).2 o = some a → (kuhnF x y z cs).2 o' = some a → o = o' := fun {o o' a} h1 h2 h3 h4 =>
    cntP_two (Nat.le_trans (hI.one a) (List.nodup_iff_count.1 hnd a)) h1 h2 h3 h4
  have hev : ∀ c ∈ freeL x y z cs, evB c = true → ∃ d, d ∈ freeL x y z cs ∧ evB d = false ∧ apart d c = 1 ∧ (kuhnF x y z cs).2 (ixN y z d) = some (ixN y z c) := fun c hc he => by
    have h1 := hall (fun v => decide (v = some (ixN y z c))) (by simp)
    have h2 : 0 < (evN x y z cs).countP fun e => decide (some e = some (ixN y z c)) := List.countP_pos_iff.2 ⟨ixN y z c, (mem_evN hS).2 ⟨c, hc, he, rfl⟩, by simp⟩
    rw [← h1] at h2
    unfold cntP at h2
    obtain ⟨o, ho, hoe⟩ := List.countP_pos_iff.1 h2
    simp only [decide_eq_true_eq] at hoe
    obtain ⟨c', d, c1, d1, e1, e2, e3, rfl, e4⟩ := taken_sub hS o (by rw [hoe]; simp)
    rw [hoe] at e4
    have := ix_inj hS (hin c hc) (hin c' c1) (by simpa using e4)
    subst this
    exact ⟨d, d1, e2, e3, hoe⟩
  have hod : ∀ d ∈ freeL x y z cs, evB d = false → (kuhnF x y z cs).2 (ixN y z d) ≠ none := fun d hd he hno => by
    let A := (List.range (vol x y z)).filter (fun o => ((kuhnF x y z cs).2 o).isSome)
    have hA : A.length = (kuhnF x y z cs).1 := by
      rw [hI.tot]; unfold cntP; rw [List.countP_eq_length_filter]
    have h1 : (ixN y z d :: A).Nodup := by
      rw [List.nodup_cons]
      refine ⟨fun hm => ?_, List.nodup_range.filter _⟩
      have := (List.mem_filter.1 hm).2
      rw [hno] at this
      simp at this
    have h2 := nodup_subN (m := ((freeL x y z cs).filter fun c => !evB c).map (ixN y z)) h1 fun o ho => by
      rcases List.mem_cons.1 ho with rfl | ho
      · exact List.mem_map.2 ⟨d, List.mem_filter.2 ⟨hd, by simp [he]⟩, rfl⟩
      · exact odd_sub hS o ho
    rw [List.length_cons, hA, List.length_map] at h2
    omega
  refine ⟨fun c => if h : c ∈ freeL x y z cs ∧ evB c = true then (hev c h.1 h.2).choose else cellAt y z (((kuhnF x y z cs).2 (ixN y z c)).getD 0 : Nat), fun c hc => ?_⟩
  dsimp only
  by_cases he : evB c = true
  · have hd := (hev c hc he).choose_spec
    rw [dif_pos ⟨hc, he⟩]
    generalize (hev c hc he).choose = d at hd
    obtain ⟨d1, d2, d3, d4⟩ := hd
    refine ⟨d1, ?_, d3⟩
    rw [dif_neg (by rw [d2]; simp), d4]
    exact (ix_lt hS (hin c hc)).2
  · have he' : evB c = false := by simpa using he
    rw [dif_neg fun w => he w.2]
    obtain ⟨c', d, c1, d1, e1, e2, e3, e4, e5⟩ := taken_sub hS _ (hod c hc he')
    have := ix_inj hS (hin c hc) (hin d d1) e4
    subst this
    rw [e5]
    show cellAt y z (ixN y z c' : Nat) ∈ _ ∧ _
    simp only [Option.getD_some, (ix_lt hS (hin c' c1)).2]
    refine ⟨c1, ?_, by rw [apart_comm]; exact e3⟩
    rw [dif_pos ⟨c1, e1⟩]
    have hd := (hev c' c1 e1).choose_spec
    generalize (hev c' c1 e1).choose = d at hd
    obtain ⟨q1, q2, q3, q4⟩ := hd
    exact ix_inj hS (hin d q1) (hin c hc) (hone (ix_lt hS (hin d q1)).1 (ix_lt hS (hin c hc)).1 q4 e5)
/-- There is a way to put all into pairs exactly if the most pairs are half of them. -/
theorem dom_most {f : Nat} (hf : (freeL x y z cs).length ≤ 2 * f) : 0 < domL f (freeL x y z cs) ↔ 2 * (kuhnF x y z cs).1 = (freeL x y z cs).length := by
  constructor
  · intro h
    obtain ⟨q, hq⟩ := dom_pos (free_nodup hS) h
    have := paired_even hS hq
    omega
  · intro h
    exact pos_dom (free_nodup hS) hf (even_paired hS h)
theorem free_mirror {d : Int} (hH : HeapOK x y z cs) : (freeL x y z (mirD x y z d cs)).Perm ((freeL x y z cs).map (mirDC x y z d)) := by
  have hi : ∀ a b : Cell, mirDC x y z d a = mirDC x y z d b → a = b := fun a b h => by rw [← mirDC_twice (x := x) (y := y) (z := z) (d := d) (c := a), h, mirDC_twice]
  refine (List.perm_ext_iff_of_nodup (free_nodup hS) ?_).2 fun c => ?_
  · exact List.pairwise_map.2 ((free_nodup (cs := cs) hS).imp fun {a b} hne he => hne (hi a b he))
  · unfold freeL freeP
    rw [mem_pick hS, List.mem_map]
    have key : ∀ e : Cell, e.inBox x y z → (e ∈ mirD x y z d cs ↔ mirDC x y z d e ∈ cs) := fun e he => by
      unfold mirD
      rw [mem_pick hS, decide_eq_true_eq, List.mem_map]
      constructor
      · rintro ⟨_, g, hg, rfl⟩; rwa [mirDC_twice]
      · intro h; exact ⟨he, _, h, mirDC_twice⟩
    constructor
    · rintro ⟨h1, h2⟩
      refine ⟨mirDC x y z d c, (mem_pick hS).2 ⟨mirDC_in h1, ?_⟩, mirDC_twice⟩
      simpa [key c h1] using h2
    · rintro ⟨e, he, rfl⟩
      obtain ⟨h1, h2⟩ := (mem_pick hS).1 he
      refine ⟨mirDC_in h1, ?_⟩
      have := key _ (mirDC_in (d := d) h1)
      rw [mirDC_twice] at this
      simpa [this] using h2
/-- A mirror image has as many ways. -/
theorem dom_mirror {f : Nat} {d : Int} (hH : HeapOK x y z cs) : domL f (freeL x y z (mirD x y z d cs)) = domL f (freeL x y z cs) := by
  have hi : ∀ a b : Cell, mirDC x y z d a = mirDC x y z d b → a = b := fun a b h => by rw [← mirDC_twice (x := x) (y := y) (z := z) (d := d) (c := a), h, mirDC_twice]
  rw [← dom_map (m := mirDC x y z d) hi (fun a b => by unfold apart mirDC; simp only; split <;> split <;> split <;> omega) (l := freeL x y z cs)]
  exact dom_perm (free_mirror hS hH) (free_nodup hS)
end
end Go.Ab

/- The abstract code of some functions (written by a program of mine from the translation, by way of prepF). -/
namespace Go.Ab.C
open Go.Ab
end Go.Ab.C

/- That the program has this code. -/
namespace Go.Ab.K
open Go Go.Ab
end Go.Ab.K

/- Plain words: rows and tables of numbers 0 and 1 with given sums; cell by cell and row by row. -/
namespace Go.Ab
open Go
set_option linter.unusedSimpArgs false
set_option linter.unusedVariables false

/-- All rows of n numbers 0 and 1 with a sum, in order. -/
def rowsL : Nat → Int → List (List Int)
  | 0, s => if s = 0 then [[]] else []
  | n + 1, s => (if 0 ≤ s then (rowsL n s).map (0 :: ·) else []) ++ if 1 ≤ s then (rowsL n (s - 1)).map (1 :: ·) else []
def okR (B row : List Int) : Bool := (List.zipWith (fun b a => b - a) B row).all fun v => decide (0 ≤ v)
def subR (B row : List Int) : List Int := List.zipWith (fun b a => b - a) B row
/-- All tables with some sums, in order. -/
def tabsL : List Int → List Int → List (List (List Int))
  | [], cols => if cols.all (fun v => decide (v = 0)) then [[]] else []
  | r :: rs, cols => (rowsL cols.length r).flatMap fun row => if okR cols row then (tabsL rs (subR cols row)).map (row :: ·) else []
/-- The same cell by cell: k cells are left in a row that lacks s. -/
def fillK (n : Nat) (rs : List Int) (k : Nat) (s : Int) (left : List Int) : List (List Int) :=
  match rs, k with
  | rs, k + 1 => (fillK n rs k s left).map (0 :: ·) ++ if s = 0 ∨ left.getD (n - (k + 1)) 0 = 0 then [] else (fillK n rs k (s - 1) (left.set (n - (k + 1)) (left.getD (n - (k + 1)) 0 - 1))).map (1 :: ·)
  | [], 0 => if 0 < s then [] else if left.all (fun v => decide (v ≤ 0)) then [[]] else []
  | r :: rs, 0 => if 0 < s then [] else fillK n rs n r left
termination_by (rs.length, k)
end Go.Ab

/- The abstract code of some functions (written by a program of mine from the translation, by way of prepF). -/
namespace Go.Ab.C
open Go.Ab
end Go.Ab.C

/- That the program has this code. -/
namespace Go.Ab.K
open Go Go.Ab
end Go.Ab.K

/- The abstract code of some functions (written by a program of mine from the translation, by way of prepF). -/
namespace Go.Ab.C
open Go.Ab
end Go.Ab.C

/- That the program has this code. -/
namespace Go.Ab.K
open Go Go.Ab
end Go.Ab.K

/- The abstract code of some functions (written by a program of mine from the translation, by way of prepF). -/
namespace Go.Ab.C
open Go.Ab
end Go.Ab.C

/- That the program has this code. -/
namespace Go.Ab.K
open Go Go.Ab
end Go.Ab.K

/- Contracts: a piece put into a list of numbers, the reference's side. -/
namespace Go.Ab
open Go
set_option linter.unusedSimpArgs false
set_option linter.unusedVariables false
set_option maxRecDepth 20000

def PutRes (M : Mem) (ok : Prop) [Decidable ok] (r : List Int) (v : LV) (N : Mem) : Prop := ∃ t, v = .tup [.ref t 0 r.length, .B (decide ok)] ∧ Live N t (.row (intL r) true 1) ∧ M.length ≤ t ∧ Pre M N
section
variable {x y z : Int} {t o u q w r : Nat} {cs l : List Cell} {p : Cell} {xs : List Int} {n : Int} {M : Mem} (h : Tri M t o cs) (hH : HeapOK x y z cs) (hl : Tri M u q l) (hP : PieceOK l) (hp : Small p) (hX : Ints M w r xs) (hxn : xs.length = vol x y z)
include h hH hl hP hp hX hxn
end
end Go.Ab

/- Plain: all packings, in the order of the search. -/
namespace Go.Ab
open Go
set_option linter.unusedSimpArgs false
set_option linter.unusedVariables false

/-- The first hole of a list. -/
def hole (xs : List Int) : Nat := (xs.takeWhile fun v => v != -2).length
def placeAt (y z : Int) (L : List (List Cell)) (i k : Nat) : Cell := shift (negC ((L.getD i []).getD 0 default)) (cellAt y z k)
noncomputable def nextL (x y z : Int) (cs : List Cell) (L : List (List Cell)) (xs : List Int) (i : Nat) : List Int := putR x y z cs (L.getD i []) (placeAt y z L i (hole xs)) xs i
noncomputable def brP (x y z : Int) (cs : List Cell) (L : List (List Cell)) (g : List Int → List (List Int)) (xs : List Int) (i : Nat) : List (List Int) :=
  if (i : Int) ∈ xs then [] else if PutOK x y z cs (L.getD i []) (placeAt y z L i (hole xs)) xs then g (nextL x y z cs L xs i) else []
def leafP (n : Nat) (xs : List Int) : List (List Int) := if ∀ i : Nat, i < n → (i : Int) ∈ xs then [xs] else []
noncomputable def packs (x y z : Int) (cs : List Cell) (L : List (List Cell)) : Nat → List Int → List (List Int)
  | 0, xs => if (-2 : Int) ∈ xs then (List.range L.length).flatMap (brP x y z cs L (fun _ => []) xs) else leafP L.length xs
  | f + 1, xs => if (-2 : Int) ∈ xs then (List.range L.length).flatMap (brP x y z cs L (packs x y z cs L f) xs) else leafP L.length xs
noncomputable def packsB (x y z : Int) (cs : List Cell) (L : List (List Cell)) : Nat → List Int → List (List Int)
  | 0 => fun _ => []
  | f + 1 => packs x y z cs L f
/-- The pieces that a list lacks are among these. -/
def Lacks (n : Nat) (xs : List Int) (S : List Nat) : Prop := ∀ i, i < n → (i : Int) ∉ xs → i ∈ S
section
variable {x y z : Int} {cs : List Cell} {L : List (List Cell)} {xs : List Int} {i : Nat} {S : List Nat} {p : Cell} {l : List Cell} {n : Int}
end
/-- What a search makes of what was found. -/
def selP (once : Bool) (P : List (List Int)) : List (List Int) := if once then P.take 1 else P
def fndP (F : List Int × Nat) (R : List (List Int)) : List Int × Nat := (if F.2 = 0 then R.headD F.1 else F.1, F.2 + R.length)
end Go.Ab

/- Contracts: the reference's search for packings. -/
namespace Go.Ab
open Go
set_option linter.unusedSimpArgs false
set_option linter.unusedVariables false
set_option maxRecDepth 20000

def FndRes (M : Mem) (q t1 : Nat) (P0 : List Int × Nat) (v : LV) (N : Mem) : Prop := ∃ t, v = .agg [.ref t 0 P0.1.length, .I P0.2] ∧ Live N t (.row (intL P0.1) true 1) ∧ (t = t1 ∨ t = q ∨ M.length ≤ t) ∧ Pre M N
section
variable {x y z : Int} {t o u : Nat} {cs : List Cell} {L : List (List Cell)} {once : Bool} (hA : AskOK x y z cs L)
include hA
end
end Go.Ab

/- Contracts: the reference's packings. -/
namespace Go.Ab
open Go
set_option linter.unusedSimpArgs false
set_option linter.unusedVariables false
set_option maxRecDepth 20000

/-- The cells of the pieces that a list lacks. -/
noncomputable def remTo (L : List (List Cell)) (xs : List Int) : Nat → Nat
  | 0 => 0
  | m + 1 => remTo L xs m + if (m : Int) ∈ xs then 0 else (L.getD m []).length
section
variable {x y z : Int} {cs : List Cell} {L : List (List Cell)} (hA : AskOK x y z cs L)
include hA
noncomputable def allPk (x y z : Int) (cs : List Cell) (L : List (List Cell)) : List (List Int) := packs x y z cs L 8 (startL x y z cs)
def FindRes (M : Mem) (P0 : List Int × Nat) (v : LV) (N : Mem) : Prop := ∃ t, v = .agg [.ref t 0 P0.1.length, .I P0.2] ∧ Live N t (.row (intL P0.1) true 1) ∧ M.length ≤ t ∧ Pre M N
end
noncomputable def countPk (x y z : Int) (cs : List Cell) (L : List (List Cell)) : Int × Bool := if AskOK x y z cs L then (((allPk x y z cs L).length : Nat), true) else (0, false)
end Go.Ab

/- Plain: what the program keeps while it packs. -/
namespace Go.Ab
open Go
set_option linter.unusedSimpArgs false
set_option linter.unusedVariables false

def freeX (y z : Int) (xs : List Int) (c : Cell) : Bool := decide (atL y z xs c = -2)
/-- The program's list has the numbers that are set. -/
def Agr (xs ys : List Int) : Prop := ys.length = xs.length ∧ ∀ k, k < xs.length → xs.getD k 0 ≠ -2 → ys.getD k 0 = xs.getD k 0
def UsedOK (n : Nat) (xs : List Int) (used : Nat) : Prop := used < 2 ^ n ∧ ∀ i, i < n → (used.testBit i = true ↔ (i : Int) ∈ xs)
/-- The first k places overwritten. -/
def overL (y z : Int) (ds : List Cell) (i : Int) (ys : List Int) : Nat → List Int
  | 0 => ys
  | k + 1 => if cellAt y z k ∈ ds then (overL y z ds i ys k).set k i else overL y z ds i ys k
section
variable {x y z : Int} {cs : List Cell} {L : List (List Cell)} {xs ys : List Int} {l : List Cell} {p : Cell}
def CubesOK (y z : Int) (x : Int) (cs : List Cell) (xs : List Int) : Prop := ∀ c, c.inBox x y z → c ∈ cs → atL y z xs c ≠ -2
end
end Go.Ab

/- The abstract code of some functions (written by a program of mine from the translation, by way of prepF). -/
namespace Go.Ab.C
open Go.Ab
end Go.Ab.C

/- That the program has this code. -/
namespace Go.Ab.K
open Go Go.Ab
end Go.Ab.K

/- The abstract code of some functions (written by a program of mine from the translation, by way of prepF). -/
namespace Go.Ab.C
open Go.Ab
end Go.Ab.C

/- That the program has this code. -/
namespace Go.Ab.K
open Go Go.Ab
end Go.Ab.K

/- The abstract code of some functions (written by a program of mine from the translation, by way of prepF). -/
namespace Go.Ab.C
open Go.Ab
end Go.Ab.C

/- That the program has this code. -/
namespace Go.Ab.K
open Go Go.Ab
end Go.Ab.K

/- The abstract code of some functions (written by a program of mine from the translation, by way of prepF). -/
namespace Go.Ab.C
open Go.Ab
end Go.Ab.C

/- That the program has this code. -/
namespace Go.Ab.K
open Go Go.Ab
end Go.Ab.K

/- The abstract code of some functions (written by a program of mine from the translation, by way of prepF). -/
namespace Go.Ab.C
open Go.Ab
end Go.Ab.C

/- That the program has this code. -/
namespace Go.Ab.K
open Go Go.Ab
end Go.Ab.K

/- The abstract code of some functions (written by a program of mine from the translation, by way of prepF). -/
namespace Go.Ab.C
open Go.Ab
end Go.Ab.C

/- That the program has this code. -/
namespace Go.Ab.K
open Go Go.Ab
end Go.Ab.K

/- The abstract code of some functions (written by a program of mine from the translation, by way of prepF). -/
namespace Go.Ab.C
open Go.Ab
end Go.Ab.C

/- That the program has this code. -/
namespace Go.Ab.K
open Go Go.Ab
end Go.Ab.K

/- The abstract code of some functions (written by a program of mine from the translation, by way of prepF). -/
namespace Go.Ab.C
open Go.Ab
end Go.Ab.C

/- That the program has this code. -/
namespace Go.Ab.K
open Go Go.Ab
end Go.Ab.K

/- The abstract code of some functions (written by a program of mine from the translation, by way of prepF). -/
namespace Go.Ab.C
open Go.Ab
end Go.Ab.C

/- That the program has this code. -/
namespace Go.Ab.K
open Go Go.Ab
end Go.Ab.K

/- The abstract code of some functions (written by a program of mine from the translation, by way of prepF). -/
namespace Go.Ab.C
open Go.Ab
end Go.Ab.C

/- That the program has this code. -/
namespace Go.Ab.K
open Go Go.Ab
end Go.Ab.K

/- The abstract code of some functions (written by a program of mine from the translation, by way of prepF). -/
namespace Go.Ab.C
open Go.Ab
end Go.Ab.C

/- That the program has this code. -/
namespace Go.Ab.K
open Go Go.Ab
end Go.Ab.K

/- The abstract code of some functions (written by a program of mine from the translation, by way of prepF). -/
namespace Go.Ab.C
open Go.Ab
def impl_Heap_heights : AFn :=
 ⟨1, 37, [.tmp 2],
 .seq (.ops [(none, .box 1 (.t 0)),
 (none, .mv 2 (.c .nil))])
 (.seq (.ops [(none, .fieldAddr 7 (.t 1) 0),
 (none, .load1 8 (.t 7)),
 (none, .fieldAddr 9 (.t 1) 1),
 (none, .load1 10 (.t 9)),
 (none, .bin 11 .mul (.t 8) (.t 10)),
 (none, .mksl 12 1 8 [(.I 0)] (.t 11) (.t 11)),
 (none, .mv 3 (.t 12))])
 (.seq (.seq (.ops [(none, .fieldAddr 13 (.t 1) 3),
 (none, .load1 14 (.t 13)),
 (none, .len 15 (.t 14)),
 (none, .mv 16 (.c (.I 0)))])
 (.block 0 (.loop (.seq (.ops [(none, .bin 17 .lss (.t 16) (.t 15))])
 (.seq (.cond (.t 17) (.skip)
 (.exit 0))
 (.seq (.block 1 (.seq (.ops [(none, .idxS 18 3 (.t 14) (.t 16)),
 (none, .loadN 19 3 (.t 18)),
 (none, .alloc 5 [(.I 0), (.I 0), (.I 0)]),
 (none, .store 3 (.t 5) (.t 19))])
 (.seq (.draw [⟨(none, .loadN 20 4 (.t 1)), [], []⟩,
 ⟨(none, .loadN 22 3 (.t 5)), [], []⟩,
 ⟨(none, .call (some 21) F.impl_Heap_box [(.t 20)]), [], [1]⟩,
 ⟨(none, .call (some 23) F.impl_box_line [(.t 21), (.t 22), (.c (.I 2))]), [], []⟩,
 ⟨(none, .mv 6 (.t 23)), [], []⟩])
 (.draw [⟨(none, .mv 24 (.t 3)), [], []⟩,
 ⟨(none, .mv 25 (.t 6)), [], []⟩,
 ⟨(none, .mv 26 (.t 3)), [], []⟩,
 ⟨(none, .mv 27 (.t 6)), [], []⟩,
 ⟨(none, .idxS 28 1 (.t 26) (.t 27)), [], []⟩,
 ⟨(none, .load1 29 (.t 28)), [], []⟩,
 ⟨(none, .idxA 30 3 1 (.t 5) (.c (.I 2))), [], []⟩,
 ⟨(none, .load1 31 (.t 30)), [], []⟩,
 ⟨(none, .bin 32 .add (.t 31) (.c (.I 1))), [], []⟩,
 ⟨(none, .mm 33 true [(.t 29), (.t 32)]), [], []⟩,
 ⟨(none, .idxS 34 1 (.t 24) (.t 25)), [], []⟩,
 ⟨(none, .store 1 (.t 34) (.t 33)), [], []⟩]))))
 (.ops [(none, .bin 35 .add (.t 16) (.c (.I 1))),
 (none, .mv 16 (.t 35))])))))))
 (.seq (.ops [(none, .mv 36 (.t 3)),
 (none, .mv 2 (.t 36))])
 (.ret))))⟩
end Go.Ab.C

/- That the program has this code. -/
namespace Go.Ab.K
open Go Go.Ab
theorem impl_Heap_heights : prepF Go.Proofs.Try.prog F.impl_Heap_heights = some C.impl_Heap_heights := by kernel_rfl
end Go.Ab.K
