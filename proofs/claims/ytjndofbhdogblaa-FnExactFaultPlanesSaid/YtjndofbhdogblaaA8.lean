/- Parts of the proof of FnExactFaultPlanesSaid: Yd C_Tl K_Tl C_Tk K_Tk C_Tj K_Tj Tj Tk C_Tf K_Tf C_Te K_Te Te Tf Tl Yf Yg Yh Zb C_Zc K_Zc C_Yi K_Yi Yi. -/
import Derived.Test.YtjndofbhdogblaaA7
import Derived.Test.YtjndofbhdogblaaA4
import Derived.Test.YtjndofbhdogblaaA6
import Derived.Test.YtjndofbhdogblaaA3
import Derived.Test.YtjndofbhdogblaaProg
import Derived.KernelRfl
set_option linter.all false
/- Contracts: parities, both sides; ParityBars. -/
namespace Go.Ab
open Go
set_option linter.unusedSimpArgs false
set_option linter.unusedVariables false
set_option maxRecDepth 20000

def par1 (c : Cell) : Int := 1 - 2 * ((c.a + c.b + c.c).tmod 2)
def parL : List Cell → Int
  | [] => 0
  | c :: l => par1 c + parL l
section
variable {l : List Cell} {t o : Nat} {M : Mem} (h : Tri M t o l) (hn : l.length ≤ 64) (hin : ∀ c ∈ l, c.inBox 4 4 4)
include h hn hin
end
/-- The cells without cubes. -/
def freeP (cs : List Cell) (c : Cell) : Bool := !decide (c ∈ cs)
theorem box4 {x y z : Int} (hS : Sides x y z) {c : Cell} (hc : c.inBox x y z) : c.inBox 4 4 4 := by
  obtain ⟨hx, hy, hz⟩ := hS
  obtain ⟨⟨_, _⟩, ⟨_, _⟩, ⟨_, _⟩⟩ := hc
  unfold Cell.inBox; omega
section
variable {x y z : Int} {t o : Nat} {cs : List Cell} {M : Mem} (h : Tri M t o cs) (hH : HeapOK x y z cs)
include h hH
theorem g_free : CallsTo PG F.impl_Heap_free [.agg [.I x, .I y, .I z, .ref t o cs.length]] M (.W (bs x y z (freeP cs))) M := by
  have hlen := hH.len
  refine calls_run K.impl_Heap_free rfl ?_
  simp (disch := omega) only [C.impl_Heap_free, ↓SXd, SXu, slBounds, ↓sop, ↓aop, ↓reduceIte, LV.cells, AOp.dst, LV.I, LV.B, LV.U, LV.S, LV.nil, Nat.reduceEqDiff, Nat.reduceAdd, Nat.reduceMul, Nat.reduceSub, Nat.reduceLeDiff, Nat.reduceBEq, Nat.reduceDiv, Nat.reduceMod, Int.reduceToNat, Int.reduceLT, Int.reduceLE, Int.reduceAdd, Int.reduceSub, Int.reduceMul, Int.reduceEq, Int.reduceNeg, reduceCtorEq, resV, resAll, ARes.ev, LV.flat, ite_true, ite_false, exists_eq_left', exists_eq_left, keyOf, implies_true, fillC, capOf]
  refine callK_of (g_box) ?_
  simp (disch := omega) only [↓SXd, SXu, slBounds, ↓sop, ↓aop, ↓reduceIte, LV.cells, AOp.dst, LV.I, LV.B, LV.U, LV.S, LV.nil, Nat.reduceEqDiff, Nat.reduceAdd, Nat.reduceMul, Nat.reduceSub, Nat.reduceLeDiff, Nat.reduceBEq, Nat.reduceDiv, Nat.reduceMod, Int.reduceToNat, Int.reduceLT, Int.reduceLE, Int.reduceAdd, Int.reduceSub, Int.reduceMul, Int.reduceEq, Int.reduceNeg, reduceCtorEq, resV, resAll, ARes.ev, LV.flat, ite_true, ite_false, exists_eq_left', exists_eq_left, keyOf, implies_true, fillC, capOf]
  refine callK_of (g_full hH.1) ?_
  simp (disch := omega) only [↓SXd, SXu, slBounds, ↓sop, ↓aop, ↓reduceIte, LV.cells, AOp.dst, LV.I, LV.B, LV.U, LV.S, LV.nil, Nat.reduceEqDiff, Nat.reduceAdd, Nat.reduceMul, Nat.reduceSub, Nat.reduceLeDiff, Nat.reduceBEq, Nat.reduceDiv, Nat.reduceMod, Int.reduceToNat, Int.reduceLT, Int.reduceLE, Int.reduceAdd, Int.reduceSub, Int.reduceMul, Int.reduceEq, Int.reduceNeg, reduceCtorEq, resV, resAll, ARes.ev, LV.flat, ite_true, ite_false, exists_eq_left', exists_eq_left, keyOf, implies_true, fillC, capOf]
  refine callK_of (g_cubes h.app (by omega) hH.1 (fun c hc => hH.mem hc)) ?_
  simp (disch := omega) only [↓SXd, SXu, slBounds, ↓sop, ↓aop, ↓reduceIte, LV.cells, AOp.dst, LV.I, LV.B, LV.U, LV.S, LV.nil, Nat.reduceEqDiff, Nat.reduceAdd, Nat.reduceMul, Nat.reduceSub, Nat.reduceLeDiff, Nat.reduceBEq, Nat.reduceDiv, Nat.reduceMod, Int.reduceToNat, Int.reduceLT, Int.reduceLE, Int.reduceAdd, Int.reduceSub, Int.reduceMul, Int.reduceEq, Int.reduceNeg, reduceCtorEq, resV, resAll, ARes.ev, LV.flat, ite_true, ite_false, exists_eq_left', exists_eq_left, keyOf, implies_true, fillC, capOf]
  rw [bs_diff hH.1, (bs_eq hH.1).2 fun c _ => show (true && !decide (c ∈ cs)) = freeP cs c by simp [freeP]]
  exact cmp_drop rfl
end
end Go.Ab

/- The abstract code of some functions (written by a program of mine from the translation, by way of prepF). -/
namespace Go.Ab.C
open Go.Ab
def impl_added : AFn :=
  ⟨2, 21, [.cellN 4 3],
    .seq (.ops [(none, .box 2 (.t 0)),
       (none, .box 3 (.t 1)),
       (none, .alloc 4 [(.I 0), (.I 0), (.I 0)])])
    (.seq (.ops [(none, .idxA 5 3 1 (.t 2) (.c (.I 0))),
        (none, .load1 6 (.t 5)),
        (none, .idxA 7 3 1 (.t 3) (.c (.I 0))),
        (none, .load1 8 (.t 7)),
        (none, .bin 9 .add (.t 6) (.t 8)),
        (none, .idxA 10 3 1 (.t 2) (.c (.I 1))),
        (none, .load1 11 (.t 10)),
        (none, .idxA 12 3 1 (.t 3) (.c (.I 1))),
        (none, .load1 13 (.t 12)),
        (none, .bin 14 .add (.t 11) (.t 13)),
        (none, .idxA 15 3 1 (.t 2) (.c (.I 2))),
        (none, .load1 16 (.t 15)),
        (none, .idxA 17 3 1 (.t 3) (.c (.I 2))),
        (none, .load1 18 (.t 17)),
        (none, .bin 19 .add (.t 16) (.t 18)),
        (none, .build 20 [(.I 0), (.I 0), (.I 0)] [(0, 1, (.t 9)), (1, 1, (.t 14)), (2, 1, (.t 19))]),
        (none, .store 3 (.t 4) (.t 20))])
     (.ret))⟩
end Go.Ab.C

/- That the program has this code. -/
namespace Go.Ab.K
open Go Go.Ab
theorem impl_added : prepF Go.Proofs.Try.prog F.impl_added = some C.impl_added := by kernel_rfl
end Go.Ab.K

/- The abstract code of some functions (written by a program of mine from the translation, by way of prepF). -/
namespace Go.Ab.C
open Go.Ab
end Go.Ab.C

/- That the program has this code. -/
namespace Go.Ab.K
open Go Go.Ab
end Go.Ab.K

/- The abstract code of some functions (written by a program of mine from the translation, by way of prepF). -/
namespace Go.Ab.C
open Go.Ab
end Go.Ab.C

/- That the program has this code. -/
namespace Go.Ab.K
open Go Go.Ab
end Go.Ab.K

/- Contracts: the program's turns. -/
namespace Go.Ab
open Go
set_option linter.unusedSimpArgs false
set_option linter.unusedVariables false

def ordersL : List Cell := [⟨0, 1, 2⟩, ⟨0, 2, 1⟩, ⟨1, 0, 2⟩, ⟨1, 2, 0⟩, ⟨2, 0, 1⟩, ⟨2, 1, 0⟩]
/-- The attempt at which an order's turns begin. -/
def nO (o : Nat) : Nat := if o = 0 then 8 else if o = 1 then 16 else if o = 2 then 24 else if o = 3 then 40 else if o = 4 then 48 else if o = 5 then 56 else 72
end Go.Ab

/- Contracts: the program's turned heaps. -/
namespace Go.Ab
open Go
set_option linter.unusedSimpArgs false
set_option linter.unusedVariables false

end Go.Ab

/- The abstract code of some functions (written by a program of mine from the translation, by way of prepF). -/
namespace Go.Ab.C
open Go.Ab
end Go.Ab.C

/- That the program has this code. -/
namespace Go.Ab.K
open Go Go.Ab
end Go.Ab.K

/- The abstract code of some functions (written by a program of mine from the translation, by way of prepF). -/
namespace Go.Ab.C
open Go.Ab
end Go.Ab.C

/- That the program has this code. -/
namespace Go.Ab.K
open Go Go.Ab
end Go.Ab.K

/- Contracts: the reference's order of heaps, and first forms. -/
namespace Go.Ab
open Go
set_option linter.unusedSimpArgs false
set_option linter.unusedVariables false

def lexC : List Cell → List Cell → Bool
  | _, [] => false
  | [], _ :: _ => true
  | a :: l, b :: m => if a = b then lexC l m else decide (a.lt b)
def Hp.dims (h : Hp) : Cell := ⟨h.x, h.y, h.z⟩
def lessHp (g h : Hp) : Bool := if g.dims = h.dims then lexC g.cs h.cs else decide (g.dims.lt h.dims)
end Go.Ab

/- Contracts: the reference's first forms. -/
namespace Go.Ab
open Go
set_option linter.unusedSimpArgs false
set_option linter.unusedVariables false

def bestH (b : Hp) (l : List Hp) : Hp := l.foldl (fun b n => if lessHp n b then n else b) b
/-- The positions of a heap: it is turned, and put into the least box. -/
def posHp (x y z : Int) (cs : List Cell) (T : Turn) : Hp := cropHp (turnHp x y z T cs).cs
def formHp (x y z : Int) (cs : List Cell) : Hp := bestH (cropHp cs) (turns.map (posHp x y z cs))
theorem Live.six {N : Mem} {t k e : Nat} {w : Bool} {l : List Turn} (h : Live N t (.row (sixL l) w e)) (hk : k < l.length) : getCells N t (k * 6) 6 = some l[k].row := by
  rw [h.cells, if_pos (by rw [sixL_len]; omega), sixL_at hk]
end Go.Ab

/- Contracts: the program's least boxes. -/
namespace Go.Ab
open Go
set_option linter.unusedSimpArgs false
set_option linter.unusedVariables false

def leC (a b : Cell) : Prop := a.a ≤ b.a ∧ a.b ≤ b.b ∧ a.c ≤ b.c
theorem g_added {c p : Cell} {M : Mem} (hc : Small c) (hp : Small p) : CallsTo PG F.impl_added [.agg [.I c.a, .I c.b, .I c.c], .agg [.I p.a, .I p.b, .I p.c]] M (.agg [.I (shift p c).a, .I (shift p c).b, .I (shift p c).c]) M := by
  obtain ⟨⟨_, _⟩, ⟨_, _⟩, ⟨_, _⟩⟩ := hc
  obtain ⟨⟨_, _⟩, ⟨_, _⟩, ⟨_, _⟩⟩ := hp
  refine calls_run K.impl_added rfl ?_
  simp (disch := omega) only [C.impl_added, splice, ↓SXd, SXu, slBounds, ↓sop, ↓aop, ↓reduceIte, LV.cells, AOp.dst, LV.I, LV.B, LV.U, LV.S, LV.nil, Nat.reduceEqDiff, Nat.reduceAdd, Nat.reduceMul, Nat.reduceSub, Nat.reduceLeDiff, Nat.reduceBEq, Nat.reduceDiv, Nat.reduceMod, Int.reduceToNat, Int.reduceLT, Int.reduceLE, Int.reduceAdd, Int.reduceSub, Int.reduceMul, Int.reduceEq, Int.reduceNeg, reduceCtorEq, resV, resAll, ARes.ev, LV.flat, ite_true, ite_false, exists_eq_left', exists_eq_left, keyOf, implies_true, fillC, capOf]
  exact cmp_drop rfl
end Go.Ab

/- Contracts: pieces placed in a box, the program's side. -/
namespace Go.Ab
open Go
set_option linter.unusedSimpArgs false
set_option linter.unusedVariables false
set_option maxRecDepth 20000

def At4 (at' : Cell) : Prop := (0 ≤ at'.a ∧ at'.a ≤ 4) ∧ (0 ≤ at'.b ∧ at'.b ≤ 4) ∧ (0 ≤ at'.c ∧ at'.c ≤ 4)
def PlacedOK (x y z : Int) (fr : Cell → Bool) (l : List Cell) (at' : Cell) : Prop := At4 at' ∧ ∀ c ∈ l, (shift at' c).inBox x y z ∧ fr (shift at' c) = true
noncomputable instance {x y z : Int} {fr : Cell → Bool} {l : List Cell} {at' : Cell} : Decidable (PlacedOK x y z fr l at') := Classical.propDecidable _
instance {at' : Cell} : Decidable (At4 at') := by unfold At4; exact inferInstance
theorem g_placed {x y z : Int} {fr : Cell → Bool} {l : List Cell} {at' : Cell} {t o : Nat} {M : Mem} (hS : Sides x y z) (h : Tri M t o l) (hn : l.length ≤ 1000000) (hin : ∀ c ∈ l, c.inBox 4 4 4) :
    CallsTo PG F.impl_box_placed [.agg [.I x, .I y, .I z], .W (bs x y z fr), .ref t o l.length, .agg [.I at'.a, .I at'.b, .I at'.c]] M
      (.tup [.W (if PlacedOK x y z fr l at' then bs x y z (fun d => decide (d ∈ l.map (shift at'))) else 0#64), .B (decide (PlacedOK x y z fr l at'))]) M := by
  have ht := h.lt
  have hno : ¬ PlacedOK x y z fr l at' → ∀ {N : Mem}, Pre M N → Cmp M N (.tup [.W 0#64, .B false]) M (.tup [.W (if PlacedOK x y z fr l at' then bs x y z (fun d => decide (d ∈ l.map (shift at'))) else 0#64), .B (decide (PlacedOK x y z fr l at'))]) := fun hp N hN => by
    rw [if_neg hp, decide_eq_false hp]; exact cmp_pre hN rfl
  refine calls_run K.impl_box_placed rfl ?_
  have haw := g_allWithinLH (lo := 0) (hi := 4) (xs := [at'.a, at'.b, at'.c]) (t := M.length + 1) (o := 0) (M := M ++ [some (.row [.I x, .I y, .I z] true 0), some (.row [.I at'.a, .I at'.b, .I at'.c] true 0)]) (Live.newj (b := .row (intL [at'.a, at'.b, at'.c]) true 0) rfl).has (by simp)
  have hat : (∀ v ∈ [at'.a, at'.b, at'.c], (0 : Int) ≤ v ∧ v ≤ 4) ↔ At4 at' := by
    simp only [List.mem_cons, List.not_mem_nil, or_false, forall_eq_or_imp, forall_eq]
    rfl
  rw [decide_eq_decide.2 hat] at haw
  simp (disch := omega) only [C.impl_box_placed, Option.isSome_some, and_self, if_true, ↓SXd, SXu, slBounds, ↓sop, ↓aop, ↓reduceIte, LV.cells, AOp.dst, LV.I, LV.B, LV.U, LV.S, LV.nil, Nat.reduceEqDiff, Nat.reduceAdd, Nat.reduceMul, Nat.reduceSub, Nat.reduceLeDiff, Nat.reduceBEq, Nat.reduceDiv, Nat.reduceMod, Int.reduceToNat, Int.reduceLT, Int.reduceLE, Int.reduceAdd, Int.reduceSub, Int.reduceMul, Int.reduceEq, Int.reduceNeg, reduceCtorEq, resV, resAll, ARes.ev, LV.flat, ite_true, ite_false, exists_eq_left', exists_eq_left, keyOf, implies_true, fillC, capOf]
  refine callK_of haw ?_
  by_cases h4 : At4 at'
  · rw [decide_eq_true h4]
    obtain ⟨⟨_, _⟩, ⟨_, _⟩, ⟨_, _⟩⟩ := id h4
    simp (disch := omega) only [↓SXd, SXu, slBounds, ↓sop, ↓aop, ↓reduceIte, LV.cells, AOp.dst, LV.I, LV.B, LV.U, LV.S, LV.nil, Nat.reduceEqDiff, Nat.reduceAdd, Nat.reduceMul, Nat.reduceSub, Nat.reduceLeDiff, Nat.reduceBEq, Nat.reduceDiv, Nat.reduceMod, Int.reduceToNat, Int.reduceLT, Int.reduceLE, Int.reduceAdd, Int.reduceSub, Int.reduceMul, Int.reduceEq, Int.reduceNeg, reduceCtorEq, resV, resAll, ARes.ev, LV.flat, ite_true, ite_false, exists_eq_left', exists_eq_left, keyOf, implies_true, fillC, capOf]
    refine ev_loop (fun m fr1 M' => ∃ i : Nat, i + m = l.length ∧ Pre M M' ∧ Live M' M.length (.row [.I x, .I y, .I z] true 0) ∧ Live M' (M.length + 1) (.row [.I at'.a, .I at'.b, .I at'.c] true 0) ∧ (∀ c ∈ l.take i, (shift at' c).inBox x y z ∧ fr (shift at' c) = true) ∧
      fr1 1 = .W (bs x y z fr) ∧ fr1 4 = .ptr M.length 0 ∧ fr1 7 = .ptr (M.length + 1) 0 ∧ fr1 10 = .W (bs x y z fun d => decide (d ∈ (l.take i).map (shift at'))) ∧ fr1 17 = .ref t o l.length ∧ fr1 18 = .I l.length ∧ fr1 19 = .I i) l.length
      ⟨0, by omega, Pre.app _ _, Live.new, Live.newj rfl, by simp, rfl, rfl, rfl, by rw [show (bs x y z fun d => decide (d ∈ (l.take 0).map (shift at'))) = 0#64 from (bs_zero hS).2 fun c _ => by simp]; rfl, rfl, rfl, rfl⟩ ?_
    rintro m fr1 M' ⟨i, hi, hpre, b4, b7, hall, f1, f4, f7, f10, f17, f18, f19⟩
    simp (disch := omega) only [f1, f4, f7, f10, f17, f18, f19, ↓SXd, SXu, slBounds, ↓sop, ↓aop, ↓reduceIte, LV.cells, AOp.dst, LV.I, LV.B, LV.U, LV.S, LV.nil, Nat.reduceEqDiff, Nat.reduceAdd, Nat.reduceMul, Nat.reduceSub, Nat.reduceLeDiff, Nat.reduceBEq, Nat.reduceDiv, Nat.reduceMod, Int.reduceToNat, Int.reduceLT, Int.reduceLE, Int.reduceAdd, Int.reduceSub, Int.reduceMul, Int.reduceEq, Int.reduceNeg, reduceCtorEq, resV, resAll, ARes.ev, LV.flat, ite_true, ite_false, exists_eq_left', exists_eq_left, keyOf, implies_true, fillC, capOf]
    refine condC_dec (fun hlt => ?_) (fun hlt => ?_)
    · have hil : i < l.length := by omega
      have hg := Tri.get (h.pre hpre) hil
      have hc := hin _ (getD_mem' (d := default) hil)
      have hcm := getD_mem' (d := default) hil
      have hts : l.take (i + 1) = l.take i ++ [l.getD i default] := by
        rw [List.take_succ, List.getElem?_eq_getElem hil]; simp [hil]
      generalize l.getD i default = c at hg hc hcm hts
      obtain ⟨⟨_, _⟩, ⟨_, _⟩, ⟨_, _⟩⟩ := id hc
      have hb4 := b4.lt
      have hb7 := b7.lt
      simp (disch := omega) only [f1, f4, f7, f10, f17, f18, f19, hg, Cell.row, splice, b4.app.cells, b7.app.cells, ↓SXd, SXu, slBounds, ↓sop, ↓aop, ↓reduceIte, LV.cells, AOp.dst, LV.I, LV.B, LV.U, LV.S, LV.nil, Nat.reduceEqDiff, Nat.reduceAdd, Nat.reduceMul, Nat.reduceSub, Nat.reduceLeDiff, Nat.reduceBEq, Nat.reduceDiv, Nat.reduceMod, Int.reduceToNat, Int.reduceLT, Int.reduceLE, Int.reduceAdd, Int.reduceSub, Int.reduceMul, Int.reduceEq, Int.reduceNeg, reduceCtorEq, resV, resAll, ARes.ev, LV.flat, ite_true, ite_false, exists_eq_left', exists_eq_left, keyOf, implies_true, fillC, capOf]
      refine callK_of (g_added ⟨by omega, by omega, by omega⟩ ⟨by omega, by omega, by omega⟩) ?_
      simp (disch := omega) only [f1, f4, f7, f10, f17, f18, f19, splice, b4.app.cells, b7.app.cells, ↓SXd, SXu, slBounds, ↓sop, ↓aop, ↓reduceIte, LV.cells, AOp.dst, LV.I, LV.B, LV.U, LV.S, LV.nil, Nat.reduceEqDiff, Nat.reduceAdd, Nat.reduceMul, Nat.reduceSub, Nat.reduceLeDiff, Nat.reduceBEq, Nat.reduceDiv, Nat.reduceMod, Int.reduceToNat, Int.reduceLT, Int.reduceLE, Int.reduceAdd, Int.reduceSub, Int.reduceMul, Int.reduceEq, Int.reduceNeg, reduceCtorEq, resV, resAll, ARes.ev, LV.flat, ite_true, ite_false, exists_eq_left', exists_eq_left, keyOf, implies_true, fillC, capOf]
      refine callK_of (g_has hS) ?_
      rw [cell_eta]
      by_cases hb : (shift at' c).inBox x y z
      · rw [decide_eq_true hb]
        have hix := idx_in hS hb
        have hv := vol_cast hS
        simp (disch := omega) only [f1, f4, f7, f10, f17, f18, f19, b4.app.cells, splice, ↓SXd, SXu, slBounds, ↓sop, ↓aop, ↓reduceIte, LV.cells, AOp.dst, LV.I, LV.B, LV.U, LV.S, LV.nil, Nat.reduceEqDiff, Nat.reduceAdd, Nat.reduceMul, Nat.reduceSub, Nat.reduceLeDiff, Nat.reduceBEq, Nat.reduceDiv, Nat.reduceMod, Int.reduceToNat, Int.reduceLT, Int.reduceLE, Int.reduceAdd, Int.reduceSub, Int.reduceMul, Int.reduceEq, Int.reduceNeg, reduceCtorEq, resV, resAll, ARes.ev, LV.flat, ite_true, ite_false, exists_eq_left', exists_eq_left, keyOf, implies_true, fillC, capOf]
        refine callK_of (g_index hS hb) ?_
        simp (disch := omega) only [f1, f4, f7, f10, f17, f18, f19, ↓SXd, SXu, slBounds, ↓sop, ↓aop, ↓reduceIte, LV.cells, AOp.dst, LV.I, LV.B, LV.U, LV.S, LV.nil, Nat.reduceEqDiff, Nat.reduceAdd, Nat.reduceMul, Nat.reduceSub, Nat.reduceLeDiff, Nat.reduceBEq, Nat.reduceDiv, Nat.reduceMod, Int.reduceToNat, Int.reduceLT, Int.reduceLE, Int.reduceAdd, Int.reduceSub, Int.reduceMul, Int.reduceEq, Int.reduceNeg, reduceCtorEq, resV, resAll, ARes.ev, LV.flat, ite_true, ite_false, exists_eq_left', exists_eq_left, keyOf, implies_true, fillC, capOf]
        refine callK_of (g_has_set hix.1) ?_
        rw [bs_has hS hb]
        cases hf : fr (shift at' c) with
        | true =>
          simp (disch := omega) only [f1, f4, f7, f10, f17, f18, f19, b4.app.cells, ↓SXd, SXu, slBounds, ↓sop, ↓aop, ↓reduceIte, LV.cells, AOp.dst, LV.I, LV.B, LV.U, LV.S, LV.nil, Nat.reduceEqDiff, Nat.reduceAdd, Nat.reduceMul, Nat.reduceSub, Nat.reduceLeDiff, Nat.reduceBEq, Nat.reduceDiv, Nat.reduceMod, Int.reduceToNat, Int.reduceLT, Int.reduceLE, Int.reduceAdd, Int.reduceSub, Int.reduceMul, Int.reduceEq, Int.reduceNeg, reduceCtorEq, resV, resAll, ARes.ev, LV.flat, ite_true, ite_false, exists_eq_left', exists_eq_left, keyOf, implies_true, fillC, capOf]
          refine callK_of (g_index hS hb) ?_
          simp (disch := omega) only [f1, f4, f7, f10, f17, f18, f19, ↓SXd, SXu, slBounds, ↓sop, ↓aop, ↓reduceIte, LV.cells, AOp.dst, LV.I, LV.B, LV.U, LV.S, LV.nil, Nat.reduceEqDiff, Nat.reduceAdd, Nat.reduceMul, Nat.reduceSub, Nat.reduceLeDiff, Nat.reduceBEq, Nat.reduceDiv, Nat.reduceMod, Int.reduceToNat, Int.reduceLT, Int.reduceLE, Int.reduceAdd, Int.reduceSub, Int.reduceMul, Int.reduceEq, Int.reduceNeg, reduceCtorEq, resV, resAll, ARes.ev, LV.flat, ite_true, ite_false, exists_eq_left', exists_eq_left, keyOf, implies_true, fillC, capOf]
          rw [bs_one hS hb, bs_or hS]
          refine ⟨m - 1, by omega, i + 1, by omega, hpre.app', b4.app, b7.app, fun d hd => ?_, f1, f4, f7, ?_, f17, f18, eqI (natI _)⟩
          · rw [hts] at hd
            rcases List.mem_append.1 hd with hd | hd
            · exact hall d hd
            · rw [List.mem_singleton.1 hd]; exact ⟨hb, hf⟩
          · show LV.W _ = LV.W _
            rw [(bs_eq hS).2 fun d _ => show (decide (d ∈ (l.take i).map (shift at')) || decide (d = shift at' c)) = decide (d ∈ (l.take (i + 1)).map (shift at')) by
              rw [Bool.eq_iff_iff, hts]; simp]
        | false =>
          simp (disch := omega) only [f1, f4, f7, f10, f17, f18, f19, ↓SXd, SXu, slBounds, ↓sop, ↓aop, ↓reduceIte, LV.cells, AOp.dst, LV.I, LV.B, LV.U, LV.S, LV.nil, Nat.reduceEqDiff, Nat.reduceAdd, Nat.reduceMul, Nat.reduceSub, Nat.reduceLeDiff, Nat.reduceBEq, Nat.reduceDiv, Nat.reduceMod, Int.reduceToNat, Int.reduceLT, Int.reduceLE, Int.reduceAdd, Int.reduceSub, Int.reduceMul, Int.reduceEq, Int.reduceNeg, reduceCtorEq, resV, resAll, ARes.ev, LV.flat, ite_true, ite_false, exists_eq_left', exists_eq_left, keyOf, implies_true, fillC, capOf]
          exact hno (fun hp => by have := (hp.2 c hcm).2; rw [hf] at this; cases this) hpre.app'
      · rw [decide_eq_false hb]
        simp (disch := omega) only [f1, f4, f7, f10, f17, f18, f19, ↓SXd, SXu, slBounds, ↓sop, ↓aop, ↓reduceIte, LV.cells, AOp.dst, LV.I, LV.B, LV.U, LV.S, LV.nil, Nat.reduceEqDiff, Nat.reduceAdd, Nat.reduceMul, Nat.reduceSub, Nat.reduceLeDiff, Nat.reduceBEq, Nat.reduceDiv, Nat.reduceMod, Int.reduceToNat, Int.reduceLT, Int.reduceLE, Int.reduceAdd, Int.reduceSub, Int.reduceMul, Int.reduceEq, Int.reduceNeg, reduceCtorEq, resV, resAll, ARes.ev, LV.flat, ite_true, ite_false, exists_eq_left', exists_eq_left, keyOf, implies_true, fillC, capOf]
        exact hno (fun hp => hb (hp.2 c hcm).1) hpre.app'
    · simp (disch := omega) only [f1, f4, f7, f10, f17, f18, f19, ↓SXd, SXu, slBounds, ↓sop, ↓aop, ↓reduceIte, LV.cells, AOp.dst, LV.I, LV.B, LV.U, LV.S, LV.nil, Nat.reduceEqDiff, Nat.reduceAdd, Nat.reduceMul, Nat.reduceSub, Nat.reduceLeDiff, Nat.reduceBEq, Nat.reduceDiv, Nat.reduceMod, Int.reduceToNat, Int.reduceLT, Int.reduceLE, Int.reduceAdd, Int.reduceSub, Int.reduceMul, Int.reduceEq, Int.reduceNeg, reduceCtorEq, resV, resAll, ARes.ev, LV.flat, ite_true, ite_false, exists_eq_left', exists_eq_left, keyOf, implies_true, fillC, capOf]
      have : i = l.length := by omega
      subst this
      rw [List.take_length] at hall ⊢
      have hp : PlacedOK x y z fr l at' := ⟨h4, hall⟩
      rw [if_pos hp, decide_eq_true hp]
      exact cmp_pre hpre rfl
  · rw [decide_eq_false h4]
    simp (disch := omega) only [↓SXd, SXu, slBounds, ↓sop, ↓aop, ↓reduceIte, LV.cells, AOp.dst, LV.I, LV.B, LV.U, LV.S, LV.nil, Nat.reduceEqDiff, Nat.reduceAdd, Nat.reduceMul, Nat.reduceSub, Nat.reduceLeDiff, Nat.reduceBEq, Nat.reduceDiv, Nat.reduceMod, Int.reduceToNat, Int.reduceLT, Int.reduceLE, Int.reduceAdd, Int.reduceSub, Int.reduceMul, Int.reduceEq, Int.reduceNeg, reduceCtorEq, resV, resAll, ARes.ev, LV.flat, ite_true, ite_false, exists_eq_left', exists_eq_left, keyOf, implies_true, fillC, capOf]
    exact hno (fun hp => h4 hp.1) (Pre.app _ _)
end Go.Ab

/- Plain: packings, as both sides see them. -/
namespace Go.Ab
open Go
set_option linter.unusedSimpArgs false
set_option linter.unusedVariables false

def atL (y z : Int) (xs : List Int) (c : Cell) : Int := xs.getD (idx y z c).toNat 0
/-- The cells with a number. -/
def fib (x y z : Int) (xs : List Int) (k : Nat) : List Cell := pick x y z fun c => decide (atL y z xs c = k)
/-- The free cells without those of the first pieces. -/
def leftP (y z : Int) (cs : List Cell) (xs : List Int) (i : Nat) (c : Cell) : Bool := freeP cs c && !decide (0 ≤ atL y z xs c ∧ atL y z xs c < i)
def negC (c : Cell) : Cell := ⟨-c.a, -c.b, -c.c⟩
/-- Where the program tries a piece. -/
def tryAt (x y z : Int) (L : List (List Cell)) (xs : List Int) (i : Nat) : Cell := shift (negC ((L.getD i []).getD 0 default)) ((fib x y z xs i).getD 0 default)
def StepOK (x y z : Int) (cs : List Cell) (L : List (List Cell)) (xs : List Int) (i : Nat) : Prop :=
  fib x y z xs i ≠ [] ∧ PlacedOK x y z (leftP y z cs xs i) (L.getD i []) (tryAt x y z L xs i) ∧ ∀ d, d.inBox x y z → (d ∈ (L.getD i []).map (shift (tryAt x y z L xs i)) ↔ d ∈ fib x y z xs i)
def ImplPk (x y z : Int) (cs : List Cell) (L : List (List Cell)) (xs : List Int) : Prop :=
  xs.length = vol x y z ∧ (∀ v ∈ xs, -1 ≤ v ∧ v ≤ (L.length : Int) - 1) ∧ (∀ i, i < L.length → StepOK x y z cs L xs i) ∧ ∀ c, c.inBox x y z → leftP y z cs xs L.length c = false
def DiffOK (x y z : Int) (L : List (List Cell)) (xs : List Int) (k : Nat) : Prop :=
  (fib x y z xs k).length = (L.getD k []).length ∧ ∀ i, 1 ≤ i → i < (fib x y z xs k).length → ∀ d : Nat, d < 3 → Cell.at ((fib x y z xs k).getD i default) (d : Int) - Cell.at ((fib x y z xs k).getD 0 default) (d : Int) = Cell.at ((L.getD k []).getD i default) (d : Int) - Cell.at ((L.getD k []).getD 0 default) (d : Int)
def SpecPk (x y z : Int) (cs : List Cell) (L : List (List Cell)) (xs : List Int) : Prop :=
  xs.length = vol x y z ∧ tot L + cs.length = vol x y z ∧ (∀ i, i < vol x y z → (-1 ≤ xs.getD i 0 ∧ xs.getD i 0 ≤ (L.length : Int) - 1) ∧ (xs.getD i 0 < 0 ↔ cellAt y z i ∈ cs)) ∧ ∀ k, k < L.length → DiffOK x y z L xs k

theorem low_ex : ∀ {l : List Cell} {s : Cell}, (lowC s l).a = 0 → 0 < s.a → ∃ c ∈ l, c.a ≤ 0
  | [], s, h, hs => by unfold lowC at h; simp at h; omega
  | c :: l, s, h, hs => by
    by_cases h0 : c.a ≤ 0
    · exact ⟨c, by simp, h0⟩
    · obtain ⟨d, hd, h1⟩ := low_ex (l := l) (s := minC s c) h (by unfold minC; simp only; omega)
      exact ⟨d, by simp [hd], h1⟩
theorem low_exb : ∀ {l : List Cell} {s : Cell}, (lowC s l).b = 0 → 0 < s.b → ∃ c ∈ l, c.b ≤ 0
  | [], s, h, hs => by unfold lowC at h; simp at h; omega
  | c :: l, s, h, hs => by
    by_cases h0 : c.b ≤ 0
    · exact ⟨c, by simp, h0⟩
    · obtain ⟨d, hd, h1⟩ := low_exb (l := l) (s := minC s c) h (by unfold minC; simp only; omega)
      exact ⟨d, by simp [hd], h1⟩
theorem low_exc : ∀ {l : List Cell} {s : Cell}, (lowC s l).c = 0 → 0 < s.c → ∃ c ∈ l, c.c ≤ 0
  | [], s, h, hs => by unfold lowC at h; simp at h; omega
  | c :: l, s, h, hs => by
    by_cases h0 : c.c ≤ 0
    · exact ⟨c, by simp, h0⟩
    · obtain ⟨d, hd, h1⟩ := low_exc (l := l) (s := minC s c) h (by unfold minC; simp only; omega)
      exact ⟨d, by simp [hd], h1⟩
theorem shift_lt {p c d : Cell} (h : c.lt d) : (shift p c).lt (shift p d) := by
  unfold Cell.lt shift at *; simp only; omega
theorem countP_add {α : Type} {l : List α} {p q r : α → Bool} (h : ∀ a ∈ l, (r a = true ↔ p a = true ∨ q a = true) ∧ ¬ (p a = true ∧ q a = true)) : l.countP r = l.countP p + l.countP q := by
  induction l with
  | nil => rfl
  | cons a l ih =>
    have ha := h a (by simp)
    rw [List.countP_cons, List.countP_cons, List.countP_cons, ih fun b hb => h b (by simp [hb])]
    cases hp : p a <;> cases hq : q a <;> cases hr : r a <;> simp_all <;> omega
section
variable {x y z : Int} {cs : List Cell} {L : List (List Cell)} {xs : List Int} (hA : AskOK x y z cs L)
include hA
theorem pk_total (hx : ∀ c, c.inBox x y z → atL y z xs c < L.length) (hneg : ∀ c, c.inBox x y z → (atL y z xs c < 0 ↔ c ∈ cs)) (hf : ∀ k, k < L.length → (fib x y z xs k).length = (L.getD k []).length) : tot L + cs.length = vol x y z := by
  have hS := hA.2.1.1
  have hcl : (cellsOf x y z).length = vol x y z := by simp [cellsOf]
  have key : ∀ m, m ≤ L.length → (cellsOf x y z).countP (fun c => decide (atL y z xs c < m)) = (cellsOf x y z).countP (fun c => decide (atL y z xs c < 0)) + tot (L.take m) := by
    intro m
    induction m with
    | zero => intro _; simp [tot]
    | succ m ih =>
      intro hm
      rw [tot_take_succ (by omega), ← hf m (by omega), ← Nat.add_assoc, ← ih (by omega)]
      unfold fib pick
      rw [← List.countP_eq_length_filter]
      refine countP_add fun c _ => ?_
      simp only [decide_eq_true_eq]
      omega
  have h1 := key L.length (Nat.le_refl _)
  rw [List.take_length] at h1
  have h2 : (cellsOf x y z).countP (fun c => decide (atL y z xs c < L.length)) = vol x y z := by
    rw [List.countP_eq_length.2 (fun c hc => decide_eq_true (hx c ((mem_cellsOf hS).1 hc))), hcl]
  have h3 : (cellsOf x y z).countP (fun c => decide (atL y z xs c < 0)) = cs.length := by
    conv => rhs; rw [hA.2.1.pick]
    unfold pick
    rw [← List.countP_eq_length_filter]
    refine List.countP_congr fun c hc => ?_
    simp only [decide_eq_true_eq]
    exact hneg c ((mem_cellsOf hS).1 hc)
  omega
theorem pk_iff : SpecPk x y z cs L xs ↔ ImplPk x y z cs L xs := by
  have hS := hA.2.1.1
  have hv := vol_cast hS
  have hfm := fun k c => mem_pick hS (p := fun c => decide (atL y z xs c = (k : Nat))) (c := c)
  have hidx : ∀ c, c.inBox x y z → (idx y z c).toNat < vol x y z ∧ cellAt y z ((idx y z c).toNat : Nat) = c := fun c hc => by
    obtain ⟨h1, h2, h3⟩ := idx_in hS hc
    refine ⟨by omega, ?_⟩
    rw [show (((idx y z c).toNat : Nat) : Int) = idx y z c by omega]; exact h3
  constructor
  · rintro ⟨h1, h2, h3, h4⟩
    have hb : ∀ c, c.inBox x y z → (-1 ≤ atL y z xs c ∧ atL y z xs c ≤ (L.length : Int) - 1) ∧ (atL y z xs c < 0 ↔ c ∈ cs) := fun c hc => by
      obtain ⟨h5, h6⟩ := hidx c hc
      have := h3 _ h5
      rw [h6] at this; exact this
    refine ⟨h1, fun v hv' => ?_, fun k hk => ?_, fun c hc => ?_⟩
    · obtain ⟨i, hi, rfl⟩ := List.getElem_of_mem hv'
      have := (h3 i (by omega)).1
      simpa [hi] using this
    · obtain ⟨h5, h6⟩ := h4 k hk
      have hP := hA.1 _ (getD_mem' (d := []) hk)
      generalize hl : L.getD k [] = l at h5 h6 hP
      have hl1 := hP.1.1
      have hmap : fib x y z xs k = l.map (shift (tryAt x y z L xs k)) := by
        apply List.ext_getElem (by rw [List.length_map]; exact h5)
        intro i hi1 hi2
        rw [List.length_map] at hi2
        have e0 : tryAt x y z L xs k = shift (negC (l.getD 0 default)) ((fib x y z xs k).getD 0 default) := by unfold tryAt; rw [hl]
        rw [List.getElem_map]
        show (fib x y z xs k)[i] = shift (tryAt x y z L xs k) l[i]
        have g1 : (fib x y z xs k)[i] = (fib x y z xs k).getD i default := by simp [hi1]
        have g2 : l[i] = l.getD i default := by simp [hi2]
        rw [g1, g2, e0]
        rcases Nat.eq_zero_or_pos i with h0 | h0
        · subst h0
          rw [cell_eq]
          unfold shift negC
          simp only; omega
        · have d0 := h6 i h0 hi1 0 (by omega)
          have d1 := h6 i h0 hi1 1 (by omega)
          have d2 := h6 i h0 hi1 2 (by omega)
          have a0 : ∀ c : Cell, c.at 0 = c.a := fun c => rfl
          have a1 : ∀ c : Cell, c.at 1 = c.b := fun c => rfl
          have a2 : ∀ c : Cell, c.at 2 = c.c := fun c => rfl
          rw [show ((0 : Nat) : Int) = 0 from rfl, a0, a0, a0, a0] at d0
          rw [show ((1 : Nat) : Int) = 1 from rfl, a1, a1, a1, a1] at d1
          rw [show ((2 : Nat) : Int) = 2 from rfl, a2, a2, a2, a2] at d2
          rw [cell_eq]
          unfold shift negC
          simp only; omega
      have hmem : ∀ c ∈ l, shift (tryAt x y z L xs k) c ∈ fib x y z xs k := fun c hc => by rw [hmap]; exact List.mem_map.2 ⟨c, hc, rfl⟩
      have hin : ∀ c ∈ l, c.inBox 4 4 4 := fun c hc => hP.2.1.mem hc
      refine ⟨fun e => by rw [e] at h5; simp at h5; omega, ⟨?_, fun c hc => ?_⟩, fun d _ => by rw [hl, hmap]⟩
      · obtain ⟨_, _, hlow⟩ := hP
        rw [cell_eq] at hlow
        obtain ⟨c0, m0, e0⟩ := low_ex hlow.1 (by simp)
        obtain ⟨c1, m1, e1⟩ := low_exb hlow.2.1 (by simp)
        obtain ⟨c2, m2, e2⟩ := low_exc hlow.2.2 (by simp)
        have q0 := ((hfm k _).1 (hmem c0 m0)).1
        have q1 := ((hfm k _).1 (hmem c1 m1)).1
        have q2 := ((hfm k _).1 (hmem c2 m2)).1
        have i0 := hin c0 m0
        have i1 := hin c1 m1
        have i2 := hin c2 m2
        obtain ⟨hx, hy, hz⟩ := hS
        obtain ⟨⟨_, _⟩, _, _⟩ := q0
        obtain ⟨_, ⟨_, _⟩, _⟩ := q1
        obtain ⟨_, _, ⟨_, _⟩⟩ := q2
        obtain ⟨⟨_, _⟩, _, _⟩ := i0
        obtain ⟨_, ⟨_, _⟩, _⟩ := i1
        obtain ⟨_, _, ⟨_, _⟩⟩ := i2
        generalize tryAt x y z L xs k = T at *
        unfold shift at *
        simp only at *
        unfold At4
        omega
      · rw [hl] at hc
        have := (hfm k _).1 (hmem c hc)
        have he := of_decide_eq_true this.2
        refine ⟨this.1, ?_⟩
        unfold leftP freeP
        rw [he, decide_eq_false (fun hm => by have := (hb _ this.1).2.2 hm; omega), decide_eq_false (by omega)]; rfl
    · have := hb c hc
      unfold leftP freeP
      by_cases hm : c ∈ cs
      · rw [decide_eq_true hm]; rfl
      · have : ¬ atL y z xs c < 0 := fun h => hm (this.2.1 h)
        rw [decide_eq_true (show 0 ≤ atL y z xs c ∧ atL y z xs c < L.length by omega)]; simp
  · rintro ⟨h1, h2, h3, h4⟩
    have hr : ∀ c, c.inBox x y z → -1 ≤ atL y z xs c ∧ atL y z xs c ≤ (L.length : Int) - 1 := fun c hc => by
      obtain ⟨h5, h6⟩ := hidx c hc
      unfold atL
      exact h2 _ (getD_mem' (by omega))
    have hmap : ∀ k, k < L.length → fib x y z xs k = (L.getD k []).map (shift (tryAt x y z L xs k)) := fun k hk => by
      obtain ⟨_, h6, h7⟩ := h3 k hk
      have hP := hA.1 _ (getD_mem' (d := []) hk)
      refine sorted_ext (pick_sorted hS _) ?_ fun c => ?_
      · exact List.pairwise_map.2 (hP.2.1.sorted.imp fun h => shift_lt h)
      · constructor
        · intro hc; exact (h7 c ((hfm k c).1 hc).1).2 hc
        · intro hc
          obtain ⟨d, hd, rfl⟩ := List.mem_map.1 hc
          exact (h7 _ (h6.2 d hd).1).1 hc
    have hneg : ∀ c, c.inBox x y z → (atL y z xs c < 0 ↔ c ∈ cs) := fun c hc => by
      constructor
      · intro hlt
        refine Classical.byContradiction fun hm => ?_
        have := h4 c hc
        unfold leftP freeP at this
        rw [decide_eq_false hm, decide_eq_false (by omega)] at this
        cases this
      · intro hm
        refine Classical.byContradiction fun hge => ?_
        have hrc := hr c hc
        have hk : (atL y z xs c).toNat < L.length := by omega
        have hcf : c ∈ fib x y z xs (atL y z xs c).toNat := (hfm _ c).2 ⟨hc, decide_eq_true (by omega)⟩
        rw [hmap _ hk] at hcf
        obtain ⟨d, hd, e⟩ := List.mem_map.1 hcf
        have := ((h3 _ hk).2.1.2 d hd).2
        rw [e] at this
        unfold leftP freeP at this
        rw [decide_eq_true hm] at this
        cases this
    refine ⟨h1, pk_total hA (xs := xs) (fun c hc => by have := hr c hc; omega) hneg (fun k hk => by rw [hmap k hk, List.length_map]), fun i hi => ?_, fun k hk => ⟨by rw [hmap k hk, List.length_map], fun i hi1 hi2 d hd => ?_⟩⟩
    · have hci := cellAt_in hS (i := (i : Int)) (by omega) (by omega)
      have e : atL y z xs (cellAt y z i) = xs.getD i 0 := by unfold atL; rw [hci.2, Int.toNat_natCast]
      rw [← e]
      exact ⟨hr _ hci.1, hneg _ hci.1⟩
    · rw [hmap k hk] at hi2 ⊢
      rw [List.length_map] at hi2
      have g : ∀ j, j < (L.getD k []).length → ((L.getD k []).map (shift (tryAt x y z L xs k))).getD j default = shift (tryAt x y z L xs k) ((L.getD k []).getD j default) := fun j hj => by
        generalize L.getD k [] = l at hj
        simp [hj]
      rw [g i hi2, g 0 (Nat.lt_of_le_of_lt (Nat.zero_le _) hi2)]
      have a0 : ∀ c : Cell, c.at 0 = c.a := fun c => rfl
      have a1 : ∀ c : Cell, c.at 1 = c.b := fun c => rfl
      have a2 : ∀ c : Cell, c.at 2 = c.c := fun c => rfl
      generalize tryAt x y z L xs k = T
      rcases (show d = 0 ∨ d = 1 ∨ d = 2 by omega) with rfl | rfl | rfl
      · show Cell.at _ 0 - Cell.at _ 0 = Cell.at _ 0 - Cell.at _ 0
        rw [a0, a0, a0, a0]; unfold shift; simp only; omega
      · show Cell.at _ 1 - Cell.at _ 1 = Cell.at _ 1 - Cell.at _ 1
        rw [a1, a1, a1, a1]; unfold shift; simp only; omega
      · show Cell.at _ 2 - Cell.at _ 2 = Cell.at _ 2 - Cell.at _ 2
        rw [a2, a2, a2, a2]; unfold shift; simp only; omega
end
end Go.Ab

/- Contracts: packings, the reference's side. -/
namespace Go.Ab
open Go
set_option linter.unusedSimpArgs false
set_option linter.unusedVariables false
set_option maxRecDepth 20000

noncomputable instance {x y z : Int} {cs : List Cell} {L : List (List Cell)} {xs : List Int} : Decidable (SpecPk x y z cs L xs) := Classical.propDecidable _
theorem ask_tot {x y z : Int} {cs : List Cell} {L : List (List Cell)} (hA : AskOK x y z cs L) : tot L ≤ 40 := by
  have := tot_le (n := 5) (L := L) fun l hl => (hA.1 l hl).1.2
  have := hA.2.2
  omega
theorem h_l9Cells {L : List (List Cell)} {u : Nat} {M : Mem} (hP : Pcs M u L) (hL : L.length ≤ 1000000) (ht : tot L ≤ 1000000) : CallsTo PG F.spec_l9Cells [.ref u 0 L.length] M (.I (tot L : Nat)) M := by
  refine calls_run K.spec_l9Cells rfl ?_
  simp (disch := omega) only [C.spec_l9Cells, ↓SXd, SXu, slBounds, ↓sop, ↓aop, ↓reduceIte, LV.cells, AOp.dst, LV.I, LV.B, LV.U, LV.S, LV.nil, Nat.reduceEqDiff, Nat.reduceAdd, Nat.reduceMul, Nat.reduceSub, Nat.reduceLeDiff, Nat.reduceBEq, Nat.reduceDiv, Nat.reduceMod, Int.reduceToNat, Int.reduceLT, Int.reduceLE, Int.reduceAdd, Int.reduceSub, Int.reduceMul, Int.reduceEq, Int.reduceNeg, reduceCtorEq, resV, resAll, ARes.ev, LV.flat, ite_true, ite_false, exists_eq_left', exists_eq_left, keyOf, implies_true, fillC, capOf]
  refine ev_loop (fun m fr M' => ∃ i : Nat, i + m = L.length ∧ M' = M ∧ fr 0 = .ref u 0 L.length ∧ fr 3 = .I (tot (L.take i) : Nat) ∧ fr 4 = .I i) L.length
    ⟨0, by omega, rfl, rfl, rfl, rfl⟩ ?_
  rintro m fr M' ⟨i, hi, rfl, f0, f3, f4⟩
  simp (disch := omega) only [f0, f3, f4, ↓SXd, SXu, slBounds, ↓sop, ↓aop, ↓reduceIte, LV.cells, AOp.dst, LV.I, LV.B, LV.U, LV.S, LV.nil, Nat.reduceEqDiff, Nat.reduceAdd, Nat.reduceMul, Nat.reduceSub, Nat.reduceLeDiff, Nat.reduceBEq, Nat.reduceDiv, Nat.reduceMod, Int.reduceToNat, Int.reduceLT, Int.reduceLE, Int.reduceAdd, Int.reduceSub, Int.reduceMul, Int.reduceEq, Int.reduceNeg, reduceCtorEq, resV, resAll, ARes.ev, LV.flat, ite_true, ite_false, exists_eq_left', exists_eq_left, keyOf, implies_true, fillC, capOf]
  refine condC_dec (fun hlt => ?_) (fun hlt => ?_)
  · have hil : i < L.length := by omega
    obtain ⟨v, o', hg, hT⟩ := hP.get hil
    have hts := tot_take_succ hil
    have htl := tot_take_le (L := L) (i := i + 1)
    simp (disch := omega) only [f0, f3, f4, hg, Nat.mul_one, Nat.zero_add, ↓SXd, SXu, slBounds, ↓sop, ↓aop, ↓reduceIte, LV.cells, AOp.dst, LV.I, LV.B, LV.U, LV.S, LV.nil, Nat.reduceEqDiff, Nat.reduceAdd, Nat.reduceMul, Nat.reduceSub, Nat.reduceLeDiff, Nat.reduceBEq, Nat.reduceDiv, Nat.reduceMod, Int.reduceToNat, Int.reduceLT, Int.reduceLE, Int.reduceAdd, Int.reduceSub, Int.reduceMul, Int.reduceEq, Int.reduceNeg, reduceCtorEq, resV, resAll, ARes.ev, LV.flat, ite_true, ite_false, exists_eq_left', exists_eq_left, keyOf, implies_true, fillC, capOf]
    exact ⟨m - 1, by omega, i + 1, by omega, rfl, f0, eqI (by omega), eqI (natI _)⟩
  · simp (disch := omega) only [f0, f3, f4, ↓SXd, SXu, slBounds, ↓sop, ↓aop, ↓reduceIte, LV.cells, AOp.dst, LV.I, LV.B, LV.U, LV.S, LV.nil, Nat.reduceEqDiff, Nat.reduceAdd, Nat.reduceMul, Nat.reduceSub, Nat.reduceLeDiff, Nat.reduceBEq, Nat.reduceDiv, Nat.reduceMod, Int.reduceToNat, Int.reduceLT, Int.reduceLE, Int.reduceAdd, Int.reduceSub, Int.reduceMul, Int.reduceEq, Int.reduceNeg, reduceCtorEq, resV, resAll, ARes.ev, LV.flat, ite_true, ite_false, exists_eq_left', exists_eq_left, keyOf, implies_true, fillC, capOf]
    have : i = L.length := by omega
    subst this
    rw [List.take_length]
    exact cmp_drop0 rfl

theorem h_l9Packing {x y z : Int} {t o u q r : Nat} {cs : List Cell} {L : List (List Cell)} {xs : List Int} {M : Mem} (h : Tri M t o cs) (hP : Pcs M u L) (hX : Ints M q r xs) (hA : AskOK x y z cs L) (hxn : xs.length ≤ 1000000000) :
    CallsTo PG F.spec_l9Packing [.agg [.I x, .I y, .I z, .ref t o cs.length], .ref u 0 L.length, .ref q r xs.length] M (.B (decide (SpecPk x y z cs L xs))) M := by
  have hH := hA.2.1
  have hS := hH.1
  have hv := vol_cast hS
  have hcn := hH.len
  have hto := ask_tot hA
  have hL8 := hA.2.2
  have hcl : (cellsOf x y z).length = vol x y z := by simp [cellsOf]
  have ht := h.lt
  have hce : ∀ i, i < vol x y z → (cellsOf x y z).getD i default = cellAt y z i := fun i hi => by simp [cellsOf, hi]
  have hat : ∀ i, i < vol x y z → atL y z xs (cellAt y z i) = xs.getD i 0 := fun i hi => by
    have := (cellAt_in hS (i := (i : Int)) (by omega) (by omega)).2
    unfold atL; rw [this, Int.toNat_natCast]
  have hno : ¬ SpecPk x y z cs L xs → ∀ {N : Mem}, Pre M N → Cmp M N (.val (.bool false)) M (.val (.bool (decide (SpecPk x y z cs L xs)))) := fun hp N hN => by
    rw [decide_eq_false hp]; exact cmp_pre hN rfl
  refine calls_run K.spec_l9Packing rfl ?_
  simp (disch := omega) only [C.spec_l9Packing, ↓SXd, SXu, slBounds, ↓sop, ↓aop, ↓reduceIte, LV.cells, AOp.dst, LV.I, LV.B, LV.U, LV.S, LV.nil, Nat.reduceEqDiff, Nat.reduceAdd, Nat.reduceMul, Nat.reduceSub, Nat.reduceLeDiff, Nat.reduceBEq, Nat.reduceDiv, Nat.reduceMod, Int.reduceToNat, Int.reduceLT, Int.reduceLE, Int.reduceAdd, Int.reduceSub, Int.reduceMul, Int.reduceEq, Int.reduceNeg, reduceCtorEq, resV, resAll, ARes.ev, LV.flat, ite_true, ite_false, exists_eq_left', exists_eq_left, keyOf, implies_true, fillC, capOf]
  refine callK_of (h_l2All hS) ?_
  simp (disch := omega) only [↓SXd, SXu, slBounds, ↓sop, ↓aop, ↓reduceIte, LV.cells, AOp.dst, LV.I, LV.B, LV.U, LV.S, LV.nil, Nat.reduceEqDiff, Nat.reduceAdd, Nat.reduceMul, Nat.reduceSub, Nat.reduceLeDiff, Nat.reduceBEq, Nat.reduceDiv, Nat.reduceMod, Int.reduceToNat, Int.reduceLT, Int.reduceLE, Int.reduceAdd, Int.reduceSub, Int.reduceMul, Int.reduceEq, Int.reduceNeg, reduceCtorEq, resV, resAll, ARes.ev, LV.flat, ite_true, ite_false, exists_eq_left', exists_eq_left, keyOf, implies_true, fillC, capOf]
  by_cases h1 : (xs.length : Int) = (cellsOf x y z).length
  · have h1' : xs.length = vol x y z := by omega
    simp (disch := omega) only [h1, ↓SXd, SXu, slBounds, ↓sop, ↓aop, ↓reduceIte, LV.cells, AOp.dst, LV.I, LV.B, LV.U, LV.S, LV.nil, Nat.reduceEqDiff, Nat.reduceAdd, Nat.reduceMul, Nat.reduceSub, Nat.reduceLeDiff, Nat.reduceBEq, Nat.reduceDiv, Nat.reduceMod, Int.reduceToNat, Int.reduceLT, Int.reduceLE, Int.reduceAdd, Int.reduceSub, Int.reduceMul, Int.reduceEq, Int.reduceNeg, reduceCtorEq, resV, resAll, ARes.ev, LV.flat, ite_true, ite_false, exists_eq_left', exists_eq_left, keyOf, implies_true, fillC, capOf]
    refine callK_of (h_l9Cells hP.app (by omega) (by omega)) ?_
    simp (disch := omega) only [↓SXd, SXu, slBounds, ↓sop, ↓aop, ↓reduceIte, LV.cells, AOp.dst, LV.I, LV.B, LV.U, LV.S, LV.nil, Nat.reduceEqDiff, Nat.reduceAdd, Nat.reduceMul, Nat.reduceSub, Nat.reduceLeDiff, Nat.reduceBEq, Nat.reduceDiv, Nat.reduceMod, Int.reduceToNat, Int.reduceLT, Int.reduceLE, Int.reduceAdd, Int.reduceSub, Int.reduceMul, Int.reduceEq, Int.reduceNeg, reduceCtorEq, resV, resAll, ARes.ev, LV.flat, ite_true, ite_false, exists_eq_left', exists_eq_left, keyOf, implies_true, fillC, capOf]
    by_cases h2 : ((tot L : Nat) : Int) + (cs.length : Nat) = ((cellsOf x y z).length : Nat)
    · have h2' : tot L + cs.length = vol x y z := by omega
      simp (disch := omega) only [h2, ↓SXd, SXu, slBounds, ↓sop, ↓aop, ↓reduceIte, LV.cells, AOp.dst, LV.I, LV.B, LV.U, LV.S, LV.nil, Nat.reduceEqDiff, Nat.reduceAdd, Nat.reduceMul, Nat.reduceSub, Nat.reduceLeDiff, Nat.reduceBEq, Nat.reduceDiv, Nat.reduceMod, Int.reduceToNat, Int.reduceLT, Int.reduceLE, Int.reduceAdd, Int.reduceSub, Int.reduceMul, Int.reduceEq, Int.reduceNeg, reduceCtorEq, resV, resAll, ARes.ev, LV.flat, ite_true, ite_false, exists_eq_left', exists_eq_left, keyOf, implies_true, fillC, capOf]
      refine ev_loop (fun m fr M' => ∃ i : Nat, i + m = (cellsOf x y z).length ∧ M' = M ++ [some (.row [.I x, .I y, .I z, .ref t o cs.length] true 0), some (.row (triL (cellsOf x y z)) true 3)] ∧ (∀ j, j < i → (-1 ≤ xs.getD j 0 ∧ xs.getD j 0 ≤ (L.length : Int) - 1) ∧ (xs.getD j 0 < 0 ↔ cellAt y z j ∈ cs)) ∧
        fr 1 = .ref u 0 L.length ∧ fr 2 = .ref q r xs.length ∧ fr 3 = .ptr M.length 0 ∧ fr 7 = .ref (M.length + 1) 0 (cellsOf x y z).length ∧ fr 8 = .I i) (cellsOf x y z).length
        ⟨0, by omega, rfl, by omega, rfl, rfl, rfl, rfl, rfl⟩ ?_
      rintro m fr M' ⟨i, hi, rfl, hall, f1, f2, f3, f7, f8⟩
      simp (disch := omega) only [f1, f2, f3, f7, f8, ↓SXd, SXu, slBounds, ↓sop, ↓aop, ↓reduceIte, LV.cells, AOp.dst, LV.I, LV.B, LV.U, LV.S, LV.nil, Nat.reduceEqDiff, Nat.reduceAdd, Nat.reduceMul, Nat.reduceSub, Nat.reduceLeDiff, Nat.reduceBEq, Nat.reduceDiv, Nat.reduceMod, Int.reduceToNat, Int.reduceLT, Int.reduceLE, Int.reduceAdd, Int.reduceSub, Int.reduceMul, Int.reduceEq, Int.reduceNeg, reduceCtorEq, resV, resAll, ARes.ev, LV.flat, ite_true, ite_false, exists_eq_left', exists_eq_left, keyOf, implies_true, fillC, capOf]
      refine condC_dec (fun hlt => ?_) (fun hlt => ?_)
      · have hil : i < (cellsOf x y z).length := by omega
        have hx := Ints.get (hX.app (L := [some (.row [.I x, .I y, .I z, .ref t o cs.length] true 0), some (.row (triL (cellsOf x y z)) true 3)])) (k := i) (by omega)
        have hg := Live.tri0 (Live.newj (M := M) (L := [some (.row [.I x, .I y, .I z, .ref t o cs.length] true 0), some (.row (triL (cellsOf x y z)) true 3)]) (j := 1) (b := .row (triL (cellsOf x y z)) true 3) rfl) hil
        rw [hce i (by omega)] at hg
        have hbad : ∀ {P : Prop}, ((-1 ≤ xs.getD i 0 ∧ xs.getD i 0 ≤ (L.length : Int) - 1) ∧ (xs.getD i 0 < 0 ↔ cellAt y z i ∈ cs) → P) → SpecPk x y z cs L xs → P := fun h1 h2 => h1 (h2.2.2.1 i (by omega))
        generalize hxi : xs.getD i 0 = v at hx hbad
        generalize hci : cellAt y z i = c at hg hbad
        simp (disch := omega) only [f1, f2, f3, f7, f8, hx, Nat.mul_one, ↓SXd, SXu, slBounds, ↓sop, ↓aop, ↓reduceIte, LV.cells, AOp.dst, LV.I, LV.B, LV.U, LV.S, LV.nil, Nat.reduceEqDiff, Nat.reduceAdd, Nat.reduceMul, Nat.reduceSub, Nat.reduceLeDiff, Nat.reduceBEq, Nat.reduceDiv, Nat.reduceMod, Int.reduceToNat, Int.reduceLT, Int.reduceLE, Int.reduceAdd, Int.reduceSub, Int.reduceMul, Int.reduceEq, Int.reduceNeg, reduceCtorEq, resV, resAll, ARes.ev, LV.flat, ite_true, ite_false, exists_eq_left', exists_eq_left, keyOf, implies_true, fillC, capOf]
        refine callK_of (h_l1In) ?_
        simp (disch := omega) only [f1, f2, f3, f7, f8, ↓SXd, SXu, slBounds, ↓sop, ↓aop, ↓reduceIte, LV.cells, AOp.dst, LV.I, LV.B, LV.U, LV.S, LV.nil, Nat.reduceEqDiff, Nat.reduceAdd, Nat.reduceMul, Nat.reduceSub, Nat.reduceLeDiff, Nat.reduceBEq, Nat.reduceDiv, Nat.reduceMod, Int.reduceToNat, Int.reduceLT, Int.reduceLE, Int.reduceAdd, Int.reduceSub, Int.reduceMul, Int.reduceEq, Int.reduceNeg, reduceCtorEq, resV, resAll, ARes.ev, LV.flat, ite_true, ite_false, exists_eq_left', exists_eq_left, keyOf, implies_true, fillC, capOf]
        by_cases hr : -1 ≤ v ∧ v ≤ (L.length : Int) - 1
        · rw [decide_eq_true hr]
          simp (disch := omega) only [f1, f2, f3, f7, f8, hx, hg, Cell.row, Nat.mul_one, Nat.zero_add, ↓SXd, SXu, slBounds, ↓sop, ↓aop, ↓reduceIte, LV.cells, AOp.dst, LV.I, LV.B, LV.U, LV.S, LV.nil, Nat.reduceEqDiff, Nat.reduceAdd, Nat.reduceMul, Nat.reduceSub, Nat.reduceLeDiff, Nat.reduceBEq, Nat.reduceDiv, Nat.reduceMod, Int.reduceToNat, Int.reduceLT, Int.reduceLE, Int.reduceAdd, Int.reduceSub, Int.reduceMul, Int.reduceEq, Int.reduceNeg, reduceCtorEq, resV, resAll, ARes.ev, LV.flat, ite_true, ite_false, exists_eq_left', exists_eq_left, keyOf, implies_true, fillC, capOf]
          refine callK_of (h_l2Has h.app (by omega)) ?_
          simp (disch := omega) only [f1, f2, f3, f7, f8, ↓SXd, SXu, slBounds, ↓sop, ↓aop, ↓reduceIte, LV.cells, AOp.dst, LV.I, LV.B, LV.U, LV.S, LV.nil, Nat.reduceEqDiff, Nat.reduceAdd, Nat.reduceMul, Nat.reduceSub, Nat.reduceLeDiff, Nat.reduceBEq, Nat.reduceDiv, Nat.reduceMod, Int.reduceToNat, Int.reduceLT, Int.reduceLE, Int.reduceAdd, Int.reduceSub, Int.reduceMul, Int.reduceEq, Int.reduceNeg, reduceCtorEq, resV, resAll, ARes.ev, LV.flat, ite_true, ite_false, exists_eq_left', exists_eq_left, keyOf, implies_true, fillC, capOf]
          rw [cell_eta]
          by_cases hneg : v < 0
          · by_cases hm : c ∈ cs
            · rw [decide_eq_true hm, decide_eq_true hneg]
              simp (disch := omega) only [f1, f2, f3, f7, f8, ↓SXd, SXu, slBounds, ↓sop, ↓aop, ↓reduceIte, LV.cells, AOp.dst, LV.I, LV.B, LV.U, LV.S, LV.nil, Nat.reduceEqDiff, Nat.reduceAdd, Nat.reduceMul, Nat.reduceSub, Nat.reduceLeDiff, Nat.reduceBEq, Nat.reduceDiv, Nat.reduceMod, Int.reduceToNat, Int.reduceLT, Int.reduceLE, Int.reduceAdd, Int.reduceSub, Int.reduceMul, Int.reduceEq, Int.reduceNeg, reduceCtorEq, resV, resAll, ARes.ev, LV.flat, ite_true, ite_false, exists_eq_left', exists_eq_left, keyOf, implies_true, fillC, capOf]
              exact ⟨m - 1, by omega, i + 1, by omega, rfl, fun j hj => by
                rcases Nat.lt_or_ge j i with h3 | h3
                · exact hall j h3
                · rw [show j = i by omega, hxi, hci]; exact ⟨hr, ⟨fun _ => hm, fun _ => hneg⟩⟩, f1, f2, f3, f7, eqI (natI _)⟩
            · rw [decide_eq_false hm, decide_eq_true hneg, show (true == false) = false from rfl]
              simp (disch := omega) only [f1, f2, f3, f7, f8, ↓SXd, SXu, slBounds, ↓sop, ↓aop, ↓reduceIte, LV.cells, AOp.dst, LV.I, LV.B, LV.U, LV.S, LV.nil, Nat.reduceEqDiff, Nat.reduceAdd, Nat.reduceMul, Nat.reduceSub, Nat.reduceLeDiff, Nat.reduceBEq, Nat.reduceDiv, Nat.reduceMod, Int.reduceToNat, Int.reduceLT, Int.reduceLE, Int.reduceAdd, Int.reduceSub, Int.reduceMul, Int.reduceEq, Int.reduceNeg, reduceCtorEq, resV, resAll, ARes.ev, LV.flat, ite_true, ite_false, exists_eq_left', exists_eq_left, keyOf, implies_true, fillC, capOf]
              exact hno (hbad fun hh => hm (hh.2.1 hneg)) (Pre.app _ _)
          · by_cases hm : c ∈ cs
            · rw [decide_eq_true hm, decide_eq_false hneg, show (false == true) = false from rfl]
              simp (disch := omega) only [f1, f2, f3, f7, f8, ↓SXd, SXu, slBounds, ↓sop, ↓aop, ↓reduceIte, LV.cells, AOp.dst, LV.I, LV.B, LV.U, LV.S, LV.nil, Nat.reduceEqDiff, Nat.reduceAdd, Nat.reduceMul, Nat.reduceSub, Nat.reduceLeDiff, Nat.reduceBEq, Nat.reduceDiv, Nat.reduceMod, Int.reduceToNat, Int.reduceLT, Int.reduceLE, Int.reduceAdd, Int.reduceSub, Int.reduceMul, Int.reduceEq, Int.reduceNeg, reduceCtorEq, resV, resAll, ARes.ev, LV.flat, ite_true, ite_false, exists_eq_left', exists_eq_left, keyOf, implies_true, fillC, capOf]
              exact hno (hbad fun hh => hneg (hh.2.2 hm)) (Pre.app _ _)
            · rw [decide_eq_false hm, decide_eq_false hneg]
              simp (disch := omega) only [f1, f2, f3, f7, f8, ↓SXd, SXu, slBounds, ↓sop, ↓aop, ↓reduceIte, LV.cells, AOp.dst, LV.I, LV.B, LV.U, LV.S, LV.nil, Nat.reduceEqDiff, Nat.reduceAdd, Nat.reduceMul, Nat.reduceSub, Nat.reduceLeDiff, Nat.reduceBEq, Nat.reduceDiv, Nat.reduceMod, Int.reduceToNat, Int.reduceLT, Int.reduceLE, Int.reduceAdd, Int.reduceSub, Int.reduceMul, Int.reduceEq, Int.reduceNeg, reduceCtorEq, resV, resAll, ARes.ev, LV.flat, ite_true, ite_false, exists_eq_left', exists_eq_left, keyOf, implies_true, fillC, capOf]
              exact ⟨m - 1, by omega, i + 1, by omega, rfl, fun j hj => by
                rcases Nat.lt_or_ge j i with h3 | h3
                · exact hall j h3
                · rw [show j = i by omega, hxi, hci]; exact ⟨hr, ⟨fun h => absurd h hneg, fun h => absurd h hm⟩⟩, f1, f2, f3, f7, eqI (natI _)⟩
        · rw [decide_eq_false hr]
          simp (disch := omega) only [f1, f2, f3, f7, f8, ↓SXd, SXu, slBounds, ↓sop, ↓aop, ↓reduceIte, LV.cells, AOp.dst, LV.I, LV.B, LV.U, LV.S, LV.nil, Nat.reduceEqDiff, Nat.reduceAdd, Nat.reduceMul, Nat.reduceSub, Nat.reduceLeDiff, Nat.reduceBEq, Nat.reduceDiv, Nat.reduceMod, Int.reduceToNat, Int.reduceLT, Int.reduceLE, Int.reduceAdd, Int.reduceSub, Int.reduceMul, Int.reduceEq, Int.reduceNeg, reduceCtorEq, resV, resAll, ARes.ev, LV.flat, ite_true, ite_false, exists_eq_left', exists_eq_left, keyOf, implies_true, fillC, capOf]
          exact hno (hbad fun hh => hr hh.1) (Pre.app _ _)
      · simp (disch := omega) only [f1, f2, f3, f7, f8, ↓SXd, SXu, slBounds, ↓sop, ↓aop, ↓reduceIte, LV.cells, AOp.dst, LV.I, LV.B, LV.U, LV.S, LV.nil, Nat.reduceEqDiff, Nat.reduceAdd, Nat.reduceMul, Nat.reduceSub, Nat.reduceLeDiff, Nat.reduceBEq, Nat.reduceDiv, Nat.reduceMod, Int.reduceToNat, Int.reduceLT, Int.reduceLE, Int.reduceAdd, Int.reduceSub, Int.reduceMul, Int.reduceEq, Int.reduceNeg, reduceCtorEq, resV, resAll, ARes.ev, LV.flat, ite_true, ite_false, exists_eq_left', exists_eq_left, keyOf, implies_true, fillC, capOf]
        have hiv : i = vol x y z := by omega
        rw [hiv] at hall
        clear f8
        refine ev_loop (fun m fr M' => ∃ k : Nat, k + m = L.length ∧ Pre M M' ∧ Live M' (M.length + 1) (.row (triL (cellsOf x y z)) true 3) ∧ (∀ j, j < k → DiffOK x y z L xs j) ∧
          fr 1 = .ref u 0 L.length ∧ fr 2 = .ref q r xs.length ∧ fr 7 = .ref (M.length + 1) 0 (cellsOf x y z).length ∧ fr 9 = .I k) L.length
          ⟨0, by omega, Pre.app _ _, Live.newj rfl, by omega, f1, f2, f7, rfl⟩ ?_
        clear f1 f2 f3 f7
        rintro m fr M' ⟨k, hk, hpre, ball, hdif, f1, f2, f7, f9⟩
        simp (disch := omega) only [f1, f2, f7, f9, ↓SXd, SXu, slBounds, ↓sop, ↓aop, ↓reduceIte, LV.cells, AOp.dst, LV.I, LV.B, LV.U, LV.S, LV.nil, Nat.reduceEqDiff, Nat.reduceAdd, Nat.reduceMul, Nat.reduceSub, Nat.reduceLeDiff, Nat.reduceBEq, Nat.reduceDiv, Nat.reduceMod, Int.reduceToNat, Int.reduceLT, Int.reduceLE, Int.reduceAdd, Int.reduceSub, Int.reduceMul, Int.reduceEq, Int.reduceNeg, reduceCtorEq, resV, resAll, ARes.ev, LV.flat, ite_true, ite_false, exists_eq_left', exists_eq_left, keyOf, implies_true, fillC, capOf]
        refine condC_dec (fun hlt2 => ?_) (fun hlt2 => ?_)
        · have hkL : k < L.length := by omega
          have hbal := ball.lt
          simp (disch := omega) only [f1, f2, f7, f9, ↓SXd, SXu, slBounds, ↓sop, ↓aop, ↓reduceIte, LV.cells, AOp.dst, LV.I, LV.B, LV.U, LV.S, LV.nil, Nat.reduceEqDiff, Nat.reduceAdd, Nat.reduceMul, Nat.reduceSub, Nat.reduceLeDiff, Nat.reduceBEq, Nat.reduceDiv, Nat.reduceMod, Int.reduceToNat, Int.reduceLT, Int.reduceLE, Int.reduceAdd, Int.reduceSub, Int.reduceMul, Int.reduceEq, Int.reduceNeg, reduceCtorEq, resV, resAll, ARes.ev, LV.flat, ite_true, ite_false, exists_eq_left', exists_eq_left, keyOf, implies_true, fillC, capOf]
          refine ev_loop (fun m2 fr2 M2 => ∃ i w : Nat, i + m2 = (cellsOf x y z).length ∧ Pre M M2 ∧ Live M2 (M.length + 1) (.row (triL (cellsOf x y z)) true 3) ∧ Live M2 w (.row (triL (((cellsOf x y z).take i).filter fun c => decide (atL y z xs c = k))) true 3) ∧ M.length + 1 < w ∧
            fr2 1 = .ref u 0 L.length ∧ fr2 2 = .ref q r xs.length ∧ fr2 7 = .ref (M.length + 1) 0 (cellsOf x y z).length ∧ fr2 9 = .I k ∧ fr2 10 = .ref w 0 (((cellsOf x y z).take i).filter fun c => decide (atL y z xs c = k)).length ∧ fr2 11 = .I i) (cellsOf x y z).length
            ⟨0, M'.length, by omega, hpre.app', ball.app, Live.new, by omega, f1, f2, f7, f9, rfl, rfl⟩ ?_
          rintro m2 fr2 M2 ⟨i, w, hi, p2, c2, cw, hw, g1, g2, g7, g9, g10, g11⟩
          simp (disch := omega) only [g1, g2, g7, g9, g10, g11, ↓SXd, SXu, slBounds, ↓sop, ↓aop, ↓reduceIte, LV.cells, AOp.dst, LV.I, LV.B, LV.U, LV.S, LV.nil, Nat.reduceEqDiff, Nat.reduceAdd, Nat.reduceMul, Nat.reduceSub, Nat.reduceLeDiff, Nat.reduceBEq, Nat.reduceDiv, Nat.reduceMod, Int.reduceToNat, Int.reduceLT, Int.reduceLE, Int.reduceAdd, Int.reduceSub, Int.reduceMul, Int.reduceEq, Int.reduceNeg, reduceCtorEq, resV, resAll, ARes.ev, LV.flat, ite_true, ite_false, exists_eq_left', exists_eq_left, keyOf, implies_true, fillC, capOf]
          refine condC_dec (fun hlt3 => ?_) (fun hlt3 => ?_)
          · have hil : i < (cellsOf x y z).length := by omega
            have hx := Ints.get (hX.pre p2) (k := i) (by omega)
            have hg := c2.tri0 hil
            have hts : (cellsOf x y z).take (i + 1) = (cellsOf x y z).take i ++ [(cellsOf x y z).getD i default] := by
              rw [List.take_succ, List.getElem?_eq_getElem hil]; simp [hil]
            have hstep : ((cellsOf x y z).take (i + 1)).filter (fun c => decide (atL y z xs c = k)) = ((cellsOf x y z).take i).filter (fun c => decide (atL y z xs c = k)) ++ (if decide (atL y z xs ((cellsOf x y z).getD i default) = k) = true then [(cellsOf x y z).getD i default] else []) := by
              rw [hts, List.filter_append, List.filter_cons, List.filter_nil]
            have hfl := List.length_filter_le (fun c => decide (atL y z xs c = k)) ((cellsOf x y z).take i)
            have htl := List.length_take_le i (cellsOf x y z)
            rw [hce i (by omega)] at hstep hg
            rw [hat i (by omega)] at hstep
            generalize cellAt y z i = c at hstep hg
            generalize xs.getD i 0 = v at hx hstep
            by_cases hvk : v = k
            · rw [if_pos (by simpa using hvk)] at hstep
              simp (disch := omega) only [g1, g2, g7, g9, g10, g11, hx, hvk, hg, Cell.row, splice, Nat.mul_one, ↓SXd, SXu, slBounds, ↓sop, ↓aop, ↓reduceIte, LV.cells, AOp.dst, LV.I, LV.B, LV.U, LV.S, LV.nil, Nat.reduceEqDiff, Nat.reduceAdd, Nat.reduceMul, Nat.reduceSub, Nat.reduceLeDiff, Nat.reduceBEq, Nat.reduceDiv, Nat.reduceMod, Int.reduceToNat, Int.reduceLT, Int.reduceLE, Int.reduceAdd, Int.reduceSub, Int.reduceMul, Int.reduceEq, Int.reduceNeg, reduceCtorEq, resV, resAll, ARes.ev, LV.flat, ite_true, ite_false, exists_eq_left', exists_eq_left, keyOf, implies_true, fillC, capOf]
              refine appendK_cell cw (by omega) fun N e1 e2 e3 => ?_
              simp (disch := omega) only [g1, g2, g7, g9, g10, g11, ↓SXd, SXu, slBounds, ↓sop, ↓aop, ↓reduceIte, LV.cells, AOp.dst, LV.I, LV.B, LV.U, LV.S, LV.nil, Nat.reduceEqDiff, Nat.reduceAdd, Nat.reduceMul, Nat.reduceSub, Nat.reduceLeDiff, Nat.reduceBEq, Nat.reduceDiv, Nat.reduceMod, Int.reduceToNat, Int.reduceLT, Int.reduceLE, Int.reduceAdd, Int.reduceSub, Int.reduceMul, Int.reduceEq, Int.reduceNeg, reduceCtorEq, resV, resAll, ARes.ev, LV.flat, ite_true, ite_false, exists_eq_left', exists_eq_left, keyOf, implies_true, fillC, capOf]
              have hcw := cw.lt
              rw [cell_eta, ← hstep] at e2
              exact ⟨m2 - 1, by omega, i + 1, M2.length + 1, by omega, pre_step p2 (by omega) e1 e3, live_step c2 (by omega) e3, e2, by omega, g1, g2, g7, g9, by rw [hstep, List.length_append, List.length_singleton]; rfl, eqI (natI _)⟩
            · rw [if_neg (by simpa using hvk), List.append_nil] at hstep
              simp (disch := omega) only [g1, g2, g7, g9, g10, g11, hx, hvk, Nat.mul_one, ↓SXd, SXu, slBounds, ↓sop, ↓aop, ↓reduceIte, LV.cells, AOp.dst, LV.I, LV.B, LV.U, LV.S, LV.nil, Nat.reduceEqDiff, Nat.reduceAdd, Nat.reduceMul, Nat.reduceSub, Nat.reduceLeDiff, Nat.reduceBEq, Nat.reduceDiv, Nat.reduceMod, Int.reduceToNat, Int.reduceLT, Int.reduceLE, Int.reduceAdd, Int.reduceSub, Int.reduceMul, Int.reduceEq, Int.reduceNeg, reduceCtorEq, resV, resAll, ARes.ev, LV.flat, ite_true, ite_false, exists_eq_left', exists_eq_left, keyOf, implies_true, fillC, capOf]
              rw [← hstep] at cw g10
              exact ⟨m2 - 1, by omega, i + 1, w, by omega, p2, c2, cw, hw, g1, g2, g7, g9, g10, eqI (natI _)⟩
          · have : i = (cellsOf x y z).length := by omega
            subst this
            rw [List.take_length] at cw g10
            change Live M2 w (.row (triL (fib x y z xs k)) true 3) at cw
            change fr2 10 = .ref w 0 (fib x y z xs k).length at g10
            have hfl : (fib x y z xs k).length ≤ 64 := pick_len hS _
            obtain ⟨v, o', hg, hT⟩ := (hP.pre p2).get hkL
            have hbad : ∀ {P : Prop}, (DiffOK x y z L xs k → P) → SpecPk x y z cs L xs → P := fun h1 h2 => h1 (h2.2.2.2 k hkL)
            have hpl : (L.getD k []).length ≤ 5 := (hA.1 _ (getD_mem' hkL)).1.2
            have hdk : DiffOK x y z L xs k ↔ (fib x y z xs k).length = (L.getD k []).length ∧ ∀ i, 1 ≤ i → i < (fib x y z xs k).length → ∀ d : Nat, d < 3 → Cell.at ((fib x y z xs k).getD i default) (d : Int) - Cell.at ((fib x y z xs k).getD 0 default) (d : Int) = Cell.at ((L.getD k []).getD i default) (d : Int) - Cell.at ((L.getD k []).getD 0 default) (d : Int) := Iff.rfl
            have hfin : ∀ c ∈ fib x y z xs k, c.inBox 4 4 4 := fun c hc => box4 hS ((mem_pick hS).1 hc).1
            have hlin : ∀ c ∈ L.getD k [], c.inBox 4 4 4 := fun c hc => (hA.1 _ (getD_mem' hkL)).2.1.mem hc
            generalize fib x y z xs k = Q at cw g10 hfl hdk hfin
            generalize L.getD k [] = l at hg hT hpl hdk hlin
            simp (disch := omega) only [g1, g2, g7, g9, g10, g11, hg, Nat.mul_one, Nat.zero_add, ↓SXd, SXu, slBounds, ↓sop, ↓aop, ↓reduceIte, LV.cells, AOp.dst, LV.I, LV.B, LV.U, LV.S, LV.nil, Nat.reduceEqDiff, Nat.reduceAdd, Nat.reduceMul, Nat.reduceSub, Nat.reduceLeDiff, Nat.reduceBEq, Nat.reduceDiv, Nat.reduceMod, Int.reduceToNat, Int.reduceLT, Int.reduceLE, Int.reduceAdd, Int.reduceSub, Int.reduceMul, Int.reduceEq, Int.reduceNeg, reduceCtorEq, resV, resAll, ARes.ev, LV.flat, ite_true, ite_false, exists_eq_left', exists_eq_left, keyOf, implies_true, fillC, capOf]
            by_cases hlen : (Q.length : Int) = l.length
            · have hlen' : Q.length = l.length := by omega
              simp (disch := omega) only [g1, g2, g7, g9, g10, g11, hlen, ↓SXd, SXu, slBounds, ↓sop, ↓aop, ↓reduceIte, LV.cells, AOp.dst, LV.I, LV.B, LV.U, LV.S, LV.nil, Nat.reduceEqDiff, Nat.reduceAdd, Nat.reduceMul, Nat.reduceSub, Nat.reduceLeDiff, Nat.reduceBEq, Nat.reduceDiv, Nat.reduceMod, Int.reduceToNat, Int.reduceLT, Int.reduceLE, Int.reduceAdd, Int.reduceSub, Int.reduceMul, Int.reduceEq, Int.reduceNeg, reduceCtorEq, resV, resAll, ARes.ev, LV.flat, ite_true, ite_false, exists_eq_left', exists_eq_left, keyOf, implies_true, fillC, capOf]
              refine ev_loop (fun m3 fr3 M3 => ∃ i : Nat, i + m3 = Q.length + 1 ∧ 1 ≤ i ∧ M3 = M2 ∧ (∀ j, 1 ≤ j → j < i → ∀ d : Nat, d < 3 → Cell.at (Q.getD j default) (d : Int) - Cell.at (Q.getD 0 default) (d : Int) = Cell.at (l.getD j default) (d : Int) - Cell.at (l.getD 0 default) (d : Int)) ∧
                fr3 1 = .ref u 0 L.length ∧ fr3 2 = .ref q r xs.length ∧ fr3 7 = .ref (M.length + 1) 0 (cellsOf x y z).length ∧ fr3 9 = .I k ∧ fr3 10 = .ref w 0 Q.length ∧ fr3 12 = .I i) Q.length
                ⟨1, by omega, by omega, rfl, by omega, g1, g2, g7, g9, g10, rfl⟩ ?_
              rintro m3 fr3 M3 ⟨i, hi3, hi1, rfl, hok, q1, q2, q7, q9, q10, q12⟩
              simp (disch := omega) only [q1, q2, q7, q9, q10, q12, ↓SXd, SXu, slBounds, ↓sop, ↓aop, ↓reduceIte, LV.cells, AOp.dst, LV.I, LV.B, LV.U, LV.S, LV.nil, Nat.reduceEqDiff, Nat.reduceAdd, Nat.reduceMul, Nat.reduceSub, Nat.reduceLeDiff, Nat.reduceBEq, Nat.reduceDiv, Nat.reduceMod, Int.reduceToNat, Int.reduceLT, Int.reduceLE, Int.reduceAdd, Int.reduceSub, Int.reduceMul, Int.reduceEq, Int.reduceNeg, reduceCtorEq, resV, resAll, ARes.ev, LV.flat, ite_true, ite_false, exists_eq_left', exists_eq_left, keyOf, implies_true, fillC, capOf]
              refine condC_dec (fun hlt4 => ?_) (fun hlt4 => ?_)
              · have hiQ : i < Q.length := by omega
                have hQi := hfin _ (getD_mem' (d := default) hiQ)
                have hQ0 := hfin _ (getD_mem' (d := default) (show 0 < Q.length by omega))
                have hli := hlin _ (getD_mem' (d := default) (show i < l.length by omega))
                have hl0 := hlin _ (getD_mem' (d := default) (show 0 < l.length by omega))
                have A := Tri.get_a cw.has hiQ
                have B := Tri.get_b cw.has hiQ
                have C := Tri.get_c cw.has hiQ
                have A0 := Tri.get_a cw.has (k := 0) (by omega)
                have B0 := Tri.get_b cw.has (k := 0) (by omega)
                have C0 := Tri.get_c cw.has (k := 0) (by omega)
                have D := Tri.get_a hT (k := i) (by omega)
                have E := Tri.get_b hT (k := i) (by omega)
                have F' := Tri.get_c hT (k := i) (by omega)
                have D0 := Tri.get_a hT (k := 0) (by omega)
                have E0 := Tri.get_b hT (k := 0) (by omega)
                have F0 := Tri.get_c hT (k := 0) (by omega)
                have hnext : (∀ d : Nat, d < 3 → Cell.at (Q.getD i default) (d : Int) - Cell.at (Q.getD 0 default) (d : Int) = Cell.at (l.getD i default) (d : Int) - Cell.at (l.getD 0 default) (d : Int)) → ∀ j, 1 ≤ j → j < i + 1 → ∀ d : Nat, d < 3 → Cell.at (Q.getD j default) (d : Int) - Cell.at (Q.getD 0 default) (d : Int) = Cell.at (l.getD j default) (d : Int) - Cell.at (l.getD 0 default) (d : Int) := fun h j hj1 hj2 => by
                  rcases Nat.lt_or_ge j i with h3 | h3
                  · exact hok j hj1 h3
                  · rw [show j = i by omega]; exact h
                have hbad2 : ∀ d : Nat, d < 3 → ¬ (Cell.at (Q.getD i default) (d : Int) - Cell.at (Q.getD 0 default) (d : Int) = Cell.at (l.getD i default) (d : Int) - Cell.at (l.getD 0 default) (d : Int)) → ¬ SpecPk x y z cs L xs := fun d hd hne => hbad fun hh => hne ((hdk.1 hh).2 i hi1 hiQ d hd)
                rw [Nat.zero_add] at A B C
                rw [Nat.zero_mul, Nat.add_zero] at A0 B0 C0 D0 E0 F0
                generalize Q.getD i default = ci at hQi A B C hnext hbad2
                generalize Q.getD 0 default = c0 at hQ0 A0 B0 C0 hnext hbad2 hok
                generalize l.getD i default = di at hli D E F' hnext hbad2
                generalize l.getD 0 default = d0 at hl0 D0 E0 F0 hnext hbad2 hok
                obtain ⟨⟨_, _⟩, ⟨_, _⟩, ⟨_, _⟩⟩ := hQi
                obtain ⟨⟨_, _⟩, ⟨_, _⟩, ⟨_, _⟩⟩ := hQ0
                obtain ⟨⟨_, _⟩, ⟨_, _⟩, ⟨_, _⟩⟩ := hli
                obtain ⟨⟨_, _⟩, ⟨_, _⟩, ⟨_, _⟩⟩ := hl0
                simp (disch := omega) only [q1, q2, q7, q9, q10, q12, ↓SXd, SXu, slBounds, ↓sop, ↓aop, ↓reduceIte, LV.cells, AOp.dst, LV.I, LV.B, LV.U, LV.S, LV.nil, Nat.reduceEqDiff, Nat.reduceAdd, Nat.reduceMul, Nat.reduceSub, Nat.reduceLeDiff, Nat.reduceBEq, Nat.reduceDiv, Nat.reduceMod, Int.reduceToNat, Int.reduceLT, Int.reduceLE, Int.reduceAdd, Int.reduceSub, Int.reduceMul, Int.reduceEq, Int.reduceNeg, reduceCtorEq, resV, resAll, ARes.ev, LV.flat, ite_true, ite_false, exists_eq_left', exists_eq_left, keyOf, implies_true, fillC, capOf]
                refine ev_loop (fun m4 fr4 M4 => ∃ d : Nat, d + m4 = 3 ∧ M4 = M3 ∧ (∀ e : Nat, e < d → Cell.at ci (e : Int) - Cell.at c0 (e : Int) = Cell.at di (e : Int) - Cell.at d0 (e : Int)) ∧
                  fr4 1 = .ref u 0 L.length ∧ fr4 2 = .ref q r xs.length ∧ fr4 7 = .ref (M.length + 1) 0 (cellsOf x y z).length ∧ fr4 9 = .I k ∧ fr4 10 = .ref w 0 Q.length ∧ fr4 12 = .I i ∧ fr4 13 = .I d) 3
                  ⟨0, rfl, rfl, by omega, q1, q2, q7, q9, q10, q12, rfl⟩ ?_
                rintro m4 fr4 M4 ⟨d, hd, rfl, hde, r1, r2, r7, r9, r10, r12, r13⟩
                simp (disch := omega) only [r1, r2, r7, r9, r10, r12, r13, ↓SXd, SXu, slBounds, ↓sop, ↓aop, ↓reduceIte, LV.cells, AOp.dst, LV.I, LV.B, LV.U, LV.S, LV.nil, Nat.reduceEqDiff, Nat.reduceAdd, Nat.reduceMul, Nat.reduceSub, Nat.reduceLeDiff, Nat.reduceBEq, Nat.reduceDiv, Nat.reduceMod, Int.reduceToNat, Int.reduceLT, Int.reduceLE, Int.reduceAdd, Int.reduceSub, Int.reduceMul, Int.reduceEq, Int.reduceNeg, reduceCtorEq, resV, resAll, ARes.ev, LV.flat, ite_true, ite_false, exists_eq_left', exists_eq_left, keyOf, implies_true, fillC, capOf]
                refine condC_dec (fun hlt5 => ?_) (fun hlt5 => ?_)
                · have hext : Cell.at ci (d : Int) - Cell.at c0 (d : Int) = Cell.at di (d : Int) - Cell.at d0 (d : Int) → ∀ e : Nat, e < d + 1 → Cell.at ci (e : Int) - Cell.at c0 (e : Int) = Cell.at di (e : Int) - Cell.at d0 (e : Int) := fun h e he => by
                    rcases Nat.lt_or_ge e d with h3 | h3
                    · exact hde e h3
                    · rw [show e = d by omega]; exact h
                  rcases (show d = 0 ∨ d = 1 ∨ d = 2 by omega) with rfl | rfl | rfl
                  · by_cases he : ci.a - c0.a = di.a - d0.a
                    · simp (disch := omega) only [r1, r2, r7, r9, r10, r12, r13, A, A0, hg, D, D0, Nat.add_zero, Nat.mul_one, Nat.zero_add, Nat.zero_mul, he, ↓SXd, SXu, slBounds, ↓sop, ↓aop, ↓reduceIte, LV.cells, AOp.dst, LV.I, LV.B, LV.U, LV.S, LV.nil, Nat.reduceEqDiff, Nat.reduceAdd, Nat.reduceMul, Nat.reduceSub, Nat.reduceLeDiff, Nat.reduceBEq, Nat.reduceDiv, Nat.reduceMod, Int.reduceToNat, Int.reduceLT, Int.reduceLE, Int.reduceAdd, Int.reduceSub, Int.reduceMul, Int.reduceEq, Int.reduceNeg, reduceCtorEq, resV, resAll, ARes.ev, LV.flat, ite_true, ite_false, exists_eq_left', exists_eq_left, keyOf, implies_true, fillC, capOf]
                      exact ⟨m4 - 1, by omega, 1, by omega, rfl, hext he, r1, r2, r7, r9, r10, r12, rfl⟩
                    · simp (disch := omega) only [r1, r2, r7, r9, r10, r12, r13, A, A0, hg, D, D0, Nat.add_zero, Nat.mul_one, Nat.zero_add, Nat.zero_mul, he, ↓SXd, SXu, slBounds, ↓sop, ↓aop, ↓reduceIte, LV.cells, AOp.dst, LV.I, LV.B, LV.U, LV.S, LV.nil, Nat.reduceEqDiff, Nat.reduceAdd, Nat.reduceMul, Nat.reduceSub, Nat.reduceLeDiff, Nat.reduceBEq, Nat.reduceDiv, Nat.reduceMod, Int.reduceToNat, Int.reduceLT, Int.reduceLE, Int.reduceAdd, Int.reduceSub, Int.reduceMul, Int.reduceEq, Int.reduceNeg, reduceCtorEq, resV, resAll, ARes.ev, LV.flat, ite_true, ite_false, exists_eq_left', exists_eq_left, keyOf, implies_true, fillC, capOf]
                      exact hno (hbad2 0 (by omega) he) p2
                  · by_cases he : ci.b - c0.b = di.b - d0.b
                    · simp (disch := omega) only [r1, r2, r7, r9, r10, r12, r13, B, B0, hg, E, E0, Nat.add_zero, Nat.mul_one, Nat.zero_add, Nat.zero_mul, he, ↓SXd, SXu, slBounds, ↓sop, ↓aop, ↓reduceIte, LV.cells, AOp.dst, LV.I, LV.B, LV.U, LV.S, LV.nil, Nat.reduceEqDiff, Nat.reduceAdd, Nat.reduceMul, Nat.reduceSub, Nat.reduceLeDiff, Nat.reduceBEq, Nat.reduceDiv, Nat.reduceMod, Int.reduceToNat, Int.reduceLT, Int.reduceLE, Int.reduceAdd, Int.reduceSub, Int.reduceMul, Int.reduceEq, Int.reduceNeg, reduceCtorEq, resV, resAll, ARes.ev, LV.flat, ite_true, ite_false, exists_eq_left', exists_eq_left, keyOf, implies_true, fillC, capOf]
                      exact ⟨m4 - 1, by omega, 2, by omega, rfl, hext he, r1, r2, r7, r9, r10, r12, rfl⟩
                    · simp (disch := omega) only [r1, r2, r7, r9, r10, r12, r13, B, B0, hg, E, E0, Nat.add_zero, Nat.mul_one, Nat.zero_add, Nat.zero_mul, he, ↓SXd, SXu, slBounds, ↓sop, ↓aop, ↓reduceIte, LV.cells, AOp.dst, LV.I, LV.B, LV.U, LV.S, LV.nil, Nat.reduceEqDiff, Nat.reduceAdd, Nat.reduceMul, Nat.reduceSub, Nat.reduceLeDiff, Nat.reduceBEq, Nat.reduceDiv, Nat.reduceMod, Int.reduceToNat, Int.reduceLT, Int.reduceLE, Int.reduceAdd, Int.reduceSub, Int.reduceMul, Int.reduceEq, Int.reduceNeg, reduceCtorEq, resV, resAll, ARes.ev, LV.flat, ite_true, ite_false, exists_eq_left', exists_eq_left, keyOf, implies_true, fillC, capOf]
                      exact hno (hbad2 1 (by omega) he) p2
                  · by_cases he : ci.c - c0.c = di.c - d0.c
                    · simp (disch := omega) only [r1, r2, r7, r9, r10, r12, r13, C, C0, hg, F', F0, Nat.add_zero, Nat.mul_one, Nat.zero_add, Nat.zero_mul, he, ↓SXd, SXu, slBounds, ↓sop, ↓aop, ↓reduceIte, LV.cells, AOp.dst, LV.I, LV.B, LV.U, LV.S, LV.nil, Nat.reduceEqDiff, Nat.reduceAdd, Nat.reduceMul, Nat.reduceSub, Nat.reduceLeDiff, Nat.reduceBEq, Nat.reduceDiv, Nat.reduceMod, Int.reduceToNat, Int.reduceLT, Int.reduceLE, Int.reduceAdd, Int.reduceSub, Int.reduceMul, Int.reduceEq, Int.reduceNeg, reduceCtorEq, resV, resAll, ARes.ev, LV.flat, ite_true, ite_false, exists_eq_left', exists_eq_left, keyOf, implies_true, fillC, capOf]
                      exact ⟨m4 - 1, by omega, 3, by omega, rfl, hext he, r1, r2, r7, r9, r10, r12, rfl⟩
                    · simp (disch := omega) only [r1, r2, r7, r9, r10, r12, r13, C, C0, hg, F', F0, Nat.add_zero, Nat.mul_one, Nat.zero_add, Nat.zero_mul, he, ↓SXd, SXu, slBounds, ↓sop, ↓aop, ↓reduceIte, LV.cells, AOp.dst, LV.I, LV.B, LV.U, LV.S, LV.nil, Nat.reduceEqDiff, Nat.reduceAdd, Nat.reduceMul, Nat.reduceSub, Nat.reduceLeDiff, Nat.reduceBEq, Nat.reduceDiv, Nat.reduceMod, Int.reduceToNat, Int.reduceLT, Int.reduceLE, Int.reduceAdd, Int.reduceSub, Int.reduceMul, Int.reduceEq, Int.reduceNeg, reduceCtorEq, resV, resAll, ARes.ev, LV.flat, ite_true, ite_false, exists_eq_left', exists_eq_left, keyOf, implies_true, fillC, capOf]
                      exact hno (hbad2 2 (by omega) he) p2
                · have : d = 3 := by omega
                  subst this
                  simp (disch := omega) only [r1, r2, r7, r9, r10, r12, r13, ↓SXd, SXu, slBounds, ↓sop, ↓aop, ↓reduceIte, LV.cells, AOp.dst, LV.I, LV.B, LV.U, LV.S, LV.nil, Nat.reduceEqDiff, Nat.reduceAdd, Nat.reduceMul, Nat.reduceSub, Nat.reduceLeDiff, Nat.reduceBEq, Nat.reduceDiv, Nat.reduceMod, Int.reduceToNat, Int.reduceLT, Int.reduceLE, Int.reduceAdd, Int.reduceSub, Int.reduceMul, Int.reduceEq, Int.reduceNeg, reduceCtorEq, resV, resAll, ARes.ev, LV.flat, ite_true, ite_false, exists_eq_left', exists_eq_left, keyOf, implies_true, fillC, capOf]
                  exact ⟨m3 - 1, by omega, i + 1, by omega, by omega, rfl, hnext hde, r1, r2, r7, r9, r10, eqI (natI _)⟩
              · have hdn : DiffOK x y z L xs k := hdk.2 ⟨hlen', fun j hj1 hj2 => hok j hj1 (by omega)⟩
                simp (disch := omega) only [q1, q2, q7, q9, q10, q12, ↓SXd, SXu, slBounds, ↓sop, ↓aop, ↓reduceIte, LV.cells, AOp.dst, LV.I, LV.B, LV.U, LV.S, LV.nil, Nat.reduceEqDiff, Nat.reduceAdd, Nat.reduceMul, Nat.reduceSub, Nat.reduceLeDiff, Nat.reduceBEq, Nat.reduceDiv, Nat.reduceMod, Int.reduceToNat, Int.reduceLT, Int.reduceLE, Int.reduceAdd, Int.reduceSub, Int.reduceMul, Int.reduceEq, Int.reduceNeg, reduceCtorEq, resV, resAll, ARes.ev, LV.flat, ite_true, ite_false, exists_eq_left', exists_eq_left, keyOf, implies_true, fillC, capOf]
                exact ⟨m - 1, by omega, k + 1, by omega, p2, c2, fun j hj => by
                  rcases Nat.lt_or_ge j k with h3 | h3
                  · exact hdif j h3
                  · rw [show j = k by omega]; exact hdn, q1, q2, q7, eqI (natI _)⟩
            · simp (disch := omega) only [g1, g2, g7, g9, g10, g11, hlen, ↓SXd, SXu, slBounds, ↓sop, ↓aop, ↓reduceIte, LV.cells, AOp.dst, LV.I, LV.B, LV.U, LV.S, LV.nil, Nat.reduceEqDiff, Nat.reduceAdd, Nat.reduceMul, Nat.reduceSub, Nat.reduceLeDiff, Nat.reduceBEq, Nat.reduceDiv, Nat.reduceMod, Int.reduceToNat, Int.reduceLT, Int.reduceLE, Int.reduceAdd, Int.reduceSub, Int.reduceMul, Int.reduceEq, Int.reduceNeg, reduceCtorEq, resV, resAll, ARes.ev, LV.flat, ite_true, ite_false, exists_eq_left', exists_eq_left, keyOf, implies_true, fillC, capOf]
              exact hno (hbad fun hh => hlen (by have := (hdk.1 hh).1; omega)) p2
        · simp (disch := omega) only [f1, f2, f7, f9, ↓SXd, SXu, slBounds, ↓sop, ↓aop, ↓reduceIte, LV.cells, AOp.dst, LV.I, LV.B, LV.U, LV.S, LV.nil, Nat.reduceEqDiff, Nat.reduceAdd, Nat.reduceMul, Nat.reduceSub, Nat.reduceLeDiff, Nat.reduceBEq, Nat.reduceDiv, Nat.reduceMod, Int.reduceToNat, Int.reduceLT, Int.reduceLE, Int.reduceAdd, Int.reduceSub, Int.reduceMul, Int.reduceEq, Int.reduceNeg, reduceCtorEq, resV, resAll, ARes.ev, LV.flat, ite_true, ite_false, exists_eq_left', exists_eq_left, keyOf, implies_true, fillC, capOf]
          rw [decide_eq_true (show SpecPk x y z cs L xs from ⟨h1', h2', hall, fun j hj => hdif j (by omega)⟩)]
          exact cmp_pre hpre rfl
    · simp (disch := omega) only [h2, ↓SXd, SXu, slBounds, ↓sop, ↓aop, ↓reduceIte, LV.cells, AOp.dst, LV.I, LV.B, LV.U, LV.S, LV.nil, Nat.reduceEqDiff, Nat.reduceAdd, Nat.reduceMul, Nat.reduceSub, Nat.reduceLeDiff, Nat.reduceBEq, Nat.reduceDiv, Nat.reduceMod, Int.reduceToNat, Int.reduceLT, Int.reduceLE, Int.reduceAdd, Int.reduceSub, Int.reduceMul, Int.reduceEq, Int.reduceNeg, reduceCtorEq, resV, resAll, ARes.ev, LV.flat, ite_true, ite_false, exists_eq_left', exists_eq_left, keyOf, implies_true, fillC, capOf]
      exact hno (fun hp => h2 (by have := hp.2.1; omega)) (Pre.app _ _)
  · simp (disch := omega) only [h1, ↓SXd, SXu, slBounds, ↓sop, ↓aop, ↓reduceIte, LV.cells, AOp.dst, LV.I, LV.B, LV.U, LV.S, LV.nil, Nat.reduceEqDiff, Nat.reduceAdd, Nat.reduceMul, Nat.reduceSub, Nat.reduceLeDiff, Nat.reduceBEq, Nat.reduceDiv, Nat.reduceMod, Int.reduceToNat, Int.reduceLT, Int.reduceLE, Int.reduceAdd, Int.reduceSub, Int.reduceMul, Int.reduceEq, Int.reduceNeg, reduceCtorEq, resV, resAll, ARes.ev, LV.flat, ite_true, ite_false, exists_eq_left', exists_eq_left, keyOf, implies_true, fillC, capOf]
    exact hno (fun hp => h1 (by have := hp.1; omega)) (Pre.app _ _)
noncomputable def pkP (x y z : Int) (cs : List Cell) (L : List (List Cell)) (xs : List Int) : Bool × Bool := if AskOK x y z cs L then (decide (SpecPk x y z cs L xs), true) else (false, false)
end Go.Ab

/- Contracts: FaultPlanes, the reference's side. -/
namespace Go.Ab
open Go
set_option linter.unusedSimpArgs false
set_option linter.unusedVariables false
set_option maxRecDepth 20000

/-- Cell i lies before plane k, cell j not, and both are of one piece. -/
def CrossAt (y z : Int) (xs : List Int) (d k i j : Nat) : Prop := 0 ≤ xs.getD i 0 ∧ xs.getD j 0 = xs.getD i 0 ∧ (cellAt y z i).at (d : Int) < k ∧ (k : Int) ≤ (cellAt y z j).at (d : Int)
def Crossed (x y z : Int) (xs : List Int) (d k : Nat) : Prop := ∃ i, i < vol x y z ∧ ∃ j, j < vol x y z ∧ CrossAt y z xs d k i j
noncomputable instance {x y z : Int} {xs : List Int} {d k : Nat} : Decidable (Crossed x y z xs d k) := Classical.propDecidable _
noncomputable def plK (x y z : Int) (xs : List Int) (d : Nat) : Nat → List Int
  | 0 => []
  | k + 1 => plK x y z xs d k ++ (if 1 ≤ k ∧ ¬ Crossed x y z xs d k then [(d : Int), (k : Int)] else [])
noncomputable def plD (x y z : Int) (xs : List Int) : Nat → List Int
  | 0 => []
  | d + 1 => plD x y z xs d ++ plK x y z xs d (sideOf x y z (d : Int)).toNat
theorem plK_one {x y z : Int} {xs : List Int} {d : Nat} : plK x y z xs d 1 = [] := by
  show [] ++ _ = _
  rw [if_neg (fun h => Nat.not_succ_le_zero _ h.1)]; rfl
theorem plK_len {x y z : Int} {xs : List Int} {d : Nat} : ∀ {k : Nat}, ∃ n, (plK x y z xs d k).length = n * 2 ∧ n ≤ k
  | 0 => ⟨0, rfl, by omega⟩
  | k + 1 => by
    obtain ⟨n, h1, h2⟩ := plK_len (x := x) (y := y) (z := z) (xs := xs) (d := d) (k := k)
    unfold plK
    split
    · exact ⟨n + 1, by rw [List.length_append, h1]; simp only [List.length_cons, List.length_nil]; omega, by omega⟩
    · exact ⟨n, by rw [List.append_nil, h1], by omega⟩
theorem plD_len {x y z : Int} (hS : Sides x y z) {xs : List Int} : ∀ {d : Nat}, ∃ n, (plD x y z xs d).length = n * 2 ∧ n ≤ 4 * d
  | 0 => ⟨0, rfl, by omega⟩
  | d + 1 => by
    obtain ⟨n, h1, h2⟩ := plD_len hS (xs := xs) (d := d)
    obtain ⟨n', h3, h4⟩ := plK_len (x := x) (y := y) (z := z) (xs := xs) (d := d) (k := (sideOf x y z (d : Int)).toNat)
    have := sideOf_in hS (d : Int)
    unfold plD
    exact ⟨n + n', by rw [List.length_append, h1, h3]; omega, by omega⟩
noncomputable def planesN (x y z : Int) (cs : List Cell) (L : List (List Cell)) (xs : List Int) : Option (List Int) := if AskOK x y z cs L ∧ SpecPk x y z cs L xs then some (plD x y z xs 3) else none
/-- A list of pairs of numbers, or none, and whether there is one. -/
def PairsRes (M : Mem) (r : Option (List Int)) (v : LV) (N : Mem) : Prop := ∃ w n, v = .tup [w, .B r.isSome] ∧ SlF N w n (r.getD []) ∧ n ≤ 100 ∧ Newer M w ∧ Pre M N

theorem h_sFaultPlanes {x y z : Int} {t o u q r : Nat} {cs : List Cell} {L : List (List Cell)} {xs : List Int} {M : Mem} (h : Tri M t o cs) (hn : cs.length ≤ 1000000000) (hP : Pcs M u L) (hL : L.length ≤ 1000000000) (hLs : ∀ l ∈ L, l.length ≤ 1000000000) (hX : Ints M q r xs) (hxn : xs.length ≤ 1000000000) :
    CallsR PG F.spec_FaultPlanes [.agg [.I x, .I y, .I z, .ref t o cs.length], .ref u 0 L.length, .ref q r xs.length] M (PairsRes M (planesN x y z cs L xs)) := by
  refine callsR_run K.spec_FaultPlanes rfl ?_
  simp (disch := omega) only [C.spec_FaultPlanes, ↓SXd, SXu, slBounds, ↓sop, ↓aop, ↓reduceIte, LV.cells, AOp.dst, LV.I, LV.B, LV.U, LV.S, LV.nil, Nat.reduceEqDiff, Nat.reduceAdd, Nat.reduceMul, Nat.reduceSub, Nat.reduceLeDiff, Nat.reduceBEq, Nat.reduceDiv, Nat.reduceMod, Int.reduceToNat, Int.reduceLT, Int.reduceLE, Int.reduceAdd, Int.reduceSub, Int.reduceMul, Int.reduceEq, Int.reduceNeg, reduceCtorEq, resV, resAll, ARes.ev, LV.flat, ite_true, ite_false, exists_eq_left', exists_eq_left, keyOf, implies_true, fillC, capOf]
  refine callK_of (h_l9Ask hP.app hL hLs h.app hn) ?_
  simp (disch := omega) only [↓SXd, SXu, slBounds, ↓sop, ↓aop, ↓reduceIte, LV.cells, AOp.dst, LV.I, LV.B, LV.U, LV.S, LV.nil, Nat.reduceEqDiff, Nat.reduceAdd, Nat.reduceMul, Nat.reduceSub, Nat.reduceLeDiff, Nat.reduceBEq, Nat.reduceDiv, Nat.reduceMod, Int.reduceToNat, Int.reduceLT, Int.reduceLE, Int.reduceAdd, Int.reduceSub, Int.reduceMul, Int.reduceEq, Int.reduceNeg, reduceCtorEq, resV, resAll, ARes.ev, LV.flat, ite_true, ite_false, exists_eq_left', exists_eq_left, keyOf, implies_true, fillC, capOf]
  unfold planesN
  have hbad : PairsRes M none (.tup [.ref (M.length + 1) 0 0, .B false]) (M ++ [some (.row [.I x, .I y, .I z, .ref t o cs.length] true 0), some (.row [] true 2)]) := ⟨_, 0, rfl, ⟨rfl, .inr ⟨_, rfl, Live.newj rfl⟩⟩, by omega, Newer.of (by omega), Pre.app _ _⟩
  by_cases hA : AskOK x y z cs L
  · rw [decide_eq_true hA]
    have hS := hA.2.1.1
    have hv := vol_cast hS
    simp (disch := omega) only [↓SXd, SXu, slBounds, ↓sop, ↓aop, ↓reduceIte, LV.cells, AOp.dst, LV.I, LV.B, LV.U, LV.S, LV.nil, Nat.reduceEqDiff, Nat.reduceAdd, Nat.reduceMul, Nat.reduceSub, Nat.reduceLeDiff, Nat.reduceBEq, Nat.reduceDiv, Nat.reduceMod, Int.reduceToNat, Int.reduceLT, Int.reduceLE, Int.reduceAdd, Int.reduceSub, Int.reduceMul, Int.reduceEq, Int.reduceNeg, reduceCtorEq, resV, resAll, ARes.ev, LV.flat, ite_true, ite_false, exists_eq_left', exists_eq_left, keyOf, implies_true, fillC, capOf]
    refine callK_of (h_l9Packing h.app hP.app hX.app hA hxn) ?_
    simp (disch := omega) only [↓SXd, SXu, slBounds, ↓sop, ↓aop, ↓reduceIte, LV.cells, AOp.dst, LV.I, LV.B, LV.U, LV.S, LV.nil, Nat.reduceEqDiff, Nat.reduceAdd, Nat.reduceMul, Nat.reduceSub, Nat.reduceLeDiff, Nat.reduceBEq, Nat.reduceDiv, Nat.reduceMod, Int.reduceToNat, Int.reduceLT, Int.reduceLE, Int.reduceAdd, Int.reduceSub, Int.reduceMul, Int.reduceEq, Int.reduceNeg, reduceCtorEq, resV, resAll, ARes.ev, LV.flat, ite_true, ite_false, exists_eq_left', exists_eq_left, keyOf, implies_true, fillC, capOf]
    by_cases hK : SpecPk x y z cs L xs
    · rw [if_pos ⟨hA, hK⟩, decide_eq_true hK]
      have hxl := hK.1
      have hcl : (cellsOf x y z).length = vol x y z := by simp [cellsOf]
      have hce : ∀ i, i < vol x y z → (cellsOf x y z).getD i default = cellAt y z i := fun i hi => by simp [cellsOf, hi]
      simp (disch := omega) only [↓SXd, SXu, slBounds, ↓sop, ↓aop, ↓reduceIte, LV.cells, AOp.dst, LV.I, LV.B, LV.U, LV.S, LV.nil, Nat.reduceEqDiff, Nat.reduceAdd, Nat.reduceMul, Nat.reduceSub, Nat.reduceLeDiff, Nat.reduceBEq, Nat.reduceDiv, Nat.reduceMod, Int.reduceToNat, Int.reduceLT, Int.reduceLE, Int.reduceAdd, Int.reduceSub, Int.reduceMul, Int.reduceEq, Int.reduceNeg, reduceCtorEq, resV, resAll, ARes.ev, LV.flat, ite_true, ite_false, exists_eq_left', exists_eq_left, keyOf, implies_true, fillC, capOf]
      refine callK_of (h_l2All hS) ?_
      simp (disch := omega) only [↓SXd, SXu, slBounds, ↓sop, ↓aop, ↓reduceIte, LV.cells, AOp.dst, LV.I, LV.B, LV.U, LV.S, LV.nil, Nat.reduceEqDiff, Nat.reduceAdd, Nat.reduceMul, Nat.reduceSub, Nat.reduceLeDiff, Nat.reduceBEq, Nat.reduceDiv, Nat.reduceMod, Int.reduceToNat, Int.reduceLT, Int.reduceLE, Int.reduceAdd, Int.reduceSub, Int.reduceMul, Int.reduceEq, Int.reduceNeg, reduceCtorEq, resV, resAll, ARes.ev, LV.flat, ite_true, ite_false, exists_eq_left', exists_eq_left, keyOf, implies_true, fillC, capOf]
      refine ev_loop (fun m fr M' => ∃ d w n : Nat, d + m = 3 ∧ Pre M M' ∧ Live M' M.length (.row [.I x, .I y, .I z, .ref t o cs.length] true 0) ∧ Live M' (M.length + 2) (.row (triL (cellsOf x y z)) true 3) ∧ Live M' w (.row (intL (plD x y z xs d)) true 2) ∧ (plD x y z xs d).length = n * 2 ∧ M.length < w ∧ w ≠ M.length + 2 ∧
        fr 2 = .ref q r xs.length ∧ fr 3 = .ptr M.length 0 ∧ fr 8 = .ref w 0 n ∧ fr 9 = .ref (M.length + 2) 0 (cellsOf x y z).length ∧ fr 10 = .I d) 3
        ⟨0, M.length + 1, 0, rfl, Pre.app _ _, Live.new, Live.newj rfl, Live.newj rfl, rfl, by omega, by omega, rfl, rfl, rfl, rfl, rfl⟩ ?_
      rintro m fr M' ⟨d, w, n, hd, hpre, b3, ball, bw, hwn, hw, hw2, f2, f3, f8, f9, f10⟩
      simp (disch := omega) only [f2, f3, f8, f9, f10, ↓SXd, SXu, slBounds, ↓sop, ↓aop, ↓reduceIte, LV.cells, AOp.dst, LV.I, LV.B, LV.U, LV.S, LV.nil, Nat.reduceEqDiff, Nat.reduceAdd, Nat.reduceMul, Nat.reduceSub, Nat.reduceLeDiff, Nat.reduceBEq, Nat.reduceDiv, Nat.reduceMod, Int.reduceToNat, Int.reduceLT, Int.reduceLE, Int.reduceAdd, Int.reduceSub, Int.reduceMul, Int.reduceEq, Int.reduceNeg, reduceCtorEq, resV, resAll, ARes.ev, LV.flat, ite_true, ite_false, exists_eq_left', exists_eq_left, keyOf, implies_true, fillC, capOf]
      refine condC_dec (fun hlt => ?_) (fun hlt => ?_)
      · have hd3 : d < 3 := by omega
        have hdir : Dir (d : Int) := by unfold Dir; omega
        have hsd := sideOf_in hS (d : Int)
        obtain ⟨nd, hnd1, hnd2⟩ := plD_len hS (xs := xs) (d := d)
        simp (disch := omega) only [f2, f3, f8, f9, f10, ↓SXd, SXu, slBounds, ↓sop, ↓aop, ↓reduceIte, LV.cells, AOp.dst, LV.I, LV.B, LV.U, LV.S, LV.nil, Nat.reduceEqDiff, Nat.reduceAdd, Nat.reduceMul, Nat.reduceSub, Nat.reduceLeDiff, Nat.reduceBEq, Nat.reduceDiv, Nat.reduceMod, Int.reduceToNat, Int.reduceLT, Int.reduceLE, Int.reduceAdd, Int.reduceSub, Int.reduceMul, Int.reduceEq, Int.reduceNeg, reduceCtorEq, resV, resAll, ARes.ev, LV.flat, ite_true, ite_false, exists_eq_left', exists_eq_left, keyOf, implies_true, fillC, capOf]
        refine ev_loop (fun m2 fr2 M2 => ∃ k w n : Nat, k + m2 = (sideOf x y z (d : Int)).toNat ∧ 1 ≤ k ∧ Pre M M2 ∧ Live M2 M.length (.row [.I x, .I y, .I z, .ref t o cs.length] true 0) ∧ Live M2 (M.length + 2) (.row (triL (cellsOf x y z)) true 3) ∧ Live M2 w (.row (intL (plD x y z xs d ++ plK x y z xs d k)) true 2) ∧ (plD x y z xs d ++ plK x y z xs d k).length = n * 2 ∧ M.length < w ∧ w ≠ M.length + 2 ∧
          fr2 2 = .ref q r xs.length ∧ fr2 3 = .ptr M.length 0 ∧ fr2 8 = .ref w 0 n ∧ fr2 9 = .ref (M.length + 2) 0 (cellsOf x y z).length ∧ fr2 10 = .I d ∧ fr2 11 = .I k) ((sideOf x y z (d : Int)).toNat - 1)
          ⟨1, w, n, by omega, by omega, hpre, b3, ball, by rw [plK_one, List.append_nil]; exact bw, by rw [plK_one, List.append_nil]; exact hwn, hw, hw2, f2, f3, f8, f9, f10, rfl⟩ ?_
        rintro m2 fr2 M2 ⟨k, w, n, hk, hk1, p2, c3, call, cw, hwn, hw, hw2, g2, g3, g8, g9, g10, g11⟩
        simp (disch := omega) only [g2, g3, g8, g9, g10, g11, c3.cells, ↓SXd, SXu, slBounds, ↓sop, ↓aop, ↓reduceIte, LV.cells, AOp.dst, LV.I, LV.B, LV.U, LV.S, LV.nil, Nat.reduceEqDiff, Nat.reduceAdd, Nat.reduceMul, Nat.reduceSub, Nat.reduceLeDiff, Nat.reduceBEq, Nat.reduceDiv, Nat.reduceMod, Int.reduceToNat, Int.reduceLT, Int.reduceLE, Int.reduceAdd, Int.reduceSub, Int.reduceMul, Int.reduceEq, Int.reduceNeg, reduceCtorEq, resV, resAll, ARes.ev, LV.flat, ite_true, ite_false, exists_eq_left', exists_eq_left, keyOf, implies_true, fillC, capOf]
        refine callK_of (h_l2Long hdir) ?_
        simp (disch := omega) only [g2, g3, g8, g9, g10, g11, ↓SXd, SXu, slBounds, ↓sop, ↓aop, ↓reduceIte, LV.cells, AOp.dst, LV.I, LV.B, LV.U, LV.S, LV.nil, Nat.reduceEqDiff, Nat.reduceAdd, Nat.reduceMul, Nat.reduceSub, Nat.reduceLeDiff, Nat.reduceBEq, Nat.reduceDiv, Nat.reduceMod, Int.reduceToNat, Int.reduceLT, Int.reduceLE, Int.reduceAdd, Int.reduceSub, Int.reduceMul, Int.reduceEq, Int.reduceNeg, reduceCtorEq, resV, resAll, ARes.ev, LV.flat, ite_true, ite_false, exists_eq_left', exists_eq_left, keyOf, implies_true, fillC, capOf]
        refine condC_dec (fun hlt2 => ?_) (fun hlt2 => ?_)
        · have hks : k < (sideOf x y z (d : Int)).toNat := by omega
          simp (disch := omega) only [g2, g3, g8, g9, g10, g11, ↓SXd, SXu, slBounds, ↓sop, ↓aop, ↓reduceIte, LV.cells, AOp.dst, LV.I, LV.B, LV.U, LV.S, LV.nil, Nat.reduceEqDiff, Nat.reduceAdd, Nat.reduceMul, Nat.reduceSub, Nat.reduceLeDiff, Nat.reduceBEq, Nat.reduceDiv, Nat.reduceMod, Int.reduceToNat, Int.reduceLT, Int.reduceLE, Int.reduceAdd, Int.reduceSub, Int.reduceMul, Int.reduceEq, Int.reduceNeg, reduceCtorEq, resV, resAll, ARes.ev, LV.flat, ite_true, ite_false, exists_eq_left', exists_eq_left, keyOf, implies_true, fillC, capOf]
          refine ev_loop (fun m3 fr3 M3 => ∃ (i : Nat) (cr : Bool), i + m3 = (cellsOf x y z).length ∧ M3 = M2 ∧ (cr = true ↔ ∃ i', i' < i ∧ ∃ j, j < vol x y z ∧ CrossAt y z xs d k i' j) ∧
            fr3 2 = .ref q r xs.length ∧ fr3 3 = .ptr M.length 0 ∧ fr3 8 = .ref w 0 n ∧ fr3 9 = .ref (M.length + 2) 0 (cellsOf x y z).length ∧ fr3 10 = .I d ∧ fr3 11 = .I k ∧ fr3 12 = .B cr ∧ fr3 13 = .I i) (cellsOf x y z).length
            ⟨0, false, by omega, rfl, by simp, g2, g3, g8, g9, g10, g11, rfl, rfl⟩ ?_
          rintro m3 fr3 M3 ⟨i, cr, hi, rfl, hcr, q2, q3, q8, q9, q10, q11, q12, q13⟩
          simp (disch := omega) only [q2, q3, q8, q9, q10, q11, q12, q13, ↓SXd, SXu, slBounds, ↓sop, ↓aop, ↓reduceIte, LV.cells, AOp.dst, LV.I, LV.B, LV.U, LV.S, LV.nil, Nat.reduceEqDiff, Nat.reduceAdd, Nat.reduceMul, Nat.reduceSub, Nat.reduceLeDiff, Nat.reduceBEq, Nat.reduceDiv, Nat.reduceMod, Int.reduceToNat, Int.reduceLT, Int.reduceLE, Int.reduceAdd, Int.reduceSub, Int.reduceMul, Int.reduceEq, Int.reduceNeg, reduceCtorEq, resV, resAll, ARes.ev, LV.flat, ite_true, ite_false, exists_eq_left', exists_eq_left, keyOf, implies_true, fillC, capOf]
          refine condC_dec (fun hlt3 => ?_) (fun hlt3 => ?_)
          · have hil : i < (cellsOf x y z).length := by omega
            have hxi := Ints.get (hX.pre p2) (k := i) (by omega)
            have hci := Tri.gets_at call.has hil hdir
            rw [hce i (by omega), Nat.zero_add, Int.toNat_natCast] at hci
            simp (disch := omega) only [q2, q3, q8, q9, q10, q11, q12, q13, ↓SXd, SXu, slBounds, ↓sop, ↓aop, ↓reduceIte, LV.cells, AOp.dst, LV.I, LV.B, LV.U, LV.S, LV.nil, Nat.reduceEqDiff, Nat.reduceAdd, Nat.reduceMul, Nat.reduceSub, Nat.reduceLeDiff, Nat.reduceBEq, Nat.reduceDiv, Nat.reduceMod, Int.reduceToNat, Int.reduceLT, Int.reduceLE, Int.reduceAdd, Int.reduceSub, Int.reduceMul, Int.reduceEq, Int.reduceNeg, reduceCtorEq, resV, resAll, ARes.ev, LV.flat, ite_true, ite_false, exists_eq_left', exists_eq_left, keyOf, implies_true, fillC, capOf]
            refine ev_loop (fun m4 fr4 M4 => ∃ (j : Nat) (c2 : Bool), j + m4 = (cellsOf x y z).length ∧ M4 = M3 ∧ (c2 = true ↔ (∃ i', i' < i ∧ ∃ j, j < vol x y z ∧ CrossAt y z xs d k i' j) ∨ ∃ j', j' < j ∧ CrossAt y z xs d k i j') ∧
              fr4 2 = .ref q r xs.length ∧ fr4 3 = .ptr M.length 0 ∧ fr4 8 = .ref w 0 n ∧ fr4 9 = .ref (M.length + 2) 0 (cellsOf x y z).length ∧ fr4 10 = .I d ∧ fr4 11 = .I k ∧ fr4 12 = .B c2 ∧ fr4 13 = .I i ∧ fr4 14 = .I j) (cellsOf x y z).length
              ⟨0, cr, by omega, rfl, by rw [hcr]; simp, q2, q3, q8, q9, q10, q11, q12, q13, rfl⟩ ?_
            rintro m4 fr4 M4 ⟨j, c2, hj, rfl, hc2, r2, r3, r8, r9, r10, r11, r12, r13, r14⟩
            have hfin : (∀ j', j' < vol x y z → j ≤ j' → ¬ CrossAt y z xs d k i j') → ∃ m', m' < m3 ∧ ∃ (i2 : Nat) (cr' : Bool), i2 + m' = (cellsOf x y z).length ∧ i2 = i + 1 ∧ cr' = c2 ∧ (cr' = true ↔ ∃ i', i' < i + 1 ∧ ∃ j, j < vol x y z ∧ CrossAt y z xs d k i' j) := fun hnone => ⟨m3 - 1, by omega, i + 1, c2, by omega, rfl, rfl, by
              rw [hc2]
              constructor
              · rintro (⟨i', h1, j', h2, h3⟩ | ⟨j', h2, h3⟩)
                · exact ⟨i', by omega, j', h2, h3⟩
                · exact ⟨i, by omega, j', by omega, h3⟩
              · rintro ⟨i', h1, j', h2, h3⟩
                rcases Nat.lt_or_ge i' i with h4 | h4
                · exact .inl ⟨i', h4, j', h2, h3⟩
                · have : i' = i := by omega
                  subst this
                  rcases Nat.lt_or_ge j' j with h5 | h5
                  · exact .inr ⟨j', h5, h3⟩
                  · exact absurd h3 (hnone j' h2 h5)⟩
            by_cases hjl : j < (cellsOf x y z).length
            · have hjI : (j : Int) < (cellsOf x y z).length := by omega
              have hxj := Ints.get (hX.pre p2) (k := j) (by omega)
              have hcj := Tri.gets_at call.has hjl hdir
              rw [hce j (by omega), Nat.zero_add, Int.toNat_natCast] at hcj
              by_cases hpos : 0 ≤ xs.getD i 0
              · have hnx : (¬ CrossAt y z xs d k i j → (c2 = true ↔ (∃ i', i' < i ∧ ∃ j, j < vol x y z ∧ CrossAt y z xs d k i' j) ∨ ∃ j', j' < j + 1 ∧ CrossAt y z xs d k i j')) := fun hnc => by
                  rw [hc2]
                  constructor
                  · rintro (h1 | ⟨j', h1, h2⟩)
                    · exact .inl h1
                    · exact .inr ⟨j', by omega, h2⟩
                  · rintro (h1 | ⟨j', h1, h2⟩)
                    · exact .inl h1
                    · rcases Nat.lt_or_ge j' j with h3 | h3
                      · exact .inr ⟨j', h3, h2⟩
                      · exact absurd (by rw [← show j' = j by omega]; exact h2) hnc
                have hcr2 : CrossAt y z xs d k i j ↔ xs.getD j 0 = xs.getD i 0 ∧ (cellAt y z i).at (d : Int) < k ∧ (k : Int) ≤ (cellAt y z j).at (d : Int) := ⟨fun h => h.2, fun h => ⟨hpos, h⟩⟩
                have hd0 : (0 : Int) ≤ d := by omega
                simp (disch := omega) only [r2, r3, r8, r9, r10, r11, r12, r13, r14, hjI, hxi, hpos, Nat.mul_one, ge_iff_le, ↓SXd, SXu, slBounds, ↓sop, ↓aop, ↓reduceIte, LV.cells, AOp.dst, LV.I, LV.B, LV.U, LV.S, LV.nil, Nat.reduceEqDiff, Nat.reduceAdd, Nat.reduceMul, Nat.reduceSub, Nat.reduceLeDiff, Nat.reduceBEq, Nat.reduceDiv, Nat.reduceMod, Int.reduceToNat, Int.reduceLT, Int.reduceLE, Int.reduceAdd, Int.reduceSub, Int.reduceMul, Int.reduceEq, Int.reduceNeg, reduceCtorEq, resV, resAll, ARes.ev, LV.flat, ite_true, ite_false, exists_eq_left', exists_eq_left, keyOf, implies_true, fillC, capOf]
                by_cases e1 : xs.getD j 0 = xs.getD i 0
                · by_cases e2 : (cellAt y z i).at (d : Int) < k
                  · by_cases e3 : (k : Int) ≤ (cellAt y z j).at (d : Int)
                    · simp (disch := omega) only [r2, r3, r8, r9, r10, r11, r12, r13, r14, hxi, hxj, e1, hci, e2, hcj, e3, Nat.mul_one, ge_iff_le, Nat.zero_add, ↓SXd, SXu, slBounds, ↓sop, ↓aop, ↓reduceIte, LV.cells, AOp.dst, LV.I, LV.B, LV.U, LV.S, LV.nil, Nat.reduceEqDiff, Nat.reduceAdd, Nat.reduceMul, Nat.reduceSub, Nat.reduceLeDiff, Nat.reduceBEq, Nat.reduceDiv, Nat.reduceMod, Int.reduceToNat, Int.reduceLT, Int.reduceLE, Int.reduceAdd, Int.reduceSub, Int.reduceMul, Int.reduceEq, Int.reduceNeg, reduceCtorEq, resV, resAll, ARes.ev, LV.flat, ite_true, ite_false, exists_eq_left', exists_eq_left, keyOf, implies_true, fillC, capOf]
                      exact ⟨m4 - 1, by omega, j + 1, true, by omega, rfl, ⟨fun _ => .inr ⟨j, by omega, hcr2.2 ⟨e1, e2, e3⟩⟩, fun _ => rfl⟩, r2, r3, r8, r9, r10, r11, rfl, r13, eqI (natI _)⟩
                    · simp (disch := omega) only [r2, r3, r8, r9, r10, r11, r12, r13, r14, hxi, hxj, e1, hci, e2, hcj, e3, Nat.mul_one, ge_iff_le, Nat.zero_add, ↓SXd, SXu, slBounds, ↓sop, ↓aop, ↓reduceIte, LV.cells, AOp.dst, LV.I, LV.B, LV.U, LV.S, LV.nil, Nat.reduceEqDiff, Nat.reduceAdd, Nat.reduceMul, Nat.reduceSub, Nat.reduceLeDiff, Nat.reduceBEq, Nat.reduceDiv, Nat.reduceMod, Int.reduceToNat, Int.reduceLT, Int.reduceLE, Int.reduceAdd, Int.reduceSub, Int.reduceMul, Int.reduceEq, Int.reduceNeg, reduceCtorEq, resV, resAll, ARes.ev, LV.flat, ite_true, ite_false, exists_eq_left', exists_eq_left, keyOf, implies_true, fillC, capOf]
                      exact ⟨m4 - 1, by omega, j + 1, c2, by omega, rfl, hnx fun hh => e3 (hcr2.1 hh).2.2, r2, r3, r8, r9, r10, r11, r12, r13, eqI (natI _)⟩
                  · simp (disch := omega) only [r2, r3, r8, r9, r10, r11, r12, r13, r14, hxi, hxj, e1, hci, e2, Nat.mul_one, ge_iff_le, Nat.zero_add, ↓SXd, SXu, slBounds, ↓sop, ↓aop, ↓reduceIte, LV.cells, AOp.dst, LV.I, LV.B, LV.U, LV.S, LV.nil, Nat.reduceEqDiff, Nat.reduceAdd, Nat.reduceMul, Nat.reduceSub, Nat.reduceLeDiff, Nat.reduceBEq, Nat.reduceDiv, Nat.reduceMod, Int.reduceToNat, Int.reduceLT, Int.reduceLE, Int.reduceAdd, Int.reduceSub, Int.reduceMul, Int.reduceEq, Int.reduceNeg, reduceCtorEq, resV, resAll, ARes.ev, LV.flat, ite_true, ite_false, exists_eq_left', exists_eq_left, keyOf, implies_true, fillC, capOf]
                    exact ⟨m4 - 1, by omega, j + 1, c2, by omega, rfl, hnx fun hh => e2 (hcr2.1 hh).2.1, r2, r3, r8, r9, r10, r11, r12, r13, eqI (natI _)⟩
                · simp (disch := omega) only [r2, r3, r8, r9, r10, r11, r12, r13, r14, hxi, hxj, e1, Nat.mul_one, ge_iff_le, Nat.zero_add, ↓SXd, SXu, slBounds, ↓sop, ↓aop, ↓reduceIte, LV.cells, AOp.dst, LV.I, LV.B, LV.U, LV.S, LV.nil, Nat.reduceEqDiff, Nat.reduceAdd, Nat.reduceMul, Nat.reduceSub, Nat.reduceLeDiff, Nat.reduceBEq, Nat.reduceDiv, Nat.reduceMod, Int.reduceToNat, Int.reduceLT, Int.reduceLE, Int.reduceAdd, Int.reduceSub, Int.reduceMul, Int.reduceEq, Int.reduceNeg, reduceCtorEq, resV, resAll, ARes.ev, LV.flat, ite_true, ite_false, exists_eq_left', exists_eq_left, keyOf, implies_true, fillC, capOf]
                  exact ⟨m4 - 1, by omega, j + 1, c2, by omega, rfl, hnx fun hh => e1 (hcr2.1 hh).1, r2, r3, r8, r9, r10, r11, r12, r13, eqI (natI _)⟩
              · obtain ⟨m', hm', i2, cr', h1, rfl, rfl, h4⟩ := hfin fun j' _ _ hh => hpos hh.1
                simp (disch := omega) only [r2, r3, r8, r9, r10, r11, r12, r13, r14, hjI, hxi, hpos, Nat.mul_one, ge_iff_le, ↓SXd, SXu, slBounds, ↓sop, ↓aop, ↓reduceIte, LV.cells, AOp.dst, LV.I, LV.B, LV.U, LV.S, LV.nil, Nat.reduceEqDiff, Nat.reduceAdd, Nat.reduceMul, Nat.reduceSub, Nat.reduceLeDiff, Nat.reduceBEq, Nat.reduceDiv, Nat.reduceMod, Int.reduceToNat, Int.reduceLT, Int.reduceLE, Int.reduceAdd, Int.reduceSub, Int.reduceMul, Int.reduceEq, Int.reduceNeg, reduceCtorEq, resV, resAll, ARes.ev, LV.flat, ite_true, ite_false, exists_eq_left', exists_eq_left, keyOf, implies_true, fillC, capOf]
                exact ⟨m', hm', i + 1, cr', h1, rfl, h4, r2, r3, r8, r9, r10, r11, r12, eqI (natI _)⟩
            · have hjI : ¬ (j : Int) < (cellsOf x y z).length := by omega
              obtain ⟨m', hm', i2, cr', h1, rfl, rfl, h4⟩ := hfin fun j' h1 h2 => by omega
              simp (disch := omega) only [r2, r3, r8, r9, r10, r11, r12, r13, r14, hjI, ↓SXd, SXu, slBounds, ↓sop, ↓aop, ↓reduceIte, LV.cells, AOp.dst, LV.I, LV.B, LV.U, LV.S, LV.nil, Nat.reduceEqDiff, Nat.reduceAdd, Nat.reduceMul, Nat.reduceSub, Nat.reduceLeDiff, Nat.reduceBEq, Nat.reduceDiv, Nat.reduceMod, Int.reduceToNat, Int.reduceLT, Int.reduceLE, Int.reduceAdd, Int.reduceSub, Int.reduceMul, Int.reduceEq, Int.reduceNeg, reduceCtorEq, resV, resAll, ARes.ev, LV.flat, ite_true, ite_false, exists_eq_left', exists_eq_left, keyOf, implies_true, fillC, capOf]
              exact ⟨m', hm', i + 1, cr', h1, rfl, h4, r2, r3, r8, r9, r10, r11, r12, eqI (natI _)⟩
          · have hix : i = vol x y z := by omega
            have hcr2 : cr = true ↔ Crossed x y z xs d k := by rw [hcr, hix]; rfl
            have hpk : plK x y z xs d (k + 1) = plK x y z xs d k ++ (if 1 ≤ k ∧ ¬ Crossed x y z xs d k then [(d : Int), (k : Int)] else []) := rfl
            obtain ⟨nk, hnk1, hnk2⟩ := plK_len (x := x) (y := y) (z := z) (xs := xs) (d := d) (k := k)
            have hnb : n ≤ 100 := by rw [List.length_append, hnd1, hnk1] at hwn; omega
            cases cr with
            | true =>
              rw [if_neg (fun hh => hh.2 (hcr2.1 rfl)), List.append_nil] at hpk
              simp (disch := omega) only [q2, q3, q8, q9, q10, q11, q12, q13, ↓SXd, SXu, slBounds, ↓sop, ↓aop, ↓reduceIte, LV.cells, AOp.dst, LV.I, LV.B, LV.U, LV.S, LV.nil, Nat.reduceEqDiff, Nat.reduceAdd, Nat.reduceMul, Nat.reduceSub, Nat.reduceLeDiff, Nat.reduceBEq, Nat.reduceDiv, Nat.reduceMod, Int.reduceToNat, Int.reduceLT, Int.reduceLE, Int.reduceAdd, Int.reduceSub, Int.reduceMul, Int.reduceEq, Int.reduceNeg, reduceCtorEq, resV, resAll, ARes.ev, LV.flat, ite_true, ite_false, exists_eq_left', exists_eq_left, keyOf, implies_true, fillC, capOf]
              rw [← hpk] at cw hwn
              exact ⟨m2 - 1, by omega, k + 1, w, n, by omega, by omega, p2, c3, call, cw, hwn, hw, hw2, q2, q3, q8, q9, q10, eqI (natI _)⟩
            | false =>
              rw [if_pos ⟨hk1, fun hh => by have := hcr2.2 hh; cases this⟩] at hpk
              simp (disch := omega) only [q2, q3, q8, q9, q10, q11, q12, q13, splice, ↓SXd, SXu, slBounds, ↓sop, ↓aop, ↓reduceIte, LV.cells, AOp.dst, LV.I, LV.B, LV.U, LV.S, LV.nil, Nat.reduceEqDiff, Nat.reduceAdd, Nat.reduceMul, Nat.reduceSub, Nat.reduceLeDiff, Nat.reduceBEq, Nat.reduceDiv, Nat.reduceMod, Int.reduceToNat, Int.reduceLT, Int.reduceLE, Int.reduceAdd, Int.reduceSub, Int.reduceMul, Int.reduceEq, Int.reduceNeg, reduceCtorEq, resV, resAll, ARes.ev, LV.flat, ite_true, ite_false, exists_eq_left', exists_eq_left, keyOf, implies_true, fillC, capOf]
              refine appendK_1 (acc := intL (plD x y z xs d ++ plK x y z xs d k)) (new := [.I d, .I k]) cw (by rw [intL_len, hwn]) rfl (by omega) (by omega) (by omega) fun N e1 e2 e3 => ?_
              simp (disch := omega) only [q2, q3, q8, q9, q10, q11, q12, q13, ↓SXd, SXu, slBounds, ↓sop, ↓aop, ↓reduceIte, LV.cells, AOp.dst, LV.I, LV.B, LV.U, LV.S, LV.nil, Nat.reduceEqDiff, Nat.reduceAdd, Nat.reduceMul, Nat.reduceSub, Nat.reduceLeDiff, Nat.reduceBEq, Nat.reduceDiv, Nat.reduceMod, Int.reduceToNat, Int.reduceLT, Int.reduceLE, Int.reduceAdd, Int.reduceSub, Int.reduceMul, Int.reduceEq, Int.reduceNeg, reduceCtorEq, resV, resAll, ARes.ev, LV.flat, ite_true, ite_false, exists_eq_left', exists_eq_left, keyOf, implies_true, fillC, capOf]
              rw [show intL (plD x y z xs d ++ plK x y z xs d k) ++ [LV.I d, .I k] = intL (plD x y z xs d ++ plK x y z xs d (k + 1)) by rw [hpk, ← List.append_assoc, intL_append (plD x y z xs d ++ plK x y z xs d k)]; rfl] at e2
              have hlw := cw.lt
              have hlc := c3.lt
              have hla := call.lt
              exact ⟨m2 - 1, by omega, k + 1, M3.length + 1, n + 1, by omega, by omega, pre_step p2 (by omega) e1 e3, live_step c3 (by omega) e3, live_step call (by omega) e3, e2, by rw [hpk, ← List.append_assoc, List.length_append, hwn]; simp only [List.length_cons, List.length_nil]; omega, by omega, by omega, q2, q3, rfl, q9, q10, eqI (natI _)⟩
        · have : k = (sideOf x y z (d : Int)).toNat := by omega
          subst this
          simp (disch := omega) only [g2, g3, g8, g9, g10, g11, ↓SXd, SXu, slBounds, ↓sop, ↓aop, ↓reduceIte, LV.cells, AOp.dst, LV.I, LV.B, LV.U, LV.S, LV.nil, Nat.reduceEqDiff, Nat.reduceAdd, Nat.reduceMul, Nat.reduceSub, Nat.reduceLeDiff, Nat.reduceBEq, Nat.reduceDiv, Nat.reduceMod, Int.reduceToNat, Int.reduceLT, Int.reduceLE, Int.reduceAdd, Int.reduceSub, Int.reduceMul, Int.reduceEq, Int.reduceNeg, reduceCtorEq, resV, resAll, ARes.ev, LV.flat, ite_true, ite_false, exists_eq_left', exists_eq_left, keyOf, implies_true, fillC, capOf]
          exact ⟨m - 1, by omega, d + 1, w, n, by omega, p2, c3, call, cw, hwn, hw, hw2, g2, g3, g8, g9, eqI (natI _)⟩
      · simp (disch := omega) only [f2, f3, f8, f9, f10, ↓SXd, SXu, slBounds, ↓sop, ↓aop, ↓reduceIte, LV.cells, AOp.dst, LV.I, LV.B, LV.U, LV.S, LV.nil, Nat.reduceEqDiff, Nat.reduceAdd, Nat.reduceMul, Nat.reduceSub, Nat.reduceLeDiff, Nat.reduceBEq, Nat.reduceDiv, Nat.reduceMod, Int.reduceToNat, Int.reduceLT, Int.reduceLE, Int.reduceAdd, Int.reduceSub, Int.reduceMul, Int.reduceEq, Int.reduceNeg, reduceCtorEq, resV, resAll, ARes.ev, LV.flat, ite_true, ite_false, exists_eq_left', exists_eq_left, keyOf, implies_true, fillC, capOf]
        have : d = 3 := by omega
        subst this
        obtain ⟨nd, hnd1, hnd2⟩ := plD_len hS (xs := xs) (d := 3)
        exact ⟨_, n, rfl, ⟨hwn, .inr ⟨w, rfl, bw⟩⟩, by omega, Newer.of (by omega), hpre⟩
    · rw [if_neg (fun hh => hK hh.2), decide_eq_false hK]
      simp (disch := omega) only [↓SXd, SXu, slBounds, ↓sop, ↓aop, ↓reduceIte, LV.cells, AOp.dst, LV.I, LV.B, LV.U, LV.S, LV.nil, Nat.reduceEqDiff, Nat.reduceAdd, Nat.reduceMul, Nat.reduceSub, Nat.reduceLeDiff, Nat.reduceBEq, Nat.reduceDiv, Nat.reduceMod, Int.reduceToNat, Int.reduceLT, Int.reduceLE, Int.reduceAdd, Int.reduceSub, Int.reduceMul, Int.reduceEq, Int.reduceNeg, reduceCtorEq, resV, resAll, ARes.ev, LV.flat, ite_true, ite_false, exists_eq_left', exists_eq_left, keyOf, implies_true, fillC, capOf]
      exact hbad
  · rw [if_neg (fun hh => hA hh.1), decide_eq_false hA]
    simp (disch := omega) only [↓SXd, SXu, slBounds, ↓sop, ↓aop, ↓reduceIte, LV.cells, AOp.dst, LV.I, LV.B, LV.U, LV.S, LV.nil, Nat.reduceEqDiff, Nat.reduceAdd, Nat.reduceMul, Nat.reduceSub, Nat.reduceLeDiff, Nat.reduceBEq, Nat.reduceDiv, Nat.reduceMod, Int.reduceToNat, Int.reduceLT, Int.reduceLE, Int.reduceAdd, Int.reduceSub, Int.reduceMul, Int.reduceEq, Int.reduceNeg, reduceCtorEq, resV, resAll, ARes.ev, LV.flat, ite_true, ite_false, exists_eq_left', exists_eq_left, keyOf, implies_true, fillC, capOf]
    exact hbad
end Go.Ab

/- The abstract code of some functions (written by a program of mine from the translation, by way of prepF). -/
namespace Go.Ab.C
open Go.Ab
def impl_FaultPlanes : AFn :=
  ⟨3, 95, [.tmp 6, .tmp 7],
    .seq (.ops [(none, .box 3 (.t 0)),
       (none, .mv 6 (.c .nil)),
       (none, .mv 7 (.c (.B false)))])
    (.seq (.seq (.ops [(none, .loadN 18 4 (.t 3)),
         (none, .mv 19 (.t 1)),
         (none, .call (some 20) F.impl_arePacked [(.t 18), (.t 19)]),
         (none, .un 21 .not (.t 20)),
         (none, .mv 22 (.t 21)),
         (some (22, false), .loadN 23 4 (.t 3)),
         (some (22, false), .mv 24 (.t 1)),
         (some (22, false), .mv 25 (.t 2)),
         (some (22, false), .call (some 26) F.impl_Heap_isPacking [(.t 23), (.t 24), (.t 25)]),
         (some (22, false), .un 27 .not (.t 26)),
         (none, .pick 28 (.t 22) (.c (.B true)) (.t 27))])
      (.cond (.t 28) (.seq (.ops [(none, .mv 6 (.c .nil)),
           (none, .mv 7 (.c (.B false)))])
        (.ret))
       (.skip)))
     (.seq (.ops [(none, .buildSl 29 0 2 [] []),
         (none, .loadN 30 4 (.t 3)),
         (none, .call (some 31) F.impl_Heap_box [(.t 30)]),
         (none, .alloc 9 [(.I 0), (.I 0), (.I 0)]),
         (none, .mv 8 (.t 29)),
         (none, .store 3 (.t 9) (.t 31))])
      (.seq (.seq (.ops [(none, .mv 32 (.c (.I 0)))])
        (.block 0 (.loop (.seq (.ops [(none, .bin 33 .lss (.t 32) (.c (.I 3)))])
           (.seq (.cond (.t 33) (.skip)
             (.exit 0))
            (.seq (.block 1 (.seq (.ops [(none, .mv 34 (.t 32)),
                  (none, .mv 10 (.t 34))])
               (.seq (.ops [(none, .mv 11 (.c (.I 1)))])
                (.block 2 (.loop (.seq (.seq (.ops [(none, .mv 35 (.t 11)),
                       (none, .mv 36 (.t 10)),
                       (none, .idxA 37 3 1 (.t 9) (.t 36)),
                       (none, .load1 38 (.t 37)),
                       (none, .bin 39 .lss (.t 35) (.t 38))])
                    (.cond (.t 39) (.skip)
                     (.exit 2)))
                   (.seq (.block 3 (.seq (.ops [(none, .mv 12 (.c (.B false)))])
                      (.seq (.seq (.ops [(none, .mv 42 (.t 2)),
                           (none, .len 43 (.t 42)),
                           (none, .mv 44 (.c (.I 0)))])
                        (.block 4 (.loop (.seq (.ops [(none, .bin 45 .lss (.t 44) (.t 43))])
                           (.seq (.cond (.t 45) (.skip)
                             (.exit 4))
                            (.seq (.block 5 (.seq (.ops [(none, .mv 46 (.t 44)),
                                  (none, .idxS 47 1 (.t 42) (.t 44)),
                                  (none, .load1 48 (.t 47)),
                                  (none, .mv 13 (.t 46)),
                                  (none, .mv 14 (.t 48))])
                               (.seq (.ops [(none, .loadN 49 3 (.t 9)),
                                   (none, .mv 50 (.t 13)),
                                   (none, .call (some 51) F.impl_box_cell [(.t 49), (.t 50)]),
                                   (none, .alloc 15 [(.I 0), (.I 0), (.I 0)]),
                                   (none, .store 3 (.t 15) (.t 51))])
                                (.seq (.seq (.ops [(none, .mv 52 (.t 14)),
                                     (none, .bin 53 .lss (.t 52) (.c (.I 0))),
                                     (none, .mv 54 (.t 53)),
                                     (some (54, false), .mv 55 (.t 10)),
                                     (some (54, false), .idxA 56 3 1 (.t 15) (.t 55)),
                                     (some (54, false), .load1 57 (.t 56)),
                                     (some (54, false), .mv 58 (.t 11)),
                                     (some (54, false), .bin 59 .geq (.t 57) (.t 58)),
                                     (none, .pick 60 (.t 54) (.c (.B true)) (.t 59))])
                                  (.cond (.t 60) (.exit 5)
                                   (.skip)))
                                 (.seq (.ops [(none, .mv 61 (.t 2)),
                                     (none, .len 62 (.t 61)),
                                     (none, .mv 63 (.c (.I 0)))])
                                  (.block 6 (.loop (.seq (.ops [(none, .bin 64 .lss (.t 63) (.t 62))])
                                     (.seq (.cond (.t 64) (.skip)
                                       (.exit 6))
                                      (.seq (.block 7 (.seq (.ops [(none, .mv 65 (.t 63)),
                                            (none, .idxS 66 1 (.t 61) (.t 63)),
                                            (none, .load1 67 (.t 66)),
                                            (none, .mv 16 (.t 65)),
                                            (none, .mv 17 (.t 67))])
                                         (.ops [(none, .mv 68 (.t 12)),
                                            (none, .mv 69 (.t 68)),
                                            (some (69, false), .mv 70 (.t 17)),
                                            (some (69, false), .mv 71 (.t 14)),
                                            (some (69, false), .bin 72 .eql (.t 70) (.t 71)),
                                            (some (69, false), .mv 73 (.t 72)),
                                            (some (73, true), .loadN 74 3 (.t 9)),
                                            (some (73, true), .mv 75 (.t 16)),
                                            (some (73, true), .call (some 76) F.impl_box_cell [(.t 74), (.t 75)]),
                                            (some (73, true), .mv 77 (.t 10)),
                                            (some (73, true), .index 78 3 1 false (.t 76) (.t 77)),
                                            (some (73, true), .mv 79 (.t 11)),
                                            (some (73, true), .bin 80 .geq (.t 78) (.t 79)),
                                            (some (69, false), .pick 81 (.t 73) (.t 80) (.c (.B false))),
                                            (none, .pick 82 (.t 69) (.c (.B true)) (.t 81)),
                                            (none, .mv 12 (.t 82))])))
                                       (.ops [(none, .bin 83 .add (.t 63) (.c (.I 1))),
                                          (none, .mv 63 (.t 83))])))))))))))
                             (.ops [(none, .bin 84 .add (.t 44) (.c (.I 1))),
                                (none, .mv 44 (.t 84))])))))))
                       (.seq (.ops [(none, .mv 85 (.t 12)),
                           (none, .un 86 .not (.t 85))])
                        (.cond (.t 86) (.ops [(none, .mv 87 (.t 8)),
                            (none, .mv 88 (.t 10)),
                            (none, .mv 89 (.t 11)),
                            (none, .build 90 [(.I 0), (.I 0)] [(0, 1, (.t 88)), (1, 1, (.t 89))]),
                            (none, .buildSl 91 1 2 [(.I 0), (.I 0)] [(0, 2, (.t 90))]),
                            (none, .append 92 2 16 (.t 87) (.t 91)),
                            (none, .mv 8 (.t 92))])
                         (.skip))))))
                    (.ops [(none, .mv 40 (.t 11)),
                       (none, .bin 41 .add (.t 40) (.c (.I 1))),
                       (none, .mv 11 (.t 41))]))))))))
             (.ops [(none, .bin 93 .add (.t 32) (.c (.I 1))),
                (none, .mv 32 (.t 93))])))))))
       (.seq (.ops [(none, .mv 94 (.t 8)),
           (none, .mv 6 (.t 94)),
           (none, .mv 7 (.c (.B true)))])
        (.ret)))))⟩
end Go.Ab.C

/- That the program has this code. -/
namespace Go.Ab.K
open Go Go.Ab
theorem impl_FaultPlanes : prepF Go.Proofs.Try.prog F.impl_FaultPlanes = some C.impl_FaultPlanes := by kernel_rfl
end Go.Ab.K

/- The abstract code of some functions (written by a program of mine from the translation, by way of prepF). -/
namespace Go.Ab.C
open Go.Ab
def impl_Heap_isPacking : AFn :=
  ⟨3, 101, [.tmp 6],
    .seq (.ops [(none, .box 3 (.t 0)),
       (none, .mv 6 (.c (.B false)))])
    (.seq (.ops [(none, .loadN 17 4 (.t 3)),
        (none, .call (some 18) F.impl_Heap_box [(.t 17)]),
        (none, .alloc 7 [(.I 0), (.I 0), (.I 0)]),
        (none, .store 3 (.t 7) (.t 18))])
     (.seq (.seq (.ops [(none, .mv 19 (.t 2)),
          (none, .len 20 (.t 19)),
          (none, .loadN 21 3 (.t 7)),
          (none, .call (some 22) F.impl_box_size [(.t 21)]),
          (none, .bin 23 .neq (.t 20) (.t 22)),
          (none, .mv 24 (.t 23)),
          (some (24, false), .mv 25 (.t 2)),
          (some (24, false), .mv 26 (.t 1)),
          (some (24, false), .len 27 (.t 26)),
          (some (24, false), .bin 28 .sub (.t 27) (.c (.I 1))),
          (some (24, false), .call (some 29) F.impl_allWithin [(.t 25), (.c (.I (-1))), (.t 28)]),
          (some (24, false), .un 30 .not (.t 29)),
          (none, .pick 31 (.t 24) (.c (.B true)) (.t 30))])
       (.cond (.t 31) (.seq (.ops [(none, .mv 6 (.c (.B false)))])
         (.ret))
        (.skip)))
      (.seq (.ops [(none, .loadN 32 4 (.t 3)),
          (none, .call (some 33) F.impl_Heap_free [(.t 32)]),
          (none, .mv 8 (.t 33))])
       (.seq (.seq (.ops [(none, .mv 34 (.t 1)),
            (none, .len 35 (.t 34)),
            (none, .mv 36 (.c (.I 0)))])
         (.block 0 (.loop (.seq (.ops [(none, .bin 37 .lss (.t 36) (.t 35))])
            (.seq (.cond (.t 37) (.skip)
              (.exit 0))
             (.seq (.block 1 (.seq (.ops [(none, .mv 38 (.t 36)),
                   (none, .idxS 39 1 (.t 34) (.t 36)),
                   (none, .load1 40 (.t 39)),
                   (none, .mv 9 (.t 38)),
                   (none, .mv 10 (.t 40))])
                (.seq (.ops [(none, .mv 11 (.c (.U 0)))])
                 (.seq (.seq (.ops [(none, .mv 41 (.t 2)),
                      (none, .len 42 (.t 41)),
                      (none, .mv 43 (.c (.I 0)))])
                   (.block 2 (.loop (.seq (.ops [(none, .bin 44 .lss (.t 43) (.t 42))])
                      (.seq (.cond (.t 44) (.skip)
                        (.exit 2))
                       (.seq (.block 3 (.seq (.ops [(none, .mv 45 (.t 43)),
                             (none, .idxS 46 1 (.t 41) (.t 43)),
                             (none, .load1 47 (.t 46)),
                             (none, .mv 12 (.t 45)),
                             (none, .mv 13 (.t 47))])
                          (.seq (.ops [(none, .mv 48 (.t 13)),
                              (none, .mv 49 (.t 9)),
                              (none, .bin 50 .eql (.t 48) (.t 49))])
                           (.cond (.t 50) (.ops [(none, .mv 51 (.t 11)),
                               (none, .mv 52 (.t 12)),
                               (none, .bin 53 .shl (.c (.U 1)) (.t 52)),
                               (none, .bin 54 .or (.t 51) (.t 53)),
                               (none, .mv 11 (.t 54))])
                            (.skip)))))
                        (.ops [(none, .bin 55 .add (.t 43) (.c (.I 1))),
                           (none, .mv 43 (.t 55))])))))))
                  (.seq (.seq (.ops [(none, .mv 56 (.t 11)),
                       (none, .bin 57 .eql (.t 56) (.c (.U 0)))])
                    (.cond (.t 57) (.seq (.ops [(none, .mv 6 (.c (.B false)))])
                      (.ret))
                     (.skip)))
                   (.seq (.ops [(none, .loadN 58 3 (.t 7)),
                       (none, .mv 59 (.t 11)),
                       (none, .call (some 60) F.impl_box_list [(.t 58), (.t 59)]),
                       (none, .idxS 61 3 (.t 60) (.c (.I 0))),
                       (none, .loadN 62 3 (.t 61)),
                       (none, .alloc 14 [(.I 0), (.I 0), (.I 0)]),
                       (none, .store 3 (.t 14) (.t 62))])
                    (.seq (.draw [⟨(none, .loadN 64 3 (.t 7)), [], []⟩,
                        ⟨(none, .mv 65 (.t 8)), [], []⟩,
                        ⟨(none, .mv 66 (.t 10)), [], []⟩,
                        ⟨(none, .loadN 67 3 (.t 14)), [], []⟩,
                        ⟨(none, .mv 68 (.t 10)), [], []⟩,
                        ⟨(none, .idxS 69 3 (.t 68) (.c (.I 0))), [], []⟩,
                        ⟨(none, .idxA 70 3 1 (.t 69) (.c (.I 0))), [], []⟩,
                        ⟨(none, .load1 71 (.t 70)), [], []⟩,
                        ⟨(none, .un 72 .neg (.t 71)), [], []⟩,
                        ⟨(none, .mv 73 (.t 10)), [], []⟩,
                        ⟨(none, .idxS 74 3 (.t 73) (.c (.I 0))), [], []⟩,
                        ⟨(none, .idxA 75 3 1 (.t 74) (.c (.I 1))), [], []⟩,
                        ⟨(none, .load1 76 (.t 75)), [], []⟩,
                        ⟨(none, .un 77 .neg (.t 76)), [], []⟩,
                        ⟨(none, .mv 78 (.t 10)), [], []⟩,
                        ⟨(none, .idxS 79 3 (.t 78) (.c (.I 0))), [], []⟩,
                        ⟨(none, .idxA 80 3 1 (.t 79) (.c (.I 2))), [], []⟩,
                        ⟨(none, .load1 81 (.t 80)), [], []⟩,
                        ⟨(none, .un 82 .neg (.t 81)), [], []⟩,
                        ⟨(none, .build 83 [(.I 0), (.I 0), (.I 0)] [(0, 1, (.t 72)), (1, 1, (.t 77)), (2, 1, (.t 82))]), [], []⟩,
                        ⟨(none, .call (some 84) F.impl_added [(.t 67), (.t 83)]), [], [0, 1, 2]⟩,
                        ⟨(none, .call (some 85) F.impl_box_placed [(.t 64), (.t 65), (.t 66), (.t 84)]), [], []⟩,
                        ⟨(none, .mv 63 (.t 85)), [], []⟩,
                        ⟨(none, .extract 86 (.t 63) 0), [], []⟩,
                        ⟨(none, .extract 87 (.t 63) 1), [], []⟩,
                        ⟨(none, .mv 15 (.t 86)), [], []⟩,
                        ⟨(none, .mv 16 (.t 87)), [], []⟩])
                     (.seq (.seq (.ops [(none, .mv 88 (.t 16)),
                          (none, .un 89 .not (.t 88)),
                          (none, .mv 90 (.t 89)),
                          (some (90, false), .mv 91 (.t 15)),
                          (some (90, false), .mv 92 (.t 11)),
                          (some (90, false), .bin 93 .neq (.t 91) (.t 92)),
                          (none, .pick 94 (.t 90) (.c (.B true)) (.t 93))])
                       (.cond (.t 94) (.seq (.ops [(none, .mv 6 (.c (.B false)))])
                         (.ret))
                        (.skip)))
                      (.ops [(none, .mv 95 (.t 8)),
                         (none, .mv 96 (.t 11)),
                         (none, .bin 97 .andNot (.t 95) (.t 96)),
                         (none, .mv 8 (.t 97))])))))))))
              (.ops [(none, .bin 98 .add (.t 36) (.c (.I 1))),
                 (none, .mv 36 (.t 98))])))))))
        (.seq (.ops [(none, .mv 99 (.t 8)),
            (none, .bin 100 .eql (.t 99) (.c (.U 0))),
            (none, .mv 6 (.t 100))])
         (.ret))))))⟩
end Go.Ab.C

/- That the program has this code. -/
namespace Go.Ab.K
open Go Go.Ab
theorem impl_Heap_isPacking : prepF Go.Proofs.Try.prog F.impl_Heap_isPacking = some C.impl_Heap_isPacking := by kernel_rfl
end Go.Ab.K

/- Contracts: packings, the program's side. -/
namespace Go.Ab
open Go
set_option linter.unusedSimpArgs false
set_option linter.unusedVariables false
set_option maxRecDepth 20000

theorem g_isPackingH {x y z : Int} {t o u q r : Nat} {cs : List Cell} {L : List (List Cell)} {xs : List Int} {M : Mem} (h : Tri M t o cs) (hP : Pcs M u L) (hX : Ints M q r xs) (hA : AskOK x y z cs L) (hxn : xs.length ≤ 1000000000) :
    CallsTo PG F.impl_Heap_isPacking [.agg [.I x, .I y, .I z, .ref t o cs.length], .ref u 0 L.length, .ref q r xs.length] M (.B (decide (SpecPk x y z cs L xs))) M := by
  have hH := hA.2.1
  have hS := hH.1
  have hv := vol_cast hS
  have hcn := hH.len
  have hL8 := hA.2.2
  have ht := h.lt
  have hiff := pk_iff hA (xs := xs)
  have hno : ¬ ImplPk x y z cs L xs → ∀ {N : Mem}, Pre M N → Cmp M N (.val (.bool false)) M (.val (.bool (decide (SpecPk x y z cs L xs)))) := fun hp N hN => by
    rw [decide_eq_false (fun h => hp (hiff.1 h))]; exact cmp_pre hN rfl
  have hat : ∀ i, i < vol x y z → atL y z xs (cellAt y z i) = xs.getD i 0 := fun i hi => by
    have := (cellAt_in hS (i := (i : Int)) (by omega) (by omega)).2
    unfold atL; rw [this, Int.toNat_natCast]
  refine calls_run K.impl_Heap_isPacking rfl ?_
  simp (disch := omega) only [C.impl_Heap_isPacking, ↓SXd, SXu, slBounds, ↓sop, ↓aop, ↓reduceIte, LV.cells, AOp.dst, LV.I, LV.B, LV.U, LV.S, LV.nil, Nat.reduceEqDiff, Nat.reduceAdd, Nat.reduceMul, Nat.reduceSub, Nat.reduceLeDiff, Nat.reduceBEq, Nat.reduceDiv, Nat.reduceMod, Int.reduceToNat, Int.reduceLT, Int.reduceLE, Int.reduceAdd, Int.reduceSub, Int.reduceMul, Int.reduceEq, Int.reduceNeg, reduceCtorEq, resV, resAll, ARes.ev, LV.flat, ite_true, ite_false, exists_eq_left', exists_eq_left, keyOf, implies_true, fillC, capOf]
  refine callK_of (g_box) ?_
  simp (disch := omega) only [splice, ↓SXd, SXu, slBounds, ↓sop, ↓aop, ↓reduceIte, LV.cells, AOp.dst, LV.I, LV.B, LV.U, LV.S, LV.nil, Nat.reduceEqDiff, Nat.reduceAdd, Nat.reduceMul, Nat.reduceSub, Nat.reduceLeDiff, Nat.reduceBEq, Nat.reduceDiv, Nat.reduceMod, Int.reduceToNat, Int.reduceLT, Int.reduceLE, Int.reduceAdd, Int.reduceSub, Int.reduceMul, Int.reduceEq, Int.reduceNeg, reduceCtorEq, resV, resAll, ARes.ev, LV.flat, ite_true, ite_false, exists_eq_left', exists_eq_left, keyOf, implies_true, fillC, capOf]
  refine callK_of (g_size hS) ?_
  simp (disch := omega) only [↓SXd, SXu, slBounds, ↓sop, ↓aop, ↓reduceIte, LV.cells, AOp.dst, LV.I, LV.B, LV.U, LV.S, LV.nil, Nat.reduceEqDiff, Nat.reduceAdd, Nat.reduceMul, Nat.reduceSub, Nat.reduceLeDiff, Nat.reduceBEq, Nat.reduceDiv, Nat.reduceMod, Int.reduceToNat, Int.reduceLT, Int.reduceLE, Int.reduceAdd, Int.reduceSub, Int.reduceMul, Int.reduceEq, Int.reduceNeg, reduceCtorEq, resV, resAll, ARes.ev, LV.flat, ite_true, ite_false, exists_eq_left', exists_eq_left, keyOf, implies_true, fillC, capOf]
  by_cases h1 : (xs.length : Int) = (vol x y z : Nat)
  · have h1' : xs.length = vol x y z := by omega
    simp (disch := omega) only [h1, ↓SXd, SXu, slBounds, ↓sop, ↓aop, ↓reduceIte, LV.cells, AOp.dst, LV.I, LV.B, LV.U, LV.S, LV.nil, Nat.reduceEqDiff, Nat.reduceAdd, Nat.reduceMul, Nat.reduceSub, Nat.reduceLeDiff, Nat.reduceBEq, Nat.reduceDiv, Nat.reduceMod, Int.reduceToNat, Int.reduceLT, Int.reduceLE, Int.reduceAdd, Int.reduceSub, Int.reduceMul, Int.reduceEq, Int.reduceNeg, reduceCtorEq, resV, resAll, ARes.ev, LV.flat, ite_true, ite_false, exists_eq_left', exists_eq_left, keyOf, implies_true, fillC, capOf]
    rw [← h1']
    refine callK_of (g_allWithinLH (hX.app) hxn) ?_
    by_cases h2 : ∀ v ∈ xs, -1 ≤ v ∧ v ≤ (L.length : Int) - 1
    · rw [decide_eq_true h2]
      simp (disch := omega) only [↓SXd, SXu, slBounds, ↓sop, ↓aop, ↓reduceIte, LV.cells, AOp.dst, LV.I, LV.B, LV.U, LV.S, LV.nil, Nat.reduceEqDiff, Nat.reduceAdd, Nat.reduceMul, Nat.reduceSub, Nat.reduceLeDiff, Nat.reduceBEq, Nat.reduceDiv, Nat.reduceMod, Int.reduceToNat, Int.reduceLT, Int.reduceLE, Int.reduceAdd, Int.reduceSub, Int.reduceMul, Int.reduceEq, Int.reduceNeg, reduceCtorEq, resV, resAll, ARes.ev, LV.flat, ite_true, ite_false, exists_eq_left', exists_eq_left, keyOf, implies_true, fillC, capOf]
      refine callK_of (g_free h.app hH) ?_
      simp (disch := omega) only [↓SXd, SXu, slBounds, ↓sop, ↓aop, ↓reduceIte, LV.cells, AOp.dst, LV.I, LV.B, LV.U, LV.S, LV.nil, Nat.reduceEqDiff, Nat.reduceAdd, Nat.reduceMul, Nat.reduceSub, Nat.reduceLeDiff, Nat.reduceBEq, Nat.reduceDiv, Nat.reduceMod, Int.reduceToNat, Int.reduceLT, Int.reduceLE, Int.reduceAdd, Int.reduceSub, Int.reduceMul, Int.reduceEq, Int.reduceNeg, reduceCtorEq, resV, resAll, ARes.ev, LV.flat, ite_true, ite_false, exists_eq_left', exists_eq_left, keyOf, implies_true, fillC, capOf]
      refine ev_loop (fun m fr M' => ∃ i : Nat, i + m = L.length ∧ Pre M M' ∧ Live M' (M.length + 1) (.row [.I x, .I y, .I z] true 0) ∧ (∀ j, j < i → StepOK x y z cs L xs j) ∧
        fr 1 = .ref u 0 L.length ∧ fr 2 = .ref q r xs.length ∧ fr 7 = .ptr (M.length + 1) 0 ∧ fr 8 = .W (bs x y z (leftP y z cs xs i)) ∧ fr 34 = .ref u 0 L.length ∧ fr 35 = .I L.length ∧ fr 36 = .I i) L.length
        ⟨0, by omega, Pre.app _ _, Live.newj rfl, by omega, rfl, by rw [h1']; rfl, rfl, by
          show LV.W _ = LV.W _
          rw [(bs_eq hS).2 fun c _ => show freeP cs c = leftP y z cs xs 0 c by unfold leftP; rw [decide_eq_false (by omega)]; simp], rfl, rfl, rfl⟩ ?_
      rintro m fr M' ⟨i, hi, hpre, b7, hst, f1, f2, f7, f8, f34, f35, f36⟩
      simp (disch := omega) only [f1, f2, f7, f8, f34, f35, f36, ↓SXd, SXu, slBounds, ↓sop, ↓aop, ↓reduceIte, LV.cells, AOp.dst, LV.I, LV.B, LV.U, LV.S, LV.nil, Nat.reduceEqDiff, Nat.reduceAdd, Nat.reduceMul, Nat.reduceSub, Nat.reduceLeDiff, Nat.reduceBEq, Nat.reduceDiv, Nat.reduceMod, Int.reduceToNat, Int.reduceLT, Int.reduceLE, Int.reduceAdd, Int.reduceSub, Int.reduceMul, Int.reduceEq, Int.reduceNeg, reduceCtorEq, resV, resAll, ARes.ev, LV.flat, ite_true, ite_false, exists_eq_left', exists_eq_left, keyOf, implies_true, fillC, capOf]
      refine condC_dec (fun hlt => ?_) (fun hlt => ?_)
      · have hiL : i < L.length := by omega
        obtain ⟨v, o', hg, hT⟩ := (hP.pre hpre).get hiL
        have hPi := hA.1 _ (getD_mem' (d := []) hiL)
        have hbl := b7.lt
        have hbad : ∀ {P : Prop}, (StepOK x y z cs L xs i → P) → ImplPk x y z cs L xs → P := fun h1 h2 => h1 (h2.2.2.1 i hiL)
        have hpl := hPi.1
        have hlin : ∀ c ∈ L.getD i [], c.inBox 4 4 4 := fun c hc => hPi.2.1.mem hc
        simp (disch := omega) only [f1, f2, f7, f8, f34, f35, f36, hg, Nat.mul_one, Nat.zero_add, ↓SXd, SXu, slBounds, ↓sop, ↓aop, ↓reduceIte, LV.cells, AOp.dst, LV.I, LV.B, LV.U, LV.S, LV.nil, Nat.reduceEqDiff, Nat.reduceAdd, Nat.reduceMul, Nat.reduceSub, Nat.reduceLeDiff, Nat.reduceBEq, Nat.reduceDiv, Nat.reduceMod, Int.reduceToNat, Int.reduceLT, Int.reduceLE, Int.reduceAdd, Int.reduceSub, Int.reduceMul, Int.reduceEq, Int.reduceNeg, reduceCtorEq, resV, resAll, ARes.ev, LV.flat, ite_true, ite_false, exists_eq_left', exists_eq_left, keyOf, implies_true, fillC, capOf]
        refine ev_loop (fun m2 fr2 M2 => ∃ j : Nat, j + m2 = xs.length ∧ M2 = M' ∧
          fr2 1 = .ref u 0 L.length ∧ fr2 2 = .ref q r xs.length ∧ fr2 7 = .ptr (M.length + 1) 0 ∧ fr2 8 = .W (bs x y z (leftP y z cs xs i)) ∧ fr2 9 = .I i ∧ fr2 10 = .ref v o' (L.getD i []).length ∧ fr2 11 = .W (bs x y z fun c => decide ((idx y z c).toNat < j) && decide (atL y z xs c = i)) ∧ fr2 34 = .ref u 0 L.length ∧ fr2 35 = .I L.length ∧ fr2 36 = .I i ∧ fr2 41 = .ref q r xs.length ∧ fr2 42 = .I xs.length ∧ fr2 43 = .I j) xs.length
          ⟨0, by omega, rfl, f1, f2, f7, f8, rfl, rfl, by rw [show (bs x y z fun c => decide ((idx y z c).toNat < 0) && decide (atL y z xs c = i)) = 0#64 from (bs_zero hS).2 fun c _ => by simp]; rfl, f34, f35, f36, rfl, rfl, rfl⟩ ?_
        rintro m2 fr2 M2 ⟨j, hj, rfl, g1, g2, g7, g8, g9, g10, g11, g34, g35, g36, g41, g42, g43⟩
        simp (disch := omega) only [g1, g2, g7, g8, g9, g10, g11, g34, g35, g36, g41, g42, g43, ↓SXd, SXu, slBounds, ↓sop, ↓aop, ↓reduceIte, LV.cells, AOp.dst, LV.I, LV.B, LV.U, LV.S, LV.nil, Nat.reduceEqDiff, Nat.reduceAdd, Nat.reduceMul, Nat.reduceSub, Nat.reduceLeDiff, Nat.reduceBEq, Nat.reduceDiv, Nat.reduceMod, Int.reduceToNat, Int.reduceLT, Int.reduceLE, Int.reduceAdd, Int.reduceSub, Int.reduceMul, Int.reduceEq, Int.reduceNeg, reduceCtorEq, resV, resAll, ARes.ev, LV.flat, ite_true, ite_false, exists_eq_left', exists_eq_left, keyOf, implies_true, fillC, capOf]
        refine condC_dec (fun hlt2 => ?_) (fun hlt2 => ?_)
        · have hjx : j < xs.length := by omega
          have hx := Ints.get (hX.pre hpre) hjx
          have hcj := cellAt_in hS (i := (j : Int)) (by omega) (by omega)
          have hone : 1#64 <<< j = bs x y z fun d => decide (d = cellAt y z j) := by
            have := bs_one hS hcj.1
            rwa [hcj.2, Int.toNat_natCast] at this
          have hatj := hat j (by omega)
          have hidx : ∀ c, c.inBox x y z → ((idx y z c).toNat = j ↔ c = cellAt y z j) := fun c hc => by
            obtain ⟨h5, h6, h7⟩ := idx_in hS hc
            constructor
            · intro e; rw [← h7]; congr 1; omega
            · rintro rfl; rw [hcj.2, Int.toNat_natCast]
          have hstep : ∀ c, c.inBox x y z → (decide ((idx y z c).toNat < j + 1) && decide (atL y z xs c = i)) = ((decide ((idx y z c).toNat < j) && decide (atL y z xs c = i)) || (decide (c = cellAt y z j) && decide (atL y z xs c = i))) := fun c hc => by
            rw [← Bool.and_or_distrib_right]
            congr 1
            rw [Bool.eq_iff_iff, Bool.or_eq_true, decide_eq_true_iff, decide_eq_true_iff, decide_eq_true_iff, ← hidx c hc]; omega
          by_cases hxi : xs.getD j 0 = i
          · simp (disch := omega) only [g1, g2, g7, g8, g9, g10, g11, g34, g35, g36, g41, g42, g43, hx, hxi, hone, Nat.mul_one, ↓SXd, SXu, slBounds, ↓sop, ↓aop, ↓reduceIte, LV.cells, AOp.dst, LV.I, LV.B, LV.U, LV.S, LV.nil, Nat.reduceEqDiff, Nat.reduceAdd, Nat.reduceMul, Nat.reduceSub, Nat.reduceLeDiff, Nat.reduceBEq, Nat.reduceDiv, Nat.reduceMod, Int.reduceToNat, Int.reduceLT, Int.reduceLE, Int.reduceAdd, Int.reduceSub, Int.reduceMul, Int.reduceEq, Int.reduceNeg, reduceCtorEq, resV, resAll, ARes.ev, LV.flat, ite_true, ite_false, exists_eq_left', exists_eq_left, keyOf, implies_true, fillC, capOf]
            rw [bs_or hS]
            exact ⟨m2 - 1, by omega, j + 1, by omega, rfl, g1, g2, g7, g8, g9, g10, by
              show LV.W _ = LV.W _
              rw [(bs_eq hS).2 fun c hc => show ((decide ((idx y z c).toNat < j) && decide (atL y z xs c = i)) || decide (c = cellAt y z j)) = (decide ((idx y z c).toNat < j + 1) && decide (atL y z xs c = i)) by
                rw [hstep c hc]
                by_cases e : c = cellAt y z j
                · rw [e, hatj, hxi]; simp
                · rw [decide_eq_false e]; simp], g34, g35, g36, g41, g42, eqI (natI _)⟩
          · simp (disch := omega) only [g1, g2, g7, g8, g9, g10, g11, g34, g35, g36, g41, g42, g43, hx, hxi, Nat.mul_one, ↓SXd, SXu, slBounds, ↓sop, ↓aop, ↓reduceIte, LV.cells, AOp.dst, LV.I, LV.B, LV.U, LV.S, LV.nil, Nat.reduceEqDiff, Nat.reduceAdd, Nat.reduceMul, Nat.reduceSub, Nat.reduceLeDiff, Nat.reduceBEq, Nat.reduceDiv, Nat.reduceMod, Int.reduceToNat, Int.reduceLT, Int.reduceLE, Int.reduceAdd, Int.reduceSub, Int.reduceMul, Int.reduceEq, Int.reduceNeg, reduceCtorEq, resV, resAll, ARes.ev, LV.flat, ite_true, ite_false, exists_eq_left', exists_eq_left, keyOf, implies_true, fillC, capOf]
            exact ⟨m2 - 1, by omega, j + 1, by omega, rfl, g1, g2, g7, g8, g9, g10, by
              show fr2 11 = LV.W _
              rw [g11, (bs_eq hS).2 fun c hc => show (decide ((idx y z c).toNat < j) && decide (atL y z xs c = i)) = (decide ((idx y z c).toNat < j + 1) && decide (atL y z xs c = i)) by
                rw [hstep c hc]
                by_cases e : c = cellAt y z j
                · rw [e, hatj, decide_eq_false hxi]; simp
                · rw [decide_eq_false e]; simp], g34, g35, g36, g41, g42, eqI (natI _)⟩
        · have : j = xs.length := by omega
          subst this
          rw [(bs_eq hS).2 fun c hc => show (decide ((idx y z c).toNat < xs.length) && decide (atL y z xs c = i)) = decide (atL y z xs c = i) by
            have := idx_in hS hc
            rw [decide_eq_true (show (idx y z c).toNat < xs.length by omega), Bool.true_and]] at g11
          have hfz : bs x y z (fun c => decide (atL y z xs c = i)) = 0#64 ↔ fib x y z xs i = [] := by
            rw [bs_zero hS]
            unfold fib pick
            rw [List.filter_eq_nil_iff]
            exact ⟨fun h c hc => by rw [h c ((mem_cellsOf hS).1 hc)]; simp, fun h c hc => by simpa using h c ((mem_cellsOf hS).2 hc)⟩
          by_cases hz : bs x y z (fun c => decide (atL y z xs c = i)) = 0#64
          · simp (disch := omega) only [g1, g2, g7, g8, g9, g10, g11, g34, g35, g36, hz, ↓SXd, SXu, slBounds, ↓sop, ↓aop, ↓reduceIte, LV.cells, AOp.dst, LV.I, LV.B, LV.U, LV.S, LV.nil, Nat.reduceEqDiff, Nat.reduceAdd, Nat.reduceMul, Nat.reduceSub, Nat.reduceLeDiff, Nat.reduceBEq, Nat.reduceDiv, Nat.reduceMod, Int.reduceToNat, Int.reduceLT, Int.reduceLE, Int.reduceAdd, Int.reduceSub, Int.reduceMul, Int.reduceEq, Int.reduceNeg, reduceCtorEq, resV, resAll, ARes.ev, LV.flat, ite_true, ite_false, exists_eq_left', exists_eq_left, keyOf, implies_true, fillC, capOf]
            exact hno (hbad fun hh => hh.1 (hfz.1 hz)) hpre
          · have hfne : fib x y z xs i ≠ [] := fun e => hz (hfz.2 e)
            have hfl : 0 < (fib x y z xs i).length := List.length_pos_iff.2 hfne
            have hfl64 : (fib x y z xs i).length ≤ 64 := pick_len hS _
            have hf0 := getD_mem' (d := default) hfl
            have hf0b := box4 hS ((mem_pick hS).1 hf0).1
            have hl0 := hlin _ (getD_mem' (d := default) (show 0 < (L.getD i []).length by omega))
            have hT0 := Tri.get hT (k := 0) (by omega)
            have hst3 : StepOK x y z cs L xs i ↔ PlacedOK x y z (leftP y z cs xs i) (L.getD i []) (tryAt x y z L xs i) ∧ ∀ d, d.inBox x y z → (d ∈ (L.getD i []).map (shift (tryAt x y z L xs i)) ↔ d ∈ fib x y z xs i) := ⟨fun h => ⟨h.2.1, h.2.2⟩, fun h => ⟨hfne, h.1, h.2⟩⟩
            have htry : tryAt x y z L xs i = shift (negC ((L.getD i []).getD 0 default)) ((fib x y z xs i).getD 0 default) := rfl
            simp (disch := omega) only [g1, g2, g7, g8, g9, g10, g11, g34, g35, g36, hz, b7.cells, ↓SXd, SXu, slBounds, ↓sop, ↓aop, ↓reduceIte, LV.cells, AOp.dst, LV.I, LV.B, LV.U, LV.S, LV.nil, Nat.reduceEqDiff, Nat.reduceAdd, Nat.reduceMul, Nat.reduceSub, Nat.reduceLeDiff, Nat.reduceBEq, Nat.reduceDiv, Nat.reduceMod, Int.reduceToNat, Int.reduceLT, Int.reduceLE, Int.reduceAdd, Int.reduceSub, Int.reduceMul, Int.reduceEq, Int.reduceNeg, reduceCtorEq, resV, resAll, ARes.ev, LV.flat, ite_true, ite_false, exists_eq_left', exists_eq_left, keyOf, implies_true, fillC, capOf]
            refine callN_of (g_list hS) ?_
            intro w N hw hpN hlN
            change Live N w (.row (triL (fib x y z xs i)) true 3) at hlN
            rw [show pick x y z (fun c => decide (atL y z xs c = i)) = fib x y z xs i from rfl]
            have hgQ := hlN.tri0 (k := 0) hfl
            have hT' := (hT.pre hpN).app (L := [some (.row [.I ((fib x y z xs i).getD 0 default).a, .I ((fib x y z xs i).getD 0 default).b, .I ((fib x y z xs i).getD 0 default).c] true 0)])
            have hTa := Tri.get_a hT' (k := 0) (by omega)
            have hTb := Tri.get_b hT' (k := 0) (by omega)
            have hTc := Tri.get_c hT' (k := 0) (by omega)
            rw [Nat.zero_mul, Nat.add_zero] at hTa hTb hTc
            have b7N := b7.pre hpN
            have hbl7 := b7N.lt
            have hlL : 0 < (L.getD i []).length := by omega
            have hneg : (⟨0 - ((L.getD i []).getD 0 default).a, 0 - ((L.getD i []).getD 0 default).b, 0 - ((L.getD i []).getD 0 default).c⟩ : Cell) = negC ((L.getD i []).getD 0 default) := by unfold negC; rw [Int.zero_sub, Int.zero_sub, Int.zero_sub]
            rw [Nat.zero_mul] at hgQ
            generalize hc0 : (fib x y z xs i).getD 0 default = c0 at hgQ hf0b htry hTa hTb hTc hT'
            generalize hd0 : (L.getD i []).getD 0 default = d0 at hl0 hTa hTb hTc hneg htry
            obtain ⟨⟨_, _⟩, ⟨_, _⟩, ⟨_, _⟩⟩ := id hf0b
            obtain ⟨⟨_, _⟩, ⟨_, _⟩, ⟨_, _⟩⟩ := id hl0
            simp (disch := omega) only [g1, g2, g7, g8, g9, g10, g11, g34, g35, g36, hgQ, Cell.row, splice, b7N.app.cells, hTa, hTb, hTc, Nat.zero_mul, Nat.add_zero, ↓SXd, SXu, slBounds, ↓sop, ↓aop, ↓reduceIte, LV.cells, AOp.dst, LV.I, LV.B, LV.U, LV.S, LV.nil, Nat.reduceEqDiff, Nat.reduceAdd, Nat.reduceMul, Nat.reduceSub, Nat.reduceLeDiff, Nat.reduceBEq, Nat.reduceDiv, Nat.reduceMod, Int.reduceToNat, Int.reduceLT, Int.reduceLE, Int.reduceAdd, Int.reduceSub, Int.reduceMul, Int.reduceEq, Int.reduceNeg, reduceCtorEq, resV, resAll, ARes.ev, LV.flat, ite_true, ite_false, exists_eq_left', exists_eq_left, keyOf, implies_true, fillC, capOf]
            refine callK_of (g_added (c := c0) (p := ⟨0 - d0.a, 0 - d0.b, 0 - d0.c⟩) ⟨by omega, by omega, by omega⟩ ⟨by show _ ∧ _; simp only; omega, by show _ ∧ _; simp only; omega, by show _ ∧ _; simp only; omega⟩) ?_
            rw [hneg, ← htry]
            simp (disch := omega) only [g1, g2, g7, g8, g9, g10, g11, g34, g35, g36, ↓SXd, SXu, slBounds, ↓sop, ↓aop, ↓reduceIte, LV.cells, AOp.dst, LV.I, LV.B, LV.U, LV.S, LV.nil, Nat.reduceEqDiff, Nat.reduceAdd, Nat.reduceMul, Nat.reduceSub, Nat.reduceLeDiff, Nat.reduceBEq, Nat.reduceDiv, Nat.reduceMod, Int.reduceToNat, Int.reduceLT, Int.reduceLE, Int.reduceAdd, Int.reduceSub, Int.reduceMul, Int.reduceEq, Int.reduceNeg, reduceCtorEq, resV, resAll, ARes.ev, LV.flat, ite_true, ite_false, exists_eq_left', exists_eq_left, keyOf, implies_true, fillC, capOf]
            refine callK_of (g_placed hS hT' (by omega) hlin) ?_
            have hpN' : Pre M (N ++ [some (.row [.I c0.a, .I c0.b, .I c0.c] true 0)]) := (hpre.trans hpN).app'
            by_cases hpo : PlacedOK x y z (leftP y z cs xs i) (L.getD i []) (tryAt x y z L xs i)
            · rw [if_pos hpo, decide_eq_true hpo]
              by_cases heq : bs x y z (fun d => decide (d ∈ (L.getD i []).map (shift (tryAt x y z L xs i)))) = bs x y z fun c => decide (atL y z xs c = i)
              · have hsi : StepOK x y z cs L xs i := hst3.2 ⟨hpo, fun d hd => by
                  have := (bs_eq hS).1 heq d hd
                  rw [decide_eq_decide] at this
                  rw [this]; unfold fib; rw [mem_pick hS, decide_eq_true_iff]; exact ⟨fun h => ⟨hd, h⟩, fun h => h.2⟩⟩
                rw [heq]
                simp (disch := omega) only [g1, g2, g7, g8, g9, g10, g11, g34, g35, g36, ↓SXd, SXu, slBounds, ↓sop, ↓aop, ↓reduceIte, LV.cells, AOp.dst, LV.I, LV.B, LV.U, LV.S, LV.nil, Nat.reduceEqDiff, Nat.reduceAdd, Nat.reduceMul, Nat.reduceSub, Nat.reduceLeDiff, Nat.reduceBEq, Nat.reduceDiv, Nat.reduceMod, Int.reduceToNat, Int.reduceLT, Int.reduceLE, Int.reduceAdd, Int.reduceSub, Int.reduceMul, Int.reduceEq, Int.reduceNeg, reduceCtorEq, resV, resAll, ARes.ev, LV.flat, ite_true, ite_false, exists_eq_left', exists_eq_left, keyOf, implies_true, fillC, capOf]
                rw [bs_diff hS]
                exact ⟨m - 1, by omega, i + 1, by omega, hpN', b7N.app, fun j hj => by
                  rcases Nat.lt_or_ge j i with h3 | h3
                  · exact hst j h3
                  · rw [show j = i by omega]; exact hsi, g1, g2, g7, by
                  show LV.W _ = LV.W _
                  rw [(bs_eq hS).2 fun c hc => show (leftP y z cs xs i c && !decide (atL y z xs c = i)) = leftP y z cs xs (i + 1) c by
                    unfold leftP
                    rw [Bool.and_assoc]
                    congr 1
                    rw [Bool.eq_iff_iff]
                    simp only [Bool.and_eq_true, Bool.not_eq_true', decide_eq_false_iff_not]
                    omega], g34, g35, eqI (natI _)⟩
              · simp (disch := omega) only [g1, g2, g7, g8, g9, g10, g11, g34, g35, g36, heq, ↓SXd, SXu, slBounds, ↓sop, ↓aop, ↓reduceIte, LV.cells, AOp.dst, LV.I, LV.B, LV.U, LV.S, LV.nil, Nat.reduceEqDiff, Nat.reduceAdd, Nat.reduceMul, Nat.reduceSub, Nat.reduceLeDiff, Nat.reduceBEq, Nat.reduceDiv, Nat.reduceMod, Int.reduceToNat, Int.reduceLT, Int.reduceLE, Int.reduceAdd, Int.reduceSub, Int.reduceMul, Int.reduceEq, Int.reduceNeg, reduceCtorEq, resV, resAll, ARes.ev, LV.flat, ite_true, ite_false, exists_eq_left', exists_eq_left, keyOf, implies_true, fillC, capOf]
                exact hno (hbad fun hh => heq ((bs_eq hS).2 fun d hd => by
                  have := (hst3.1 hh).2 d hd
                  rw [decide_eq_decide, this]; unfold fib; rw [mem_pick hS, decide_eq_true_iff]; exact ⟨fun h => h.2, fun h => ⟨hd, h⟩⟩)) hpN'
            · rw [if_neg hpo, decide_eq_false hpo]
              simp (disch := omega) only [g1, g2, g7, g8, g9, g10, g11, g34, g35, g36, ↓SXd, SXu, slBounds, ↓sop, ↓aop, ↓reduceIte, LV.cells, AOp.dst, LV.I, LV.B, LV.U, LV.S, LV.nil, Nat.reduceEqDiff, Nat.reduceAdd, Nat.reduceMul, Nat.reduceSub, Nat.reduceLeDiff, Nat.reduceBEq, Nat.reduceDiv, Nat.reduceMod, Int.reduceToNat, Int.reduceLT, Int.reduceLE, Int.reduceAdd, Int.reduceSub, Int.reduceMul, Int.reduceEq, Int.reduceNeg, reduceCtorEq, resV, resAll, ARes.ev, LV.flat, ite_true, ite_false, exists_eq_left', exists_eq_left, keyOf, implies_true, fillC, capOf]
              exact hno (hbad fun hh => hpo (hst3.1 hh).1) hpN'
      · have : i = L.length := by omega
        subst this
        by_cases hz : bs x y z (leftP y z cs xs L.length) = 0#64
        · simp (disch := omega) only [f1, f2, f7, f8, f34, f35, f36, hz, ↓SXd, SXu, slBounds, ↓sop, ↓aop, ↓reduceIte, LV.cells, AOp.dst, LV.I, LV.B, LV.U, LV.S, LV.nil, Nat.reduceEqDiff, Nat.reduceAdd, Nat.reduceMul, Nat.reduceSub, Nat.reduceLeDiff, Nat.reduceBEq, Nat.reduceDiv, Nat.reduceMod, Int.reduceToNat, Int.reduceLT, Int.reduceLE, Int.reduceAdd, Int.reduceSub, Int.reduceMul, Int.reduceEq, Int.reduceNeg, reduceCtorEq, resV, resAll, ARes.ev, LV.flat, ite_true, ite_false, exists_eq_left', exists_eq_left, keyOf, implies_true, fillC, capOf]
          rw [decide_eq_true (hiff.2 ⟨h1', h2, fun j hj => hst j hj, (bs_zero hS).1 hz⟩)]
          exact cmp_pre hpre rfl
        · simp (disch := omega) only [f1, f2, f7, f8, f34, f35, f36, hz, ↓SXd, SXu, slBounds, ↓sop, ↓aop, ↓reduceIte, LV.cells, AOp.dst, LV.I, LV.B, LV.U, LV.S, LV.nil, Nat.reduceEqDiff, Nat.reduceAdd, Nat.reduceMul, Nat.reduceSub, Nat.reduceLeDiff, Nat.reduceBEq, Nat.reduceDiv, Nat.reduceMod, Int.reduceToNat, Int.reduceLT, Int.reduceLE, Int.reduceAdd, Int.reduceSub, Int.reduceMul, Int.reduceEq, Int.reduceNeg, reduceCtorEq, resV, resAll, ARes.ev, LV.flat, ite_true, ite_false, exists_eq_left', exists_eq_left, keyOf, implies_true, fillC, capOf]
          exact hno (fun hh => hz ((bs_zero hS).2 hh.2.2.2)) hpre
    · rw [decide_eq_false h2]
      simp (disch := omega) only [↓SXd, SXu, slBounds, ↓sop, ↓aop, ↓reduceIte, LV.cells, AOp.dst, LV.I, LV.B, LV.U, LV.S, LV.nil, Nat.reduceEqDiff, Nat.reduceAdd, Nat.reduceMul, Nat.reduceSub, Nat.reduceLeDiff, Nat.reduceBEq, Nat.reduceDiv, Nat.reduceMod, Int.reduceToNat, Int.reduceLT, Int.reduceLE, Int.reduceAdd, Int.reduceSub, Int.reduceMul, Int.reduceEq, Int.reduceNeg, reduceCtorEq, resV, resAll, ARes.ev, LV.flat, ite_true, ite_false, exists_eq_left', exists_eq_left, keyOf, implies_true, fillC, capOf]
      exact hno (fun hp => h2 hp.2.1) (Pre.app _ _)
  · simp (disch := omega) only [h1, ↓SXd, SXu, slBounds, ↓sop, ↓aop, ↓reduceIte, LV.cells, AOp.dst, LV.I, LV.B, LV.U, LV.S, LV.nil, Nat.reduceEqDiff, Nat.reduceAdd, Nat.reduceMul, Nat.reduceSub, Nat.reduceLeDiff, Nat.reduceBEq, Nat.reduceDiv, Nat.reduceMod, Int.reduceToNat, Int.reduceLT, Int.reduceLE, Int.reduceAdd, Int.reduceSub, Int.reduceMul, Int.reduceEq, Int.reduceNeg, reduceCtorEq, resV, resAll, ARes.ev, LV.flat, ite_true, ite_false, exists_eq_left', exists_eq_left, keyOf, implies_true, fillC, capOf]
    exact hno (fun hp => h1 (by have := hp.1; omega)) (Pre.app _ _)
end Go.Ab
