/- Parts of the proof of FnDominoesSaid: Eb2 Eb3 Mb Mc Md Ec Ed Ee Ef C_Dh K_Dh C_Dg K_Dg C_Df K_Df Df Dg Dh Eg Me Mf Ec2 Ed2 Mh Ej Mg Mi Bg C_Bb K_Bb Bb Bh C_El K_El C_Ek K_Ek Ek El Bk C_Kb K_Kb C_Ol K_Ol Ol C_Oj K_Oj Oj Bt Xa Ka C_Xb K_Xb C_Bw K_Bw C_Bv K_Bv C_Bu K_Bu C_Je K_Je Je C_Ul K_Ul Ul Bu Bv Bw Xb Kb Cd Yn C_Ym K_Ym C_Vc K_Vc C_Um K_Um Um Pw Vc. -/
import Derived.Test.YtggnfklcgopflaaA8
import Derived.Test.YtggnfklcgopflaaA4
import Derived.Test.YtggnfklcgopflaaA5
import Derived.Laws.Bits64
import Derived.Test.YtggnfklcgopflaaA3
import Derived.Test.YtggnfklcgopflaaProg
import Derived.KernelRfl
import Derived.Test.YtggnfklcgopflaaA7
import Derived.Test.YtggnfklcgopflaaA6
set_option linter.all false
/- Contracts: g_heights. -/
namespace Go.Ab
open Go
set_option linter.unusedSimpArgs false
set_option linter.unusedVariables false
set_option maxRecDepth 20000

theorem g_heights {x y z : Int} {t o : Nat} {cs : List Cell} {M : Mem} (h : Tri M t o cs) (hn : cs.length ≤ 1000000000) (hH : HeapOK x y z cs) :
    CallsTo PG F.impl_Heap_heights [.agg [.I x, .I y, .I z, .ref t o cs.length]] M (.ref M.length 0 (x * y).toNat) (M ++ [some (.row (intL (topsOf x y cs)) true 1)]) := by
  have hb := mul_bound hH.1.1 hH.1.2.1
  refine calls_run K.impl_Heap_heights rfl ?_
  simp (disch := omega) only [C.impl_Heap_heights, made_int, ↓SXd, SXu, slBounds, ↓sop, ↓aop, ↓reduceIte, LV.cells, AOp.dst, LV.I, LV.B, LV.U, LV.S, LV.nil, Nat.reduceEqDiff, Nat.reduceAdd, Nat.reduceMul, Nat.reduceSub, Nat.reduceLeDiff, Nat.reduceBEq, Nat.reduceDiv, Nat.reduceMod, Int.reduceToNat, Int.reduceLT, Int.reduceLE, Int.reduceAdd, Int.reduceSub, Int.reduceMul, Int.reduceEq, Int.reduceNeg, reduceCtorEq, resV, resAll, ARes.ev, LV.flat, ite_true, ite_false, exists_eq_left', exists_eq_left, keyOf, implies_true, fillC, capOf]
  refine ev_loop (fun m fr M' => ∃ (k : Nat) (out : List Int), k + m = cs.length ∧ Pre M M' ∧ Live M' M.length (.row [.I x, .I y, .I z, .ref t o cs.length] true 0) ∧ Live M' (M.length + 1) (.row (intL out) true 1) ∧
    fr 1 = .ptr M.length 0 ∧ fr 3 = .ref (M.length + 1) 0 (x * y).toNat ∧ fr 14 = .ref t o cs.length ∧ fr 15 = .I (cs.length : Nat) ∧ fr 16 = .I k ∧
    out = (cs.take k).foldl (topStep y) (List.replicate (x * y).toNat 0) ∧ out.length = (x * y).toNat) cs.length ⟨0, _, by omega, Pre.app _ _, Live.new, Live.newj rfl, rfl, rfl, rfl, rfl, rfl, rfl, by simp⟩ ?_
  rintro m fr M' ⟨k, out, hk, hpre, hbox, hout, h1, h3, h14, h15, h16, ho, hol⟩
  have h' : Tri M' t o cs := h.pre hpre
  have ht := h'.lt
  simp (disch := omega) only [h1, h3, h14, h15, h16, ↓SXd, SXu, slBounds, ↓sop, ↓aop, ↓reduceIte, LV.cells, AOp.dst, LV.I, LV.B, LV.U, LV.S, LV.nil, Nat.reduceEqDiff, Nat.reduceAdd, Nat.reduceMul, Nat.reduceSub, Nat.reduceLeDiff, Nat.reduceBEq, Nat.reduceDiv, Nat.reduceMod, Int.reduceToNat, Int.reduceLT, Int.reduceLE, Int.reduceAdd, Int.reduceSub, Int.reduceMul, Int.reduceEq, Int.reduceNeg, reduceCtorEq, resV, resAll, ARes.ev, LV.flat, ite_true, ite_false, exists_eq_left', exists_eq_left, keyOf, implies_true, fillC, capOf]
  refine condC_dec (fun hlt => ?_) (fun hlt => ?_)
  · obtain ⟨ca, cb, cc⟩ := hH.cell' (k := k) (by omega)
    have hS := hH.1
    obtain ⟨b1, b2, b3, b4⟩ := col_bound hS.1 hS.2.1 ca cb
    obtain ⟨_, hy, hz⟩ := hS
    have hbox' : ∀ {L : Mem} {o n : Nat}, getCells (M' ++ L) M.length o n = _ := fun {L o n} => (hbox.app (L := L)).cells
    have houtc : ∀ {L : Mem} {o : Nat}, getCell (M' ++ L) (M.length + 1) o = _ := fun {L o} => (hout.app (L := L)).cell
    simp (disch := omega) only [h1, h3, h14, h15, h16, Tri.get h', Cell.row, hbox', ↓SXd, SXu, slBounds, ↓sop, ↓aop, ↓reduceIte, LV.cells, AOp.dst, LV.I, LV.B, LV.U, LV.S, LV.nil, Nat.reduceEqDiff, Nat.reduceAdd, Nat.reduceMul, Nat.reduceSub, Nat.reduceLeDiff, Nat.reduceBEq, Nat.reduceDiv, Nat.reduceMod, Int.reduceToNat, Int.reduceLT, Int.reduceLE, Int.reduceAdd, Int.reduceSub, Int.reduceMul, Int.reduceEq, Int.reduceNeg, reduceCtorEq, resV, resAll, ARes.ev, LV.flat, ite_true, ite_false, exists_eq_left', exists_eq_left, keyOf, implies_true, fillC, capOf]
    refine callK_of g_box ?_
    simp (disch := omega) only [h1, h3, h14, h15, h16, Tri.get h', Cell.row, hbox', ↓SXd, SXu, slBounds, ↓sop, ↓aop, ↓reduceIte, LV.cells, AOp.dst, LV.I, LV.B, LV.U, LV.S, LV.nil, Nat.reduceEqDiff, Nat.reduceAdd, Nat.reduceMul, Nat.reduceSub, Nat.reduceLeDiff, Nat.reduceBEq, Nat.reduceDiv, Nat.reduceMod, Int.reduceToNat, Int.reduceLT, Int.reduceLE, Int.reduceAdd, Int.reduceSub, Int.reduceMul, Int.reduceEq, Int.reduceNeg, reduceCtorEq, resV, resAll, ARes.ev, LV.flat, ite_true, ite_false, exists_eq_left', exists_eq_left, keyOf, implies_true, fillC, capOf]
    refine callK_of (g_line2 (by omega) (by omega)) ?_
    simp (disch := omega) only [h1, h3, h14, h15, h16, Tri.get h', Cell.row, hbox', houtc, intL_get, maxV, if_true, ↓SXd, SXu, slBounds, ↓sop, ↓aop, ↓reduceIte, LV.cells, AOp.dst, LV.I, LV.B, LV.U, LV.S, LV.nil, Nat.reduceEqDiff, Nat.reduceAdd, Nat.reduceMul, Nat.reduceSub, Nat.reduceLeDiff, Nat.reduceBEq, Nat.reduceDiv, Nat.reduceMod, Int.reduceToNat, Int.reduceLT, Int.reduceLE, Int.reduceAdd, Int.reduceSub, Int.reduceMul, Int.reduceEq, Int.reduceNeg, reduceCtorEq, resV, resAll, ARes.ev, LV.flat, ite_true, ite_false, exists_eq_left', exists_eq_left, keyOf, implies_true, fillC, capOf]
    refine memK_int hout.app (by omega) fun N l1 l2 l3 => ?_
    simp (disch := omega) only [h1, h3, h14, h15, h16, ↓SXd, SXu, slBounds, ↓sop, ↓aop, ↓reduceIte, LV.cells, AOp.dst, LV.I, LV.B, LV.U, LV.S, LV.nil, Nat.reduceEqDiff, Nat.reduceAdd, Nat.reduceMul, Nat.reduceSub, Nat.reduceLeDiff, Nat.reduceBEq, Nat.reduceDiv, Nat.reduceMod, Int.reduceToNat, Int.reduceLT, Int.reduceLE, Int.reduceAdd, Int.reduceSub, Int.reduceMul, Int.reduceEq, Int.reduceNeg, reduceCtorEq, resV, resAll, ARes.ev, LV.flat, ite_true, ite_false, exists_eq_left', exists_eq_left, keyOf, implies_true, fillC, capOf]
    refine ⟨m - 1, by omega, k + 1, _, by omega, pre_step (Pre.app' hpre) (by omega) (j := 0) l1 l3, live_step hbox.app (by omega) l3, l2, h1, h3, h14, h15, eqI (natI _), ?_, by simpa using hol⟩
    rw [take_succ_foldl _ _ _ _ default (by omega), ← ho]
    rfl
  · simp (disch := omega) only [h1, h3, h14, h15, h16, ↓SXd, SXu, slBounds, ↓sop, ↓aop, ↓reduceIte, LV.cells, AOp.dst, LV.I, LV.B, LV.U, LV.S, LV.nil, Nat.reduceEqDiff, Nat.reduceAdd, Nat.reduceMul, Nat.reduceSub, Nat.reduceLeDiff, Nat.reduceBEq, Nat.reduceDiv, Nat.reduceMod, Int.reduceToNat, Int.reduceLT, Int.reduceLE, Int.reduceAdd, Int.reduceSub, Int.reduceMul, Int.reduceEq, Int.reduceNeg, reduceCtorEq, resV, resAll, ARes.ev, LV.flat, ite_true, ite_false, exists_eq_left', exists_eq_left, keyOf, implies_true, fillC, capOf]
    have : k = cs.length := by omega
    subst this
    rw [List.take_length] at ho
    rw [show topsOf x y cs = out from ho.symm]
    exact cmp_keepL hpre (by omega) hout (intL_lo out) (by simp [rn, rn0, rn1])

end Go.Ab

/- Contracts: g_top g_isTop g_isTop_nil. -/
namespace Go.Ab
open Go
set_option linter.unusedSimpArgs false
set_option linter.unusedVariables false
set_option maxRecDepth 20000

end Go.Ab

/- Plain words: how far columns are, step by step. -/
namespace Go.Ab

/-- One neighbour of column p is looked at. -/
def visit (p : Int) (st : List Int × List Int) (q : Int) : List Int × List Int :=
  if st.1.getD q.toNat 0 < 0 then (st.1.set q.toNat (st.1.getD p.toNat 0 + 1), st.2 ++ [q]) else st
def bfs (N : Int → List Int) : Nat → Nat → List Int × List Int → List Int
  | 0, _, st => st.1
  | f + 1, n, st => if n < st.2.length then bfs N f (n + 1) ((N (st.2.getD n 0)).foldl (visit (st.2.getD n 0)) st) else st.1
/-- How many steps lead from column p to each column, or -1. -/
def farFrom (c : Nat) (N : Int → List Int) (p : Int) : List Int := bfs N c 0 ((List.replicate c (-1)).set p.toNat 0, [p])

structure BInv (c : Nat) (st : List Int × List Int) : Prop where
  len : st.1.length = c
  cnt : st.1.countP (fun v => decide (v < 0)) + st.2.length = c
  mem : ∀ q ∈ st.2, 0 ≤ q ∧ q < (c : Int)
  val : ∀ k, k < c → -1 ≤ st.1.getD k 0 ∧ st.1.getD k 0 ≤ (st.2.length : Int)

theorem BInv.le {c : Nat} {st : List Int × List Int} (h : BInv c st) : st.2.length ≤ c := by have := h.cnt; omega

theorem BInv.visit {c : Nat} {st : List Int × List Int} {p q : Int} (h : BInv c st) (hp : 0 ≤ p ∧ p < c) (hq : 0 ≤ q ∧ q < c) : BInv c (Go.Ab.visit p st q) := by
  unfold Go.Ab.visit
  split
  · rename_i hlt
    have hql : q.toNat < st.1.length := by rw [h.len]; omega
    have hvp := h.val p.toNat (by omega)
    refine ⟨by simpa using h.len, ?_, fun r hr => ?_, fun k hk => ?_⟩
    · have h1 := h.cnt
      simp only [List.length_append, List.length_singleton]
      rw [List.countP_set hql]
      have e : st.1[q.toNat] = st.1.getD q.toNat 0 := by simp [hql]
      have h2 : 0 < st.1.countP (fun v => decide (v < 0)) := List.countP_pos_iff.2 ⟨st.1[q.toNat], List.getElem_mem _, by rw [e]; simpa using hlt⟩
      rw [e]
      simp only [hlt, decide_true, if_true, show decide (st.1.getD p.toNat 0 + 1 < 0) = false from decide_eq_false (by omega), Bool.false_eq_true, if_false]
      omega
    · rcases List.mem_append.1 hr with hr | hr
      · exact h.mem r hr
      · rw [List.mem_singleton.1 hr]; exact hq
    · simp only [List.length_append, List.length_singleton]
      rw [getD_set]
      have := h.val k hk
      split <;> omega
  · exact h

theorem BInv.start {c : Nat} {p : Int} (hp : 0 ≤ p ∧ p < c) : BInv c ((List.replicate c (-1)).set p.toNat 0, [p]) := by
  refine ⟨by simp, ?_, fun q hq => by rw [List.mem_singleton.1 hq]; exact hp, fun k hk => ?_⟩
  · have hl : p.toNat < (List.replicate c (-1 : Int)).length := by simp; omega
    simp only
    rw [List.countP_set hl, List.countP_replicate]
    simp
    omega
  · simp only [getD_set]
    split
    · simp
    · simp [hk]

end Go.Ab

/- Plain words: regions. -/
namespace Go.Ab

def spreadOf (x y : Int) (cs : List Cell) (p s : Int) : List Int := farFrom (x * y).toNat (fun q => stepsOf x y (topsOf x y cs) q s) p
def regionOf (x y : Int) (cs : List Cell) (p s : Int) : List Int := (nums (x * y).toNat).filter fun q => decide (0 ≤ (spreadOf x y cs p s).getD q.toNat 0)
def countRegions (x y : Int) (cs : List Cell) (s : Int) : Int := ((nums (x * y).toNat).filter fun p => decide ((regionOf x y cs p s).getD 0 0 = p)).length
end Go.Ab

/- Plain words: the neighbours of a column, the program's way; they are those of the reference. -/
namespace Go.Ab

def nearL (y c p : Int) : List Int :=
  (if y ≤ p then [p - y] else []) ++ ((if 0 < p.tmod y then [p - 1] else []) ++ ((if p.tmod y < y - 1 then [p + 1] else []) ++ (if p + y < c then [p + y] else [])))

end Go.Ab

/- Contracts: the program's steps between columns. -/
namespace Go.Ab
open Go
set_option linter.unusedSimpArgs false
set_option linter.unusedVariables false

end Go.Ab

/- Contracts: searching and deleting in slices, by a function. -/
namespace Go.Ab
open Go
set_option linter.unusedSimpArgs false
set_option linter.unusedVariables false

/-- The place of the first number with a mark, or -1. -/
def idxF (pr : Int → Bool) (xs : List Int) : Int := match xs.findIdx? pr with | some i => (i : Int) | none => -1
/-- What DeleteFunc leaves in the block: what stays, then zeros. -/
def delRow (pr : Int → Bool) (xs : List Int) : List Int := xs.filter (fun v => !pr v) ++ List.replicate (xs.length - (xs.filter fun v => !pr v).length) 0

end Go.Ab

/- Contracts: the program's steps; repeated numbers. -/
namespace Go.Ab
open Go
set_option linter.unusedSimpArgs false
set_option linter.unusedVariables false
set_option maxRecDepth 20000

/-- The row that the program's steps leave: the steps, then zeros. -/
def stepRow (x y : Int) (ts : List Int) (p s : Int) : List Int := stepsOf x y ts p s ++ List.replicate ((nexts x y p).length - (stepsOf x y ts p s).length) 0

end Go.Ab

/- Contracts: the program's distances. -/
namespace Go.Ab
open Go
set_option linter.unusedSimpArgs false
set_option linter.unusedVariables false

end Go.Ab

/- The abstract code of some functions (written by a program of mine from the translation, by way of prepF). -/
namespace Go.Ab.C
open Go.Ab
end Go.Ab.C

/- That the program has this code. -/
namespace Go.Ab.K
open Go Go.Ab
end Go.Ab.K

/- The abstract code of some functions (written by a program of mine from the translation, by way of prepF). -/
namespace Go.Ab.C
open Go.Ab
end Go.Ab.C

/- That the program has this code. -/
namespace Go.Ab.K
open Go Go.Ab
end Go.Ab.K

/- The abstract code of some functions (written by a program of mine from the translation, by way of prepF). -/
namespace Go.Ab.C
open Go.Ab
end Go.Ab.C

/- That the program has this code. -/
namespace Go.Ab.K
open Go Go.Ab
end Go.Ab.K

/- Contracts: the reference's steps. -/
namespace Go.Ab
open Go
set_option linter.unusedSimpArgs false
set_option linter.unusedVariables false

def Low (ts : List Int) : Prop := ∀ k, k < ts.length → -100 ≤ ts.getD k 0 ∧ ts.getD k 0 ≤ 100

end Go.Ab

/- Contracts: the reference's spread. -/
namespace Go.Ab
open Go
set_option linter.unusedSimpArgs false
set_option linter.unusedVariables false

end Go.Ab

/- Contracts: the reference's regions. -/
namespace Go.Ab
open Go
set_option linter.unusedSimpArgs false
set_option linter.unusedVariables false

/-- What TopRegion answers. -/
noncomputable def topRegionOf (x y z : Int) (cs : List Cell) (p s : Int) : Option (List Int) := if HeapOK x y z cs ∧ (0 ≤ p ∧ p ≤ x * y - 1) ∧ 0 ≤ s then some (regionOf x y cs p s) else none

/-- What CountRegions answers. -/
noncomputable def rcOf (x y z : Int) (cs : List Cell) (s : Int) : Option Int := if HeapOK x y z cs ∧ 0 ≤ s then some (countRegions x y cs s) else none

end Go.Ab

/- Contracts: the program's regions. -/
namespace Go.Ab
open Go
set_option linter.unusedSimpArgs false
set_option linter.unusedVariables false

end Go.Ab

/- Plain words: what a spread tells: the least number of steps. -/
namespace Go.Ab

/-- What is known of column v. -/
def dist (st : List Int × List Int) (v : Int) : Int := st.1.getD v.toNat 0

structure FInv (c : Nat) (N : Int → List Int) (p : Int) (n : Nat) (st : List Int × List Int) : Prop where
  base : BInv c st
  here : dist st p = 0
  nonneg : ∀ i, i < st.2.length → 0 ≤ dist st (st.2.getD i 0)
  listed : ∀ v : Int, 0 ≤ v → v < c → 0 ≤ dist st v → ∃ i, i < st.2.length ∧ st.2.getD i 0 = v
  sorted : ∀ i j, i ≤ j → j < st.2.length → dist st (st.2.getD i 0) ≤ dist st (st.2.getD j 0)
  parent : ∀ v : Int, 0 ≤ v → v < c → 0 < dist st v → ∃ a : Int, (0 ≤ a ∧ a < c) ∧ v ∈ N a ∧ 0 ≤ dist st a ∧ dist st v = dist st a + 1
  root : ∀ v : Int, 0 ≤ v → v < c → dist st v = 0 → v = p
  done : ∀ i, i < n → i < st.2.length → ∀ b ∈ N (st.2.getD i 0), 0 ≤ dist st b ∧ dist st b ≤ dist st (st.2.getD i 0) + 1

theorem FInv.start {c : Nat} {N : Int → List Int} {p : Int} (hp : 0 ≤ p ∧ p < c) : FInv c N p 0 ((List.replicate c (-1)).set p.toNat 0, [p]) := by
  have hd : ∀ v : Int, 0 ≤ v → v < c → dist ((List.replicate c (-1)).set p.toNat 0, [p]) v = if v = p then 0 else -1 := fun v h0 hc => by
    unfold dist
    simp only [getD_set, List.length_replicate]
    by_cases e : v = p
    · subst e; rw [if_pos ⟨rfl, by omega⟩, if_pos rfl]
    · rw [if_neg (fun h => e (by omega)), if_neg e]
      simp only [List.getD_eq_getElem?_getD, List.getElem?_replicate]
      rw [if_pos (by omega)]; rfl
  refine ⟨BInv.start hp, by rw [hd p hp.1 hp.2, if_pos rfl], fun i hi => ?_, fun v h0 hc hv => ?_, fun i j hij hj => ?_, fun v h0 hc hv => ?_, fun v h0 hc hv => ?_, fun i hi => by omega⟩
  · have : i = 0 := by simp at hi; omega
    subst this
    show 0 ≤ dist _ p
    rw [hd p hp.1 hp.2, if_pos rfl]; exact Int.le_refl 0
  · rw [hd v h0 hc] at hv
    split at hv
    · rename_i e; exact ⟨0, by simp, by simp [e]⟩
    · omega
  · have h1 : j = 0 := by simp at hj; omega
    have h2 : i = 0 := by omega
    subst h1; subst h2; exact Int.le_refl _
  · rw [hd v h0 hc] at hv; split at hv <;> omega
  · rw [hd v h0 hc] at hv; split at hv
    · assumption
    · omega

/-- Steps one behind the other. -/
inductive Way (N : Int → List Int) (p : Int) : Nat → Int → Prop
  | nil : Way N p 0 p
  | snoc {n : Nat} {a b : Int} : Way N p n a → b ∈ N a → Way N p (n + 1) b

theorem Way.cons {N : Int → List Int} {n : Nat} {p a b : Int} (h : b ∈ N p) (w : Way N b n a) : Way N p (n + 1) a := by
  induction w with
  | nil => exact .snoc .nil h
  | snoc _ h' ih => exact .snoc ih h'
section
variable {c : Nat} {N : Int → List Int} {p : Int} (hN : ∀ p q, q ∈ N p → 0 ≤ q ∧ q < (c : Int)) (hp : 0 ≤ p ∧ p < c)
include hN hp

end

end Go.Ab

/- Plain words: least numbers; the grid is one region; walks. -/
namespace Go.Ab

/-- The least number of which f holds. -/
noncomputable def leastN (f : Nat → Prop) : Nat := by
  classical
  exact if h : ∃ k, f k ∧ ∀ j, j < k → ¬ f j then Classical.choose h else 0
theorem nexts_comm {x y p q : Int} (hp : 0 ≤ p ∧ p < x * y) (h : q ∈ nexts x y p) : p ∈ nexts x y q := by
  unfold nexts at *
  rw [List.mem_filter] at *
  refine ⟨List.mem_map.2 ⟨p.toNat, List.mem_range.2 (by omega), by simp only [Int.ofNat_eq_natCast]; omega⟩, ?_⟩
  have h2 := of_decide_eq_true h.2
  refine decide_eq_true ?_
  unfold apart at *
  omega
end Go.Ab

/- Contracts: distances and least reaches, both sides. -/
namespace Go.Ab
open Go
set_option linter.unusedSimpArgs false
set_option linter.unusedVariables false

/-- The distance of two columns, or -1. -/
noncomputable def tdOf (x y z : Int) (cs : List Cell) (p q s : Int) : Int := by
  classical
  exact if (HeapOK x y z cs ∧ (0 ≤ p ∧ p ≤ x * y - 1)) ∧ (0 ≤ q ∧ q ≤ x * y - 1) ∧ 0 ≤ s then (spreadOf x y cs p s).getD q.toNat 0 else -1

end Go.Ab

/- Contracts: least reaches, both sides. -/
namespace Go.Ab
open Go
set_option linter.unusedSimpArgs false
set_option linter.unusedVariables false

/-- Column q is reached from p at the reach s. -/
def Near' (x y : Int) (cs : List Cell) (p q : Int) (s : Nat) : Prop := 0 ≤ (spreadOf x y cs p s).getD q.toNat 0
/-- What LeastReach answers. -/
noncomputable def reachOf (x y z : Int) (cs : List Cell) (p q : Int) : Option Nat := by
  classical
  exact if (HeapOK x y z cs ∧ (0 ≤ p ∧ p ≤ x * y - 1)) ∧ (0 ≤ q ∧ q ≤ x * y - 1) then some (leastN (Near' x y cs p q)) else none

end Go.Ab

/- Plain words: least climbs. -/
namespace Go.Ab

def relax1 (ts : List Int) (a c : Int) (st : List Int × Bool) (b : Int) : List Int × Bool :=
  if st.1.getD b.toNat 0 < 0 ∨ c + max (ts.getD b.toNat 0 - ts.getD a.toNat 0) 0 < st.1.getD b.toNat 0 then (st.1.set b.toNat (c + max (ts.getD b.toNat 0 - ts.getD a.toNat 0) 0), true) else st
def relaxCol (ts : List Int) (St : Int → List Int) (st : List Int × Bool) (a : Int) : List Int × Bool :=
  if st.1.getD a.toNat 0 < 0 then st else (St a).foldl (relax1 ts a (st.1.getD a.toNat 0)) st
def climbRound (ts : List Int) (St : Int → List Int) (c : Nat) (best : List Int) : List Int × Bool := (nums c).foldl (relaxCol ts St) (best, false)
def climbLoop (ts : List Int) (St : Int → List Int) (c : Nat) : Nat → List Int → List Int
  | 0, best => best
  | f + 1, best => if (climbRound ts St c best).2 then climbLoop ts St c f (climbRound ts St c best).1 else (climbRound ts St c best).1

def phiOf (v : Int) : Nat := if v < 0 then 100 else v.toNat
def phi (best : List Int) : Nat := (best.map phiOf).sum

def cnt0 (l : List Int) : Nat := l.countP fun v => decide (0 ≤ v)
structure CI (c : Nat) (N : Int → List Int) (p : Int) (best : List Int) : Prop where
  len : best.length = c
  lo : ∀ k, k < c → -1 ≤ best.getD k 0
  hi : ∀ k, k < c → best.getD k 0 ≤ 4 * (cnt0 best : Int) - 4
  root : 0 ≤ best.getD p.toNat 0
  way : ∀ v : Int, 0 ≤ v → v < c → 0 ≤ best.getD v.toNat 0 → ∃ n, Way N p n v

theorem CI.top {c : Nat} {N : Int → List Int} {p : Int} {best : List Int} (h : CI c N p best) (hc : c ≤ 16) : ∀ k, k < c → best.getD k 0 ≤ 60 := fun k hk => by
  have h1 := h.hi k hk
  have h2 : cnt0 best ≤ best.length := List.countP_le_length
  have h3 := h.len
  omega

section
variable {c : Nat} {N : Int → List Int} {p : Int} {ts : List Int} (hN : ∀ p q, q ∈ N p → 0 ≤ q ∧ q < (c : Int)) (hne : ∀ p, p ∉ N p) (hts : ∀ k, 0 ≤ ts.getD k 0 ∧ ts.getD k 0 ≤ 4) (hc : c ≤ 16)
include hN hne hts hc

end

def climbStart (c : Nat) (p : Int) : List Int := (List.replicate c (-1)).set p.toNat 0
end Go.Ab

/- Contracts: least climbs, both sides. -/
namespace Go.Ab
open Go
set_option linter.unusedSimpArgs false
set_option linter.unusedVariables false

/-- The least climbs from a column to all others. -/
def climbs (x y : Int) (cs : List Cell) (p s : Int) : List Int := climbLoop (topsOf x y cs) (fun r => stepsOf x y (topsOf x y cs) r s) (x * y).toNat 2000 (climbStart (x * y).toNat p)
/-- What LeastClimb answers. -/
noncomputable def climbOf (x y z : Int) (cs : List Cell) (p q s : Int) : Option Int := by
  classical
  exact if ((HeapOK x y z cs ∧ (0 ≤ p ∧ p ≤ x * y - 1)) ∧ (0 ≤ q ∧ q ≤ x * y - 1) ∧ 0 ≤ s) ∧ 0 ≤ (spreadOf x y cs p s).getD q.toNat 0 then some ((climbs x y cs p s).getD q.toNat 0) else none

section
variable {x y z s p : Int} {cs : List Cell} (hH : HeapOK x y z cs)
include hH

end

end Go.Ab

/- Plain words: the first walk. -/
namespace Go.Ab

def nextOf (D : List Int) (d : Int) (l : List Int) : Int := l.getD (idxF (fun r => decide (D.getD r.toNat 0 = d)) l).toNat 0
/-- The walk from a column on, that many steps long. -/
def walkW (D : List Int) (St : Int → List Int) : Nat → Int → List Int
  | 0, now => [now]
  | f + 1, now => now :: walkW D St f (nextOf D f (St now))
section
variable {x y s q : Int} {cs : List Cell} (hq : 0 ≤ q ∧ q ≤ x * y - 1)
include hq
end

/-- What FirstTopWalk answers. -/
noncomputable def walkOf (x y z : Int) (cs : List Cell) (p q s : Int) : Option (List Int) := by
  classical
  exact if ((HeapOK x y z cs ∧ (0 ≤ p ∧ p ≤ x * y - 1)) ∧ (0 ≤ q ∧ q ≤ x * y - 1) ∧ 0 ≤ s) ∧ 0 ≤ (spreadOf x y cs q s).getD p.toNat 0 then
    some (walkW (spreadOf x y cs q s) (fun r => stepsOf x y (topsOf x y cs) r s) ((spreadOf x y cs q s).getD p.toNat 0).toNat p) else none
end Go.Ab

/- Plain words: the reach and the climb of a walk; what the law of the walks says of them. -/
namespace Go.Ab
open Go
set_option linter.unusedSimpArgs false
set_option linter.unusedVariables false

def sumN (f : Nat → Int) : Nat → Int
  | 0 => 0
  | k + 1 => sumN f k + f k
/-- The reach of the first k steps. -/
def gapN (u : Nat → Int) : Nat → Int
  | 0 => 0
  | k + 1 => max (gapN u k) (gap (u (k + 1)) (u k))
def upN (u : Nat → Int) (k : Nat) : Int := sumN (fun i => max (u (i + 1) - u i) 0) k
/-- The heights along a walk. -/
def along (ts w : List Int) (i : Nat) : Int := ts.getD (w.getD i 0).toNat 0
def WalkOK (x y z : Int) (cs : List Cell) (w : List Int) : Prop := HeapOK x y z cs ∧ 0 < w.length ∧ (∀ i, i < w.length → 0 ≤ w.getD i 0 ∧ w.getD i 0 ≤ x * y - 1) ∧ ∀ i, i + 1 < w.length → w.getD (i + 1) 0 ∈ nexts x y (w.getD i 0)
/-- What WalkClimb answers. -/
noncomputable def wcOf (x y z : Int) (cs : List Cell) (w : List Int) : Option (Int × Int) := by
  classical
  exact if WalkOK x y z cs w then some (gapN (along (topsOf x y cs) w) (w.length - 1), upN (along (topsOf x y cs) w) (w.length - 1)) else none
theorem getD_reverse {l : List Int} {i : Nat} (h : i < l.length) : l.reverse.getD i 0 = l.getD (l.length - 1 - i) 0 := by
  simp [List.getD_eq_getElem?_getD, List.getElem?_reverse h]
theorem WalkOK.reverse {x y z : Int} {cs : List Cell} {w : List Int} (h : WalkOK x y z cs w) : WalkOK x y z cs w.reverse := by
  obtain ⟨h1, h2, h3, h4⟩ := h
  refine ⟨h1, by simpa using h2, fun i hi => ?_, fun i hi => ?_⟩
  · rw [List.length_reverse] at hi
    rw [getD_reverse hi]; exact h3 _ (by omega)
  · rw [List.length_reverse] at hi
    rw [getD_reverse (by omega), getD_reverse (by omega)]
    have e := h4 (w.length - 1 - (i + 1)) (by omega)
    rw [show w.length - 1 - (i + 1) + 1 = w.length - 1 - i by omega] at e
    have e2 := h3 (w.length - 1 - (i + 1)) (by omega)
    exact nexts_comm (by omega) e
theorem Way.mono {N N' : Int → List Int} (h : ∀ p q, q ∈ N p → q ∈ N' p) {p : Int} {n : Nat} {q : Int} (w : Way N p n q) : Way N' p n q := by
  induction w with
  | nil => exact .nil
  | snoc _ h' ih => exact .snoc ih (h _ _ h')
end Go.Ab

/- Plain: what one sees of lines of columns, levels, orders by sights. -/
namespace Go.Ab
open Go
set_option linter.unusedSimpArgs false
set_option linter.unusedVariables false
set_option maxRecDepth 20000

/-- The greatest height so far, and how many columns one has seen. -/
def seeStep (s : Int × Int) (h : Int) : Int × Int := if h > s.1 then (h, s.2 + 1) else s
def seen (l : List Int) : Int × Int := l.foldl seeStep (0, 0)
/-- The greatest number of a list, at least 0. -/
def mostL (l : List Int) : Int := l.foldl max 0
/-- The length and the number of the lines of a direction; the column of a place of a line. -/
def lnN (x y : Int) (dir : Nat) : Nat := (if dir = 0 then x else y).toNat
def lnM (x y : Int) (dir : Nat) : Nat := (if dir = 0 then y else x).toNat
def lnI (y : Int) (dir i k : Nat) : Nat := if dir = 0 then k * y.toNat + i else i * y.toNat + k
def lineH (x y : Int) (dir : Nat) (ts : List Int) (i n : Nat) : List Int := (List.range n).map fun k => ts.getD (lnI y dir i k) 0
def linesH (x y : Int) (dir : Nat) (ts : List Int) (m : Nat) : List (List Int) := (List.range m).map fun i => lineH x y dir ts i (lnN x y dir)
/-- The line of a column. -/
def othN (y : Nat) (dir p : Nat) : Nat := if dir = 0 then p % y else p / y
def rowsB (x y dir i : Nat) : Bool := !(decide (0 < y) && decide (i < (if dir = 0 then y else x))) || decide ((List.range (x * y)).filter (fun p => othN y dir p == i) = (List.range (if dir = 0 then x else y)).map fun k => if dir = 0 then k * y + i else i * y + k)
def rowP (y : Int) (dir : Nat) (ts : List Int) (i n : Nat) : List Int := ((List.range n).filter fun p => othN y.toNat dir p == i).map fun p => ts.getD p 0
/-- Sights of all lines, and the sky line. -/
def sgtL (x y : Int) (dir : Nat) (back : Bool) (ts : List Int) (m : Nat) : List Int := (List.range m).map fun i => (seen (if back then (lineH x y dir ts i (lnN x y dir)).reverse else lineH x y dir ts i (lnN x y dir))).2
def skyL (x y : Int) (dir : Nat) (ts : List Int) (m : Nat) : List Int := (List.range m).map fun i => mostL (lineH x y dir ts i (lnN x y dir))
/-- Levels: a height counts at its place. -/
def lvStep (v : List Int) (h : Int) : List Int := v.set h.toNat (v.getD h.toNat 0 + 1)
def lvL (z : Int) (ts : List Int) : List Int := ts.foldl lvStep (List.replicate (z + 1).toNat 0)
/-- How many orders of m columns one sees i of. -/
def stir : Nat → Nat → Nat
  | 0, 0 => 1
  | 0, _ + 1 => 0
  | m + 1, 0 => m * stir m 0
  | m + 1, i + 1 => m * stir m (i + 1) + stir m i
def stirT : Nat → List Nat
  | 0 => [1, 0, 0, 0, 0, 0, 0, 0, 0, 0, 0, 0, 0]
  | m + 1 => let r := stirT m; (List.range 13).map fun i => m * r.getD i 0 + if i = 0 then 0 else r.getD (i - 1) 0
def factN : Nat → Nat
  | 0 => 1
  | n + 1 => factN n * (n + 1)
end Go.Ab

/- The abstract code of some functions (written by a program of mine from the translation, by way of prepF). -/
namespace Go.Ab.C
open Go.Ab
end Go.Ab.C

/- That the program has this code. -/
namespace Go.Ab.K
open Go Go.Ab
end Go.Ab.K

/- Tables: lists of lists of numbers in memory; how they grow; the law's comparison. -/
namespace Go.Ab
open Go
set_option linter.unusedSimpArgs false
set_option linter.unusedVariables false
set_option maxRecDepth 20000

/-- A table that is one's own: its blocks lie before b and not before lo. -/
def TabO (N : Mem) (t : Nat) (L : List (List Int)) (b lo : Nat) : Prop := ∃ refs : List LV, Live N t (.row refs true 1) ∧ refs.length = L.length ∧ t < b ∧ lo ≤ t ∧ ∀ i, i < L.length → ∃ u, lo ≤ u ∧ u < b ∧ u ≠ t ∧ refs[i]? = some (.ref u 0 (L.getD i []).length) ∧ Live N u (.row (intL (L.getD i [])) true 1)
theorem TabO.pre {N N' : Mem} {t : Nat} {L : List (List Int)} {b lo : Nat} (h : TabO N t L b lo) (hp : Pre N N') : TabO N' t L b lo := by
  obtain ⟨refs, h1, h2, h3, h0, h4⟩ := h
  exact ⟨refs, h1.pre hp, h2, h3, h0, fun i hi => by obtain ⟨u, q0, q1, q2, q3, q4⟩ := h4 i hi; exact ⟨u, q0, q1, q2, q3, q4.pre hp⟩⟩
theorem TabO.nil {N : Mem} {t lo : Nat} (h : Live N t (.row [] true 1)) (hl : lo ≤ t) : TabO N t [] N.length lo := ⟨[], h, rfl, h.lt, hl, fun i hi => by simp at hi⟩
/-- All that lies from lo on stays. -/
theorem TabO.hold {N N' : Mem} {t : Nat} {L : List (List Int)} {b lo : Nat} (h : TabO N t L b lo) (hk : ∀ q, lo ≤ q → q < N.length → N'[q]? = N[q]?) : TabO N' t L b lo := by
  obtain ⟨refs, h1, h2, h3, h0, h4⟩ := h
  have key : ∀ {q : Nat} {bl : Blk}, lo ≤ q → Live N q bl → Live N' q bl := fun {q bl} hq hl => by
    have := hl.lt
    unfold Live at hl ⊢
    rw [hk q hq this]; exact hl
  exact ⟨refs, key h0 h1, h2, h3, h0, fun i hi => by obtain ⟨u, q0, q1, q2, q3, q4⟩ := h4 i hi; exact ⟨u, q0, q1, q2, q3, key q0 q4⟩⟩
/-- A table that may be read. -/
def TabV (N : Mem) (v : LV) (L : List (List Int)) : Prop := (v = .nil ∧ L = []) ∨ ∃ (t : Nat) (refs : List LV), v = .ref t 0 L.length ∧ Live N t (.row refs true 1) ∧ refs.length = L.length ∧ ∀ i, i < L.length → ∃ u : Nat, refs[i]? = some (.ref u 0 (L.getD i []).length) ∧ Ints N u 0 (L.getD i [])
theorem TabO.v {N : Mem} {t : Nat} {L : List (List Int)} {b lo : Nat} (h : TabO N t L b lo) : TabV N (.ref t 0 L.length) L := by
  obtain ⟨refs, h1, h2, h3, h0, h4⟩ := h
  exact .inr ⟨t, refs, rfl, h1, h2, fun i hi => by obtain ⟨u, q0, q1, q2, q3, q4⟩ := h4 i hi; exact ⟨u, q3, q4.has⟩⟩
theorem TabV.pre {N N' : Mem} {v : LV} {L : List (List Int)} (h : TabV N v L) (hp : Pre N N') : TabV N' v L := by
  rcases h with h | ⟨t, refs, h1, h2, h3, h4⟩
  · exact .inl h
  · exact .inr ⟨t, refs, h1, h2.pre hp, h3, fun i hi => by obtain ⟨u, q3, q4⟩ := h4 i hi; exact ⟨u, q3, q4.pre hp⟩⟩
theorem TabV.lenV {N : Mem} {v : LV} {L : List (List Int)} (h : TabV N v L) : lenV v = some (L.length : Int) := by
  rcases h with ⟨rfl, rfl⟩ | ⟨t, refs, rfl, _⟩ <;> rfl
theorem TabV.at {N : Mem} {v : LV} {L : List (List Int)} {i : Nat} (h : TabV N v L) (hi : i < L.length) : ∃ t u : Nat, v = .ref t 0 L.length ∧ getCell N t i = some (.ref u 0 (L.getD i []).length) ∧ Ints N u 0 (L.getD i []) := by
  rcases h with ⟨_, rfl⟩ | ⟨t, refs, rfl, h2, h3, h4⟩
  · simp at hi
  · obtain ⟨u, q3, q4⟩ := h4 i hi
    refine ⟨t, u, rfl, ?_, q4⟩
    rw [← q3]
    exact h2.cell
end Go.Ab

/- Contracts: lines of columns, sights and sky lines of the reference. -/
namespace Go.Ab
open Go
set_option linter.unusedSimpArgs false
set_option linter.unusedVariables false
set_option maxRecDepth 20000

/-- A list of numbers that may be read, and a truth. -/
def IntsQ (M : Mem) (l : List Int) (b : Bool) (v : LV) (N : Mem) : Prop := ∃ w, v = .tup [w, .B b] ∧ IntsV N w l ∧ Pre M N
def FlatOK (x y z : Int) (cs : List Cell) (d : Int) : Prop := HeapOK x y z cs ∧ 0 ≤ d ∧ d ≤ 1
noncomputable instance (x y z : Int) (cs : List Cell) (d : Int) : Decidable (FlatOK x y z cs d) := Classical.propDecidable _
noncomputable def flatB (x y z : Int) (cs : List Cell) (d : Int) : Bool := decide (FlatOK x y z cs d)
noncomputable def sgtOf (x y z : Int) (cs : List Cell) (d : Int) (b : Bool) : List Int := if FlatOK x y z cs d then sgtL x y d.toNat b (topsOf x y cs) (lnM x y d.toNat) else []
noncomputable def skyOf (x y z : Int) (cs : List Cell) (d : Int) : List Int := if FlatOK x y z cs d then skyL x y d.toNat (topsOf x y cs) (lnM x y d.toNat) else []
section
variable {x y z : Int} {t : Nat} {cs : List Cell} {M : Mem} (h : Tri M t 0 cs)
include h
end
end Go.Ab

/- The abstract code of some functions (written by a program of mine from the translation, by way of prepF). -/
namespace Go.Ab.C
open Go.Ab
end Go.Ab.C

/- That the program has this code. -/
namespace Go.Ab.K
open Go Go.Ab
end Go.Ab.K

/- The abstract code of some functions (written by a program of mine from the translation, by way of prepF). -/
namespace Go.Ab.C
open Go.Ab
end Go.Ab.C

/- That the program has this code. -/
namespace Go.Ab.K
open Go Go.Ab
end Go.Ab.K

/- Contracts: least climbs, the program's side. -/
namespace Go.Ab
open Go
set_option linter.unusedSimpArgs false
set_option linter.unusedVariables false

end Go.Ab

/- Contracts: steps between columns and the climbs of walks, both sides; heights. -/
namespace Go.Ab
open Go
set_option linter.unusedSimpArgs false
set_option linter.unusedVariables false
set_option maxRecDepth 20000

/-- What StepColumns answers. -/
noncomputable def stepRes (x y z : Int) (cs : List Cell) (p s : Int) : Option (List Int) := by
  classical
  exact if HeapOK x y z cs ∧ (0 ≤ p ∧ p ≤ x * y - 1) ∧ 0 ≤ s then some (stepsOf x y (topsOf x y cs) p s) else none
/-- What TopHeights answers. -/
noncomputable def topRes (x y z : Int) (cs : List Cell) : Option (List Int) := by
  classical
  exact if HeapOK x y z cs then some (topsOf x y cs) else none
section
variable {x y z : Int} {t o : Nat} {cs : List Cell} {M : Mem} (h : Tri M t o cs) (hn : cs.length ≤ 1000000000)
include h hn
end
end Go.Ab

/- Contracts: lines of columns, sights and sky lines of the program. -/
namespace Go.Ab
open Go
set_option linter.unusedSimpArgs false
set_option linter.unusedVariables false
set_option maxRecDepth 20000

/-- A row of a table in the making: nothing yet, or a block of its own. -/
def RowM (N : Mem) (r : LV) (l : List Int) (u : Nat) : Prop := (l = [] ∧ r = .nil) ∨ (l ≠ [] ∧ r = .ref u 0 l.length ∧ Live N u (.row (intL l) true 1))
theorem RowM.at {N N' : Mem} {r : LV} {l : List Int} {u : Nat} (h : RowM N r l u) (hk : l ≠ [] → N'[u]? = N[u]?) : RowM N' r l u := by
  rcases h with h | ⟨h1, h2, h3⟩
  · exact .inl h
  · refine .inr ⟨h1, h2, ?_⟩
    unfold Live at h3 ⊢
    rw [hk h1]; exact h3
end Go.Ab

/- The abstract code of some functions (written by a program of mine from the translation, by way of prepF). -/
namespace Go.Ab.C
open Go.Ab
end Go.Ab.C

/- That the program has this code. -/
namespace Go.Ab.K
open Go Go.Ab
end Go.Ab.K

/- The abstract code of some functions (written by a program of mine from the translation, by way of prepF). -/
namespace Go.Ab.C
open Go.Ab
end Go.Ab.C

/- That the program has this code. -/
namespace Go.Ab.K
open Go Go.Ab
end Go.Ab.K

/- Contracts: taking orders, both sides. -/
namespace Go.Ab
open Go
set_option linter.unusedSimpArgs false
set_option linter.unusedVariables false

/-- What TakingOrder answers. -/
noncomputable def takeOf (x y z : Int) (cs : List Cell) : Option (List Cell) := by
  classical
  exact if HeapOK x y z cs ∧ Firm x y z (fun c => decide (c ∈ cs)) then some (takeL x y z (fun c => decide (c ∈ cs)) cs.length) else none
end Go.Ab

/- The abstract code of some functions (written by a program of mine from the translation, by way of prepF). -/
namespace Go.Ab.C
open Go.Ab
end Go.Ab.C

/- That the program has this code. -/
namespace Go.Ab.K
open Go Go.Ab
end Go.Ab.K

/- Contracts: laying orders, both sides. -/
namespace Go.Ab
open Go
set_option linter.unusedSimpArgs false
set_option linter.unusedVariables false

/-- What LayingOrder answers. -/
noncomputable def layOf (x y z : Int) (cs : List Cell) : Option (List Cell) := by
  classical
  exact if HeapOK x y z cs ∧ Firm x y z (fun c => decide (c ∈ cs)) then some (layL x y z (fun c => decide (c ∈ cs)) cs.length) else none
end Go.Ab

/- Plain words: taking orders and their number. -/
namespace Go.Ab
open Go
set_option linter.unusedSimpArgs false
set_option linter.unusedVariables false

noncomputable def stdB (x y z : Int) (cs : List Cell) : Bool := @decide (HeapOK x y z cs ∧ Firm x y z fun c => decide (c ∈ cs)) (Classical.propDecidable _)
/-- In how many orders the n cells of a set can be taken. -/
noncomputable def tkN (x y z : Int) : Nat → (Cell → Bool) → Nat
  | 0, _ => 1
  | n + 1, p => ((pick x y z (canTake x y z p)).map fun c => tkN x y z n fun d => p d && !decide (d = c)).sum
def facN : Nat → Nat
  | 0 => 1
  | n + 1 => (n + 1) * facN n
section
variable {x y z : Int} (hS : Sides x y z)
include hS
/-- Whether a list takes all cells, each one when it can be taken. -/
noncomputable def tkOrd (x y z : Int) : List Cell → List Cell → Bool
  | cs, [] => decide (cs = [])
  | cs, c :: l => canTake x y z (fun d => decide (d ∈ cs)) c && tkOrd x y z (cs.filter fun d => !decide (d = c)) l
end
/-- The cubes that cannot be taken. -/
noncomputable def keyL (x y z : Int) (cs : List Cell) : List Cell := pick x y z fun d => decide (d ∈ cs) && !canTake x y z (fun d => decide (d ∈ cs)) d
noncomputable def keyOf' (x y z : Int) (cs : List Cell) : Option (List Cell) := if stdB x y z cs = true then some (keyL x y z cs) else none
end Go.Ab

/- Plain words: staircases, their corners and orders; orders of the directions. -/
namespace Go.Ab
open Go
set_option linter.unusedSimpArgs false
set_option linter.unusedVariables false

def undC (d c : Cell) : Prop := d.a ≤ c.a ∧ d.b ≤ c.b ∧ d.c ≤ c.c
instance (d c : Cell) : Decidable (undC d c) := by unfold undC; infer_instance
/-- A set has each cell of the box none of whose numbers is greater than those of a cell of it. -/
def StairP (x y z : Int) (p : Cell → Bool) : Prop := ∀ c, c.inBox x y z → p c = true → ∀ d, d.inBox x y z → undC d c → p d = true
noncomputable instance {x y z : Int} {p : Cell → Bool} : Decidable (StairP x y z p) := Classical.propDecidable _
/-- The cell before, in one direction. -/
def decC (c : Cell) (k : Nat) : Cell := ⟨if k = 0 then c.a - 1 else c.a, if k = 1 then c.b - 1 else c.b, if k = 2 then c.c - 1 else c.c⟩
/-- A cube without which the set is still a staircase. -/
noncomputable def cornC (x y z : Int) (p : Cell → Bool) (c : Cell) : Bool := p c && decide (StairP x y z fun d => p d && !decide (d = c))
/-- In how many orders n cubes of a staircase can be laid. -/
noncomputable def orN (x y z : Int) : Nat → (Cell → Bool) → Nat
  | 0, _ => 1
  | n + 1, p => ((pick x y z (cornC x y z p)).map fun c => orN x y z n fun d => p d && !decide (d = c)).sum

section
variable {x y z : Int} (hS : Sides x y z)
include hS
end

/-! ### Orders of the directions -/
def permC (o c : Cell) : Cell := ⟨c.at o.a, c.at o.b, c.at o.c⟩
def ordAt (i : Nat) : Cell := ordersL.getD i default
def exHp (o : Cell) (g : Hp) : Hp := ⟨(permC o g.dims).a, (permC o g.dims).b, (permC o g.dims).c, pick (permC o g.dims).a (permC o g.dims).b (permC o g.dims).c fun d => decide (d ∈ g.cs.map (permC o))⟩
def fixB (g : Hp) (i : Nat) : Bool := decide (g.dims = (exHp (ordAt i) g).dims ∧ g.cs = (exHp (ordAt i) g).cs)
def linesN (g : Hp) : Nat := (List.range 6).countP fun i => fixB g i
/-- The order that two orders make: first j, then i. -/
def mulO (i j : Nat) : Nat := ([[0, 1, 2, 3, 4, 5], [1, 0, 4, 5, 2, 3], [2, 3, 0, 1, 5, 4], [3, 2, 5, 4, 0, 1], [4, 5, 1, 0, 3, 2], [5, 4, 3, 2, 1, 0]].getD j []).getD i 0
def invO (i : Nat) : Nat := [0, 1, 2, 4, 3, 5].getD i 0
/-- An order leaves a heap as it is. -/
def FixO (D : Cell) (cs : List Cell) (i : Nat) : Prop := permC (ordAt i) D = D ∧ ∀ c ∈ cs, permC (ordAt i) c ∈ cs
def conjO (i : Nat) : Nat := [0, 2, 5, 3, 4, 1].getD i 0
section
variable {x y z : Int} (hS : Sides x y z)
include hS
end
end Go.Ab

/- Plain words: all staircases of a box by their heights; their number as a quotient. -/
namespace Go.Ab
open Go
set_option linter.unusedSimpArgs false
set_option linter.unusedVariables false

/-- The greatest height that may follow some heights. -/
def mostS (y : Nat) (z : Int) (l : List Int) : Int :=
  if 0 < l.length % y then min (if y ≤ l.length then min z (l.getD (l.length - y) 0) else z) (l.getD (l.length - 1) 0) else if y ≤ l.length then min z (l.getD (l.length - y) 0) else z
def allS (y : Nat) (z : Int) : Nat → List Int → List (List Int)
  | 0, l => [l]
  | n + 1, l => (List.range (mostS y z l + 1).toNat).flatMap fun (h : Nat) => allS y z n (l ++ [(h : Int)])
def OkS (z : Int) (l : List Int) : Prop := ∀ a ∈ l, 0 ≤ a ∧ a ≤ z
def pcell (z : Nat) (s : Nat × Nat) (i k : Nat) : Nat × Nat := ((s.1 * (i + k + 1 + z)) / Nat.gcd (s.1 * (i + k + 1 + z)) (s.2 * (i + k + 1)), (s.2 * (i + k + 1)) / Nat.gcd (s.1 * (i + k + 1 + z)) (s.2 * (i + k + 1)))
def prow (z : Nat) (s : Nat × Nat) (i : Nat) : Nat → Nat × Nat
  | 0 => s
  | k + 1 => pcell z (prow z s i k) i k
def pall (y z : Nat) : Nat → Nat × Nat
  | 0 => (1, 1)
  | i + 1 => prow z (pall y z i) i y
/-- The program's number of staircases. -/
def cntSP (x y z : Nat) : Nat := (pall y z x).1 / (pall y z x).2
def rrow (z : Nat) (s : Nat × Nat) (i : Nat) : Nat → Nat × Nat
  | 0 => s
  | k + 1 => ((rrow z s i k).1 * (i + k + 1 + z), (rrow z s i k).2 * (i + k + 1))
def rred (s : Nat × Nat) : Nat × Nat := (s.1 / Nat.gcd s.1 s.2, s.2 / Nat.gcd s.1 s.2)
def rall (y z : Nat) : Nat → Nat × Nat
  | 0 => (1, 1)
  | i + 1 => rred (rrow z (rall y z i) i y)
/-- The reference's. -/
def cntSR (x y z : Nat) : Nat := (rall y z x).1 / (rall y z x).2
def small1 (s : Nat × Nat) : Bool := decide (1 ≤ s.1) && decide (s.1 ≤ 1000000000000000) && decide (1 ≤ s.2) && decide (s.2 ≤ 1000000000000000)
end Go.Ab

/- The abstract code of some functions (written by a program of mine from the translation, by way of prepF). -/
namespace Go.Ab.C
open Go.Ab
end Go.Ab.C

/- That the program has this code. -/
namespace Go.Ab.K
open Go Go.Ab
end Go.Ab.K

/- The abstract code of some functions (written by a program of mine from the translation, by way of prepF). -/
namespace Go.Ab.C
open Go.Ab
end Go.Ab.C

/- That the program has this code. -/
namespace Go.Ab.K
open Go Go.Ab
end Go.Ab.K

/- The abstract code of some functions (written by a program of mine from the translation, by way of prepF). -/
namespace Go.Ab.C
open Go.Ab
end Go.Ab.C

/- That the program has this code. -/
namespace Go.Ab.K
open Go Go.Ab
end Go.Ab.K

/- The abstract code of some functions (written by a program of mine from the translation, by way of prepF). -/
namespace Go.Ab.C
open Go.Ab
end Go.Ab.C

/- That the program has this code. -/
namespace Go.Ab.K
open Go Go.Ab
end Go.Ab.K

/- The abstract code of some functions (written by a program of mine from the translation, by way of prepF). -/
namespace Go.Ab.C
open Go.Ab
end Go.Ab.C

/- That the program has this code. -/
namespace Go.Ab.K
open Go Go.Ab
end Go.Ab.K

/- Contracts: the law of pieces' helpers. -/
namespace Go.Ab
open Go
set_option linter.unusedSimpArgs false
set_option linter.unusedVariables false
set_option maxRecDepth 20000

end Go.Ab

/- The abstract code of some functions (written by a program of mine from the translation, by way of prepF). -/
namespace Go.Ab.C
open Go.Ab
end Go.Ab.C

/- That the program has this code. -/
namespace Go.Ab.K
open Go Go.Ab
end Go.Ab.K

/- Contracts: shadows of sets, the program's side. -/
namespace Go.Ab
open Go
set_option linter.unusedSimpArgs false
set_option linter.unusedVariables false
set_option maxRecDepth 20000

def onesTo (k : Nat) (v : List Int) : List Int := onesL (v.take k) ++ v.drop k
end Go.Ab

/- Contracts: keys, taking orders and their number, the reference's side. -/
namespace Go.Ab
open Go
set_option linter.unusedSimpArgs false
set_option linter.unusedVariables false
set_option maxRecDepth 20000

/-- A list of cells and a truth value. -/
def CellsY (M : Mem) (r : Option (List Cell)) (v : LV) (N : Mem) : Prop := ∃ w, v = .tup [w, .B r.isSome] ∧ CellsV N w (r.getD []) ∧ Pre M N
theorem CellsRes.y {M N : Mem} {r : Option (List Cell)} {v : LV} (h : CellsRes M r v N) : CellsY M r v N := by
  obtain ⟨w, h1, h2, _, h3⟩ := h
  exact ⟨w, h1, h2.v, h3⟩
noncomputable def canB (x y z : Int) (cs : List Cell) (c : Cell) : Bool := stdB x y z cs && decide (c.inBox x y z)
noncomputable def canR (x y z : Int) (cs : List Cell) (c : Cell) : Bool := canB x y z cs c && canTake x y z (fun d => decide (d ∈ cs)) c
noncomputable def ordR (x y z : Int) (cs l : List Cell) : Bool := stdB x y z cs && tkOrd x y z cs l
noncomputable def tksB (x y z : Int) (cs : List Cell) : Bool := stdB x y z cs && decide (cs.length ≤ 8)
noncomputable def tksN (x y z : Int) (cs : List Cell) : Nat := if tksB x y z cs = true then tkN x y z cs.length (fun d => decide (d ∈ cs)) else 0

section
variable {x y z : Int} {t : Nat} {w : Bool} {cs : List Cell} {M : Mem} (h : Live M t (.row (triL cs) w 3)) (hn : cs.length ≤ 1000000000)
include h hn
end
end Go.Ab

/- Contracts: keys, taking orders, the program's side. Maps with sets as keys. -/
namespace Go.Ab
open Go
set_option linter.unusedSimpArgs false
set_option linter.unusedVariables false
set_option maxRecDepth 20000

theorem neg_not (b : BitVec 64) : -b = ~~~(b - 1#64) := by
  apply BitVec.eq_of_toNat_eq
  have := b.isLt
  rw [BitVec.toNat_neg, BitVec.toNat_not, BitVec.toNat_sub]
  simp only [BitVec.toNat_ofNat]
  omega
theorem clear_low (b : BitVec 64) : b &&& (b - 1#64) = b &&& ~~~(b &&& -b) := by
  rw [neg_not]
  apply BitVec.eq_of_getLsbD_eq
  intro i hi
  simp only [BitVec.getLsbD_and, BitVec.getLsbD_not, hi, decide_true, Bool.true_and]
  cases b.getLsbD i <;> cases (b - 1#64).getLsbD i <;> rfl

section
variable {x y z : Int} {t : Nat} {w : Bool} {cs : List Cell} {M : Mem} (h : Live M t (.row (triL cs) w 3)) (hn : cs.length ≤ 1000000000)
include h hn
end

end Go.Ab

/- Contracts: the number of taking orders, with a map of what was counted. -/
namespace Go.Ab
open Go
set_option linter.unusedSimpArgs false
set_option linter.unusedVariables false
set_option maxRecDepth 20000

/-- A map from sets to numbers. -/
def memE (L : List (BitVec 64 × Int)) : List (LV × LV) := L.map fun q => (LV.W q.1, LV.I q.2)
/-- All blocks but one stay. -/
def But1 (t : Nat) (M N : Mem) : Prop := M.length ≤ N.length ∧ ∀ u, u ≠ t → u < M.length → N[u]? = M[u]?
theorem But1.trans {t : Nat} {M N N' : Mem} (h : But1 t M N) (k : But1 t N N') : But1 t M N' := ⟨Nat.le_trans h.1 k.1, fun u h1 h2 => by rw [k.2 u h1 (Nat.lt_of_lt_of_le h2 h.1)]; exact h.2 u h1 h2⟩
theorem But1.of {t : Nat} {M N : Mem} (h : Pre M N) : But1 t M N := ⟨h.1, fun u _ h2 => h.2 u h2⟩
theorem Live.but {t q : Nat} {M N : Mem} {b : Blk} (h : Live M q b) (k : But1 t M N) (h1 : q ≠ t) : Live N q b := Live.at h (k.2 q h1 h.lt)

section
variable {x y z : Int} (hS : Sides x y z)
include hS
theorem bs_clear {p : Cell → Bool} {c : Cell} (hc : c.inBox x y z) (hp : p c = true) (hl : ∀ d, d.inBox x y z → p d = true → ¬ d.lt c) : bs x y z p &&& (bs x y z p - 1#64) = bs x y z fun d => p d && !decide (d = c) := by
  rw [clear_low, bs_low hS hc hp hl, bs_diff hS]
end

/-- What the map says is true. -/
def MemoT (x y z : Int) (L : List (BitVec 64 × Int)) : Prop := (∃ q ∈ L, q.1 = 0#64) ∧ ∀ q ∈ L, ∀ p : Cell → Bool, q.1 = bs x y z p → q.2 = (tkN x y z (pick x y z p).length p : Nat)

end Go.Ab

/- Contracts: staircases, their corners, orders, turning; the program's side. -/
namespace Go.Ab
open Go
set_option linter.unusedSimpArgs false
set_option linter.unusedVariables false
set_option maxRecDepth 20000

noncomputable def strB (x y z : Int) (cs : List Cell) : Bool := @decide (HeapOK x y z cs ∧ StairP x y z fun c => decide (c ∈ cs)) (Classical.propDecidable _)
section
variable {x y z : Int} (hS : Sides x y z)
include hS
end
end Go.Ab

/- Contracts: the number of staircases. -/
namespace Go.Ab
open Go
set_option linter.unusedSimpArgs false
set_option linter.unusedVariables false
set_option maxRecDepth 20000

/-- A box whose staircases can be listed. -/
noncomputable def fewB (x y z : Int) : Bool := decide (Sides x y z) && decide (cntSP x.toNat y.toNat z.toNat ≤ 1000)
end Go.Ab

/- Contracts: the program's search for tables. -/
namespace Go.Ab
open Go
set_option linter.unusedSimpArgs false
set_option linter.unusedVariables false
set_option maxRecDepth 20000

/-- A table, cell by cell, as a set. -/
def setT (T : List Int) : BitVec 64 := bsN T.length fun i => decide (T.getD i 0 = 1)
/-- What a search leaves alone: all but some blocks. -/
def FrmL (ws : List Nat) (M N : Mem) : Prop := M.length ≤ N.length ∧ ∀ q, q < M.length → q ∉ ws → N[q]? = M[q]?
theorem FrmL.trans {ws : List Nat} {M N N' : Mem} (h : FrmL ws M N) (k : FrmL ws N N') : FrmL ws M N' := ⟨Nat.le_trans h.1 k.1, fun q h1 h2 => by rw [k.2 q (Nat.lt_of_lt_of_le h1 h.1) h2]; exact h.2 q h1 h2⟩
theorem FrmL.of {ws : List Nat} {M N : Mem} (h : Pre M N) : FrmL ws M N := ⟨h.1, fun q h1 _ => h.2 q h1⟩
theorem Live.frmL {ws : List Nat} {q : Nat} {M N : Mem} {b : Blk} (h : Live M q b) (k : FrmL ws M N) (h1 : q ∉ ws) : Live N q b := Live.at h (k.2 q h.lt h1)
def TEnv (n : Nat) (R : List Int) (B : Mem) (tr pn pr pl pv pf w : Nat) (fv : FuncId) (cps : List (Nat × Nat)) (M : Mem) : Prop :=
  Pre B M ∧ Live M pn (.row [.I n] true 0) ∧ Live M pr (.row [.ref tr 0 R.length] true 0) ∧ Live M pl (.row [.ref w 0 n] true 0) ∧ Live M pv (.row [.clo fv cps] true 0) ∧ Live M pf (.row [.clo F.impl_tables_1 [(pn, 0), (pr, 0), (pl, 0), (pv, 0), (pf, 0)]] true 0)
def TDis (B : Mem) (pn pr pl pv pf : Nat) (ws : List Nat) : Prop := ∀ c ∈ ws, B.length ≤ c ∧ c ≠ pn ∧ c ≠ pr ∧ c ≠ pl ∧ c ≠ pv ∧ c ≠ pf
theorem TEnv.frm {n : Nat} {R : List Int} {B : Mem} {tr pn pr pl pv pf w : Nat} {fv : FuncId} {cps : List (Nat × Nat)} {ws : List Nat} {M N : Mem} (hD : TDis B pn pr pl pv pf ws) (h : TEnv n R B tr pn pr pl pv pf w fv cps M) (k : FrmL ws M N) : TEnv n R B tr pn pr pl pv pf w fv cps N := by
  obtain ⟨h0, h1, h2, h3, h4, h5⟩ := h
  exact ⟨⟨Nat.le_trans h0.1 k.1, fun q hq => by rw [k.2 q (Nat.lt_of_lt_of_le hq h0.1) (fun hm => by have := (hD q hm).1; omega)]; exact h0.2 q hq⟩, h1.frmL k fun hm => (hD _ hm).2.1 rfl, h2.frmL k fun hm => (hD _ hm).2.2.1 rfl, h3.frmL k fun hm => (hD _ hm).2.2.2.1 rfl, h4.frmL k fun hm => (hD _ hm).2.2.2.2.1 rfl, h5.frmL k fun hm => (hD _ hm).2.2.2.2.2 rfl⟩
section
variable {n : Nat} {R : List Int} {once : Bool} {B : Mem} {tr pn pr pl pv pf w : Nat} {cc : List Nat} {fv : FuncId} {cps : List (Nat × Nat)} {Inv : List (List Int) → Mem → Prop}
  (hn : 1 ≤ n ∧ n ≤ 4) (hR4 : R.length ≤ 4) (hRb : ∀ r ∈ R, 0 ≤ r ∧ r ≤ 1000) (hRI : Ints B tr 0 R) (hD : TDis B pn pr pl pv pf (w :: cc)) (hwc : w ∉ cc)
  (hInv : ∀ {P : List (List Int)} {N N' : Mem}, Inv P N → N.length ≤ N'.length → (∀ q, q < N.length → q ≠ w → N'[q]? = N[q]?) → Inv P N')
  (hVis : ∀ {P : List (List Int)} {T : List Int} {N : Mem}, (once = true → P = []) → Inv P N → T.length = R.length * n → P.length + 1 ≤ 1000000000 →
    CallsR PG fv (.W (setT T) :: cps.map fun p => .ptr p.1 p.2) N fun r N' => r = .B (!once) ∧ N.length ≤ N'.length ∧ (∀ q, q < N.length → q ∉ cc → N'[q]? = N[q]?) ∧ Inv (P ++ [T]) N')
include hn hR4 hRb hRI hD hwc hInv hVis
end
end Go.Ab

/- Contracts: the most pairs of neighbors (reference). -/
namespace Go.Ab
open Go
set_option linter.unusedSimpArgs false
set_option linter.unusedVariables false
set_option maxRecDepth 20000

def pInt : Option Nat → Int
  | none => -1
  | some e => (e : Nat)
def pRow (N : Nat) (p : Nat → Option Nat) : List Int := (List.range N).map fun o => pInt (p o)
def sRow (N : Nat) (s : Nat → Bool) : List LV := (List.range N).map fun o => .B (s o)
theorem pRow_len {N : Nat} {p : Nat → Option Nat} : (pRow N p).length = N := by simp [pRow]
theorem sRow_len {N : Nat} {s : Nat → Bool} : (sRow N s).length = N := by simp [sRow]
theorem pRow_get {N o : Nat} {p : Nat → Option Nat} (h : o < N) : (pRow N p).getD o 0 = pInt (p o) := by
  unfold pRow
  simp only [List.getD_eq_getElem?_getD, List.getElem?_map, List.getElem?_range h, Option.map_some, Option.getD_some]
theorem sRow_get {N o : Nat} {s : Nat → Bool} (h : o < N) : (sRow N s)[o]? = some (.B (s o)) := by
  unfold sRow
  rw [List.getElem?_map, List.getElem?_range h]; rfl
theorem rangeMap_set {α : Type} {N o : Nat} {f : Nat → α} {v : α} (h : o < N) : ((List.range N).map f).set o v = (List.range N).map fun i => if i = o then v else f i := by
  refine List.ext_getElem (by simp) fun i h1 h2 => ?_
  simp only [List.length_map, List.length_range] at h2
  rw [List.getElem_set]
  simp only [List.getElem_map, List.getElem_range]
  by_cases e : o = i
  · subst e; simp
  · rw [if_neg e, if_neg (fun w => e w.symm)]
theorem pRow_set {N o e : Nat} {p : Nat → Option Nat} (h : o < N) : (pRow N p).set o (e : Nat) = pRow N (updP p o (some e)) := by
  unfold pRow
  rw [rangeMap_set h]
  refine List.map_congr_left fun i _ => ?_
  unfold updP
  split <;> rfl
theorem sRow_set {N o : Nat} {s : Nat → Bool} (h : o < N) : (sRow N s).set o (.B true) = sRow N (updP s o true) := by
  unfold sRow
  rw [rangeMap_set h]
  refine List.map_congr_left fun i _ => ?_
  unfold updP
  split <;> rfl
theorem joinL_cons {rec : Nat → KS → Bool × KS} {e o : Nat} {os : List Nat} {k : KS} : joinL rec e (o :: os) k = if k.s o then joinL rec e os k else match k.p o with
    | none => (true, ⟨updP k.p o (some e), updP k.s o true⟩)
    | some e2 => if (rec e2 ⟨k.p, updP k.s o true⟩).1 then (true, ⟨updP (rec e2 ⟨k.p, updP k.s o true⟩).2.p o (some e), (rec e2 ⟨k.p, updP k.s o true⟩).2.s⟩) else joinL rec e os (rec e2 ⟨k.p, updP k.s o true⟩).2 := by
  rw [joinL]; rfl
theorem h_l9Even {c : Cell} {M : Mem} (hc : c.inBox 4 4 4) : CallsTo PG F.spec_l9Even [.agg [.I c.a, .I c.b, .I c.c]] M (.B (evB c)) M := by
  obtain ⟨⟨_, _⟩, ⟨_, _⟩, ⟨_, _⟩⟩ := hc
  have h20 : ¬ ((2 : Int) = 0) := by omega
  refine calls_run K.spec_l9Even rfl ?_
  simp (disch := omega) only [C.spec_l9Even, splice, ne_eq, h20, not_false_eq_true, ↓SXd, SXu, slBounds, ↓sop, ↓aop, ↓reduceIte, LV.cells, AOp.dst, LV.I, LV.B, LV.U, LV.S, LV.nil, Nat.reduceEqDiff, Nat.reduceAdd, Nat.reduceMul, Nat.reduceSub, Nat.reduceLeDiff, Nat.reduceBEq, Nat.reduceDiv, Nat.reduceMod, Int.reduceToNat, Int.reduceLT, Int.reduceLE, Int.reduceAdd, Int.reduceSub, Int.reduceMul, Int.reduceEq, Int.reduceNeg, reduceCtorEq, resV, resAll, ARes.ev, LV.flat, ite_true, ite_false, exists_eq_left', exists_eq_left, keyOf, implies_true, fillC, capOf]
  exact cmp_drop rfl
section
variable {x y z : Int} {cs : List Cell} (hS : Sides x y z)
include hS
theorem ix_cast {c : Cell} (hc : c.inBox x y z) : idx y z c = ((ixN y z c : Nat) : Int) := by
  have := idx_in hS hc
  unfold ixN; omega
theorem nbN_ix {c : Cell} (hc : c.inBox x y z) : nbN x y z cs (ixN y z c) = (nbF x y z cs c).map (ixN y z) := by
  unfold nbN; rw [(ix_lt hS hc).2]
theorem nbN_lt : ∀ e ∈ evN x y z cs, ∀ o ∈ nbN x y z cs e, o < vol x y z := fun e he o ho => by
  obtain ⟨c, h1, h2, rfl⟩ := (mem_evN hS).1 he
  obtain ⟨d, h3, h4, rfl⟩ := (mem_nbN hS (free_in hS h1)).1 ho
  exact (ix_lt hS (free_in hS h3)).1
theorem h_l9Match {tf tp ts : Nat} (hfp : tf ≠ tp) (hfs : tf ≠ ts) (hps : tp ≠ ts) : ∀ (f : Nat) {c : Cell} {k : KS} {M : Mem}, c ∈ freeL x y z cs → evB c = true → ValP (nbN x y z cs) (evN x y z cs) k.p → unS (vol x y z) k.s < f →
    Live M tf (.row (triL (freeL x y z cs)) true 3) → Live M tp (.row (intL (pRow (vol x y z) k.p)) true 1) → Live M ts (.row (sRow (vol x y z) k.s) true 1) →
    CallsR PG F.spec_l9Match [.agg [.I x, .I y, .I z, .ref tf 0 (freeL x y z cs).length], .agg [.I c.a, .I c.b, .I c.c], .ref tp 0 (vol x y z), .ref ts 0 (vol x y z)] M fun v M' => v = .B (joinN (nbN x y z cs) f (ixN y z c) k).1 ∧ FrmL [tp, ts] M M' ∧
      Live M' tp (.row (intL (pRow (vol x y z) (joinN (nbN x y z cs) f (ixN y z c) k).2.p)) true 1) ∧ Live M' ts (.row (sRow (vol x y z) (joinN (nbN x y z cs) f (ixN y z c) k).2.s) true 1) := by
  intro f
  induction f with
  | zero => intro c k M _ _ _ h; omega
  | succ f ih =>
    intro c k M hc hev hV hu hF hP hSn
    have hci := free_in hS hc
    have hv := vol_cast hS
    have hfl : (freeL x y z cs).length ≤ 64 := pick_len hS _
    have hin4 : ∀ d ∈ freeL x y z cs, d.inBox 4 4 4 := fun d hd => box4 hS (free_in hS hd)
    have hce : ixN y z c ∈ evN x y z cs := (mem_evN hS).2 ⟨c, hc, hev, rfl⟩
    have hjr : joinN (nbN x y z cs) (f + 1) (ixN y z c) k = joinL (joinN (nbN x y z cs) f) (ixN y z c) ((nbF x y z cs c).map (ixN y z)) k := by
      show joinL _ _ (nbN x y z cs (ixN y z c)) k = _
      rw [nbN_ix hS hci]
    have hnbl : (nbF x y z cs c).length ≤ (freeL x y z cs).length := List.length_filter_le _ _
    have hnbm : ∀ d ∈ nbF x y z cs c, d ∈ freeL x y z cs ∧ ixN y z d ∈ nbN x y z cs (ixN y z c) := fun d hd => by
      have h1 := List.mem_filter.1 hd
      exact ⟨h1.1, (mem_nbN hS hci).2 ⟨d, h1.1, of_decide_eq_true h1.2, rfl⟩⟩
    rw [hjr]
    have hFl := hF.lt
    have hPl := hP.lt
    have hSl := hSn.lt
    refine callsR_run K.spec_l9Match rfl ?_
    simp (disch := omega) only [C.spec_l9Match, ↓SXd, SXu, slBounds, ↓sop, ↓aop, ↓reduceIte, LV.cells, AOp.dst, LV.I, LV.B, LV.U, LV.S, LV.nil, Nat.reduceEqDiff, Nat.reduceAdd, Nat.reduceMul, Nat.reduceSub, Nat.reduceLeDiff, Nat.reduceBEq, Nat.reduceDiv, Nat.reduceMod, Int.reduceToNat, Int.reduceLT, Int.reduceLE, Int.reduceAdd, Int.reduceSub, Int.reduceMul, Int.reduceEq, Int.reduceNeg, reduceCtorEq, resV, resAll, ARes.ev, LV.flat, ite_true, ite_false, exists_eq_left', exists_eq_left, keyOf, implies_true, fillC, capOf]
    have hnear := h_l2Near (x := x) (y := y) (z := z) (M := M ++ [some (.row [.I x, .I y, .I z, .ref tf 0 (freeL x y z cs).length] true 0), some (.row [.I c.a, .I c.b, .I c.c] true 0)]) hF.app.has (by omega) hin4 (box4 hS hci)
    change CallsTo PG F.spec_l2Near _ _ (.ref _ 0 (nbF x y z cs c).length) (_ ++ [some (Blk.row (triL (nbF x y z cs c)) true 3)]) at hnear
    refine callK_of hnear ?_
    clear hnear
    generalize hnr : nbF x y z cs c = nr at hnbl hnbm ⊢
    simp (disch := omega) only [↓SXd, SXu, slBounds, ↓sop, ↓aop, ↓reduceIte, LV.cells, AOp.dst, LV.I, LV.B, LV.U, LV.S, LV.nil, Nat.reduceEqDiff, Nat.reduceAdd, Nat.reduceMul, Nat.reduceSub, Nat.reduceLeDiff, Nat.reduceBEq, Nat.reduceDiv, Nat.reduceMod, Int.reduceToNat, Int.reduceLT, Int.reduceLE, Int.reduceAdd, Int.reduceSub, Int.reduceMul, Int.reduceEq, Int.reduceNeg, reduceCtorEq, resV, resAll, ARes.ev, LV.flat, ite_true, ite_false, exists_eq_left', exists_eq_left, keyOf, implies_true, fillC, capOf]
    refine ev_loop (fun m fr M' => ∃ (i : Nat) (ki : KS), i + m = nr.length ∧ joinL (joinN (nbN x y z cs) f) (ixN y z c) (nr.map (ixN y z)) k = joinL (joinN (nbN x y z cs) f) (ixN y z c) ((nr.drop i).map (ixN y z)) ki ∧ ValP (nbN x y z cs) (evN x y z cs) ki.p ∧ unS (vol x y z) ki.s < f + 1 ∧ FrmL [tp, ts] M M' ∧
      Live M' M.length (.row [.I x, .I y, .I z, .ref tf 0 (freeL x y z cs).length] true 0) ∧ Live M' (M.length + 1) (.row [.I c.a, .I c.b, .I c.c] true 0) ∧ Live M' (M.length + 2) (.row (triL nr) true 3) ∧ Live M' tp (.row (intL (pRow (vol x y z) ki.p)) true 1) ∧ Live M' ts (.row (sRow (vol x y z) ki.s) true 1) ∧
      fr 2 = .ref tp 0 (vol x y z) ∧ fr 3 = .ref ts 0 (vol x y z) ∧ fr 4 = .ptr M.length 0 ∧ fr 5 = .ptr (M.length + 1) 0 ∧ fr 9 = .ref (M.length + 2) 0 nr.length ∧ fr 10 = .I i) nr.length
      ⟨0, k, by omega, rfl, hV, hu, FrmL.of (Pre.app _ _), Live.new, Live.newj rfl, Live.newj rfl, hP.app, hSn.app, rfl, rfl, rfl, rfl, rfl, rfl⟩ ?_
    rintro m fr M' ⟨i, ki, hi, hj, hVi, hui, hfr, b4, b5, b9, bp, bs, f2, f3, f4, f5, f9, f10⟩
    simp (disch := omega) only [f2, f3, f4, f5, f9, f10, ↓SXd, SXu, slBounds, ↓sop, ↓aop, ↓reduceIte, LV.cells, AOp.dst, LV.I, LV.B, LV.U, LV.S, LV.nil, Nat.reduceEqDiff, Nat.reduceAdd, Nat.reduceMul, Nat.reduceSub, Nat.reduceLeDiff, Nat.reduceBEq, Nat.reduceDiv, Nat.reduceMod, Int.reduceToNat, Int.reduceLT, Int.reduceLE, Int.reduceAdd, Int.reduceSub, Int.reduceMul, Int.reduceEq, Int.reduceNeg, reduceCtorEq, resV, resAll, ARes.ev, LV.flat, ite_true, ite_false, exists_eq_left', exists_eq_left, keyOf, implies_true, fillC, capOf]
    refine condC_dec (fun hlt => ?_) (fun hlt => ?_)
    rotate_left
    · have : i = nr.length := by omega
      subst this
      rw [List.drop_length, List.map_nil] at hj
      rw [hj]
      simp (disch := omega) only [f2, f3, f4, f5, f9, f10, ↓SXd, SXu, slBounds, ↓sop, ↓aop, ↓reduceIte, LV.cells, AOp.dst, LV.I, LV.B, LV.U, LV.S, LV.nil, Nat.reduceEqDiff, Nat.reduceAdd, Nat.reduceMul, Nat.reduceSub, Nat.reduceLeDiff, Nat.reduceBEq, Nat.reduceDiv, Nat.reduceMod, Int.reduceToNat, Int.reduceLT, Int.reduceLE, Int.reduceAdd, Int.reduceSub, Int.reduceMul, Int.reduceEq, Int.reduceNeg, reduceCtorEq, resV, resAll, ARes.ev, LV.flat, ite_true, ite_false, exists_eq_left', exists_eq_left, keyOf, implies_true, fillC, capOf]
      exact ⟨rfl, hfr, bp, bs⟩
    have hil : i < nr.length := by omega
    have hdr : nr.drop i = nr.getD i default :: nr.drop (i + 1) := by
      rw [List.drop_eq_getElem_cons hil]; simp [hil]
    have hgd := b9.tri0 hil
    obtain ⟨hdm, hdn⟩ := hnbm _ (getD_mem' (d := default) hil)
    rw [hdr, List.map_cons] at hj
    generalize nr.getD i default = d at hgd hdm hdn hj
    have hdi := free_in hS hdm
    obtain ⟨hon, hcd⟩ := ix_lt hS hdi
    have hpl : ∀ {v : LV} {Z : Mem}, v.one = true ∧ v.cells = some [v] → CallsTo PG F.spec_l9Place [.agg [.I x, .I y, .I z, v], .agg [.I d.a, .I d.b, .I d.c]] Z (.I (ixN y z d : Nat)) Z := fun {v Z} q => by
      have := h_l9Place (M := Z) hS hdi q
      rwa [ix_cast hS hdi] at this
    have hpc : ∀ {v : LV} {Z : Mem}, v.one = true ∧ v.cells = some [v] → CallsTo PG F.spec_l9Place [.agg [.I x, .I y, .I z, v], .agg [.I c.a, .I c.b, .I c.c]] Z (.I (ixN y z c : Nat)) Z := fun {v Z} q => by
      have := h_l9Place (M := Z) hS hci q
      rwa [ix_cast hS hci] at this
    rw [joinL_cons] at hj
    generalize ixN y z d = o at hon hdn hpl hj
    have hgs : getCell M' ts o = some (.B (ki.s o)) := by rw [bs.cell, sRow_get hon]
    have hgp := Ints.get bp.has (k := o) (by rw [pRow_len]; exact hon)
    rw [Nat.zero_add, pRow_get hon] at hgp
    have hob : (o : Int) < (vol x y z : Nat) := by omega
    simp (disch := omega) only [f2, f3, f4, f5, f9, f10, b4.cells, hgd, Cell.row, ↓SXd, SXu, slBounds, ↓sop, ↓aop, ↓reduceIte, LV.cells, AOp.dst, LV.I, LV.B, LV.U, LV.S, LV.nil, Nat.reduceEqDiff, Nat.reduceAdd, Nat.reduceMul, Nat.reduceSub, Nat.reduceLeDiff, Nat.reduceBEq, Nat.reduceDiv, Nat.reduceMod, Int.reduceToNat, Int.reduceLT, Int.reduceLE, Int.reduceAdd, Int.reduceSub, Int.reduceMul, Int.reduceEq, Int.reduceNeg, reduceCtorEq, resV, resAll, ARes.ev, LV.flat, ite_true, ite_false, exists_eq_left', exists_eq_left, keyOf, implies_true, fillC, capOf]
    refine callK_of (hpl ⟨rfl, rfl⟩) ?_
    simp (disch := omega) only [f2, f3, f4, f5, f9, f10, hgs, hob, Nat.mul_one, Nat.zero_add, ↓SXd, SXu, slBounds, ↓sop, ↓aop, ↓reduceIte, LV.cells, AOp.dst, LV.I, LV.B, LV.U, LV.S, LV.nil, Nat.reduceEqDiff, Nat.reduceAdd, Nat.reduceMul, Nat.reduceSub, Nat.reduceLeDiff, Nat.reduceBEq, Nat.reduceDiv, Nat.reduceMod, Int.reduceToNat, Int.reduceLT, Int.reduceLE, Int.reduceAdd, Int.reduceSub, Int.reduceMul, Int.reduceEq, Int.reduceNeg, reduceCtorEq, resV, resAll, ARes.ev, LV.flat, ite_true, ite_false, exists_eq_left', exists_eq_left, keyOf, implies_true, fillC, capOf]
    by_cases hs : ki.s o = true
    · rw [if_pos hs] at hj
      simp (disch := omega) only [f2, f3, f4, f5, f9, f10, hs, ↓SXd, SXu, slBounds, ↓sop, ↓aop, ↓reduceIte, LV.cells, AOp.dst, LV.I, LV.B, LV.U, LV.S, LV.nil, Nat.reduceEqDiff, Nat.reduceAdd, Nat.reduceMul, Nat.reduceSub, Nat.reduceLeDiff, Nat.reduceBEq, Nat.reduceDiv, Nat.reduceMod, Int.reduceToNat, Int.reduceLT, Int.reduceLE, Int.reduceAdd, Int.reduceSub, Int.reduceMul, Int.reduceEq, Int.reduceNeg, reduceCtorEq, resV, resAll, ARes.ev, LV.flat, ite_true, ite_false, exists_eq_left', exists_eq_left, keyOf, implies_true, fillC, capOf]
      exact ⟨m - 1, by omega, i + 1, ki, by omega, hj, hVi, hui, hfr, b4, b5, b9, bp, bs, f2, f3, f4, f5, f9, eqI (natI _)⟩
    rw [if_neg hs] at hj
    have hs' : ki.s o = false := by simpa using hs
    have huu := unS_upd hon hs'
    simp (disch := omega) only [f2, f3, f4, f5, f9, f10, hs', hob, Nat.mul_one, Nat.zero_add, ↓SXd, SXu, slBounds, ↓sop, ↓aop, ↓reduceIte, LV.cells, AOp.dst, LV.I, LV.B, LV.U, LV.S, LV.nil, Nat.reduceEqDiff, Nat.reduceAdd, Nat.reduceMul, Nat.reduceSub, Nat.reduceLeDiff, Nat.reduceBEq, Nat.reduceDiv, Nat.reduceMod, Int.reduceToNat, Int.reduceLT, Int.reduceLE, Int.reduceAdd, Int.reduceSub, Int.reduceMul, Int.reduceEq, Int.reduceNeg, reduceCtorEq, resV, resAll, ARes.ev, LV.flat, ite_true, ite_false, exists_eq_left', exists_eq_left, keyOf, implies_true, fillC, capOf]
    refine memK_at bs (by rw [sRow_len]; exact hon) fun N1 k1 k2 k3 => ?_
    rw [sRow_set hon] at k2
    have hl9 := b9.lt
    have c4 := live_step b4 (show M.length ≠ ts by omega) k3
    have c5 := live_step b5 (show M.length + 1 ≠ ts by omega) k3
    have c9 := live_step b9 (show M.length + 2 ≠ ts by omega) k3
    have cp := live_step bp hps k3
    have hgp1 := Ints.get cp.has (k := o) (by rw [pRow_len]; exact hon)
    rw [Nat.zero_add, pRow_get hon] at hgp1
    have hfr1 : FrmL [tp, ts] M N1 := hfr.trans ⟨by omega, fun q q1 q2 => k3 q (fun e => q2 (by simp [e])) q1⟩
    have hF1 := hF.frmL hfr1 (by simp; omega)
    cases hp : ki.p o with
    | none =>
      rw [hp] at hj hgp1
      change getCell N1 tp o = some (.I (-1)) at hgp1
      simp only at hj
      rw [hj]
      simp (disch := omega) only [f2, f3, f4, f5, f9, f10, hgp1, hob, c4.cells, c5.cells, Nat.mul_one, Nat.zero_add, Int.reduceNeg, Int.reduceLT, ↓SXd, SXu, slBounds, ↓sop, ↓aop, ↓reduceIte, LV.cells, AOp.dst, LV.I, LV.B, LV.U, LV.S, LV.nil, Nat.reduceEqDiff, Nat.reduceAdd, Nat.reduceMul, Nat.reduceSub, Nat.reduceLeDiff, Nat.reduceBEq, Nat.reduceDiv, Nat.reduceMod, Int.reduceToNat, Int.reduceLT, Int.reduceLE, Int.reduceAdd, Int.reduceSub, Int.reduceMul, Int.reduceEq, Int.reduceNeg, reduceCtorEq, resV, resAll, ARes.ev, LV.flat, ite_true, ite_false, exists_eq_left', exists_eq_left, keyOf, implies_true, fillC, capOf]
      refine callK_of (hpc ⟨rfl, rfl⟩) ?_
      simp (disch := omega) only [f2, f3, f4, f5, f9, f10, hob, Nat.mul_one, Nat.zero_add, ↓SXd, SXu, slBounds, ↓sop, ↓aop, ↓reduceIte, LV.cells, AOp.dst, LV.I, LV.B, LV.U, LV.S, LV.nil, Nat.reduceEqDiff, Nat.reduceAdd, Nat.reduceMul, Nat.reduceSub, Nat.reduceLeDiff, Nat.reduceBEq, Nat.reduceDiv, Nat.reduceMod, Int.reduceToNat, Int.reduceLT, Int.reduceLE, Int.reduceAdd, Int.reduceSub, Int.reduceMul, Int.reduceEq, Int.reduceNeg, reduceCtorEq, resV, resAll, ARes.ev, LV.flat, ite_true, ite_false, exists_eq_left', exists_eq_left, keyOf, implies_true, fillC, capOf]
      refine memK_int cp (by rw [pRow_len]; exact hon) fun N2 j1 j2 j3 => ?_
      rw [pRow_set hon] at j2
      simp (disch := omega) only [f2, f3, f4, f5, f9, f10, ↓SXd, SXu, slBounds, ↓sop, ↓aop, ↓reduceIte, LV.cells, AOp.dst, LV.I, LV.B, LV.U, LV.S, LV.nil, Nat.reduceEqDiff, Nat.reduceAdd, Nat.reduceMul, Nat.reduceSub, Nat.reduceLeDiff, Nat.reduceBEq, Nat.reduceDiv, Nat.reduceMod, Int.reduceToNat, Int.reduceLT, Int.reduceLE, Int.reduceAdd, Int.reduceSub, Int.reduceMul, Int.reduceEq, Int.reduceNeg, reduceCtorEq, resV, resAll, ARes.ev, LV.flat, ite_true, ite_false, exists_eq_left', exists_eq_left, keyOf, implies_true, fillC, capOf]
      exact ⟨rfl, hfr1.trans ⟨by omega, fun q q1 q2 => j3 q (fun e => q2 (by simp [e])) q1⟩, j2, live_step k2 (fun e => hps e.symm) j3⟩
    | some e2 =>
      rw [hp] at hj hgp1
      change getCell N1 tp o = some (.I (e2 : Nat)) at hgp1
      simp only at hj
      obtain ⟨he2, _⟩ := hVi o e2 hp
      obtain ⟨c2, h1, h2, rfl⟩ := (mem_evN hS).1 he2
      have hc2i := free_in hS h1
      obtain ⟨h2n, h2c⟩ := ix_lt hS hc2i
      have hnn : ¬ ((ixN y z c2 : Nat) : Int) < 0 := by omega
      have hcl : (cellsOf x y z).length = vol x y z := by simp [cellsOf]
      have hgc : (cellsOf x y z).getD (ixN y z c2) default = c2 := by
        unfold cellsOf
        simp only [List.getD_eq_getElem?_getD, List.getElem?_map, List.getElem?_range h2n, Option.map_some, Option.getD_some]
        exact h2c
      have hgt := (Live.new : Live (N1 ++ [some (.row (triL (cellsOf x y z)) true 3)]) N1.length (.row (triL (cellsOf x y z)) true 3)).tri0 (k := ixN y z c2) (by rw [hcl]; exact h2n)
      rw [hgc] at hgt
      have h2b : ((ixN y z c2 : Nat) : Int) < (vol x y z : Nat) := by omega
      have r := joinN_res (nbN_lt hS) f (ixN y z c2) ⟨ki.p, updP ki.s o true⟩ he2 hVi (show unS (vol x y z) (updP ki.s o true) < f by omega)
      have hrec := fun {Z : Mem} (q1 : Live Z tf _) (q2 : Live Z tp _) (q3 : Live Z ts _) => ih (c := c2) (k := ⟨ki.p, updP ki.s o true⟩) (M := Z) h1 h2 hVi (show unS (vol x y z) (updP ki.s o true) < f by omega) q1 q2 q3
      generalize hg : joinN (nbN x y z cs) f (ixN y z c2) ⟨ki.p, updP ki.s o true⟩ = g at r hrec hj
      obtain ⟨b, k2'⟩ := g
      simp only at r hrec hj
      simp (disch := omega) only [f2, f3, f4, f5, f9, f10, hgp1, hob, hnn, c4.cells, Nat.mul_one, Nat.zero_add, ↓SXd, SXu, slBounds, ↓sop, ↓aop, ↓reduceIte, LV.cells, AOp.dst, LV.I, LV.B, LV.U, LV.S, LV.nil, Nat.reduceEqDiff, Nat.reduceAdd, Nat.reduceMul, Nat.reduceSub, Nat.reduceLeDiff, Nat.reduceBEq, Nat.reduceDiv, Nat.reduceMod, Int.reduceToNat, Int.reduceLT, Int.reduceLE, Int.reduceAdd, Int.reduceSub, Int.reduceMul, Int.reduceEq, Int.reduceNeg, reduceCtorEq, resV, resAll, ARes.ev, LV.flat, ite_true, ite_false, exists_eq_left', exists_eq_left, keyOf, implies_true, fillC, capOf]
      refine callK_of (h_l2All hS) ?_
      rw [hcl]
      simp (disch := omega) only [f2, f3, f4, f5, f9, f10, hgt, h2b, Cell.row, Nat.mul_one, Nat.zero_add, ↓SXd, SXu, slBounds, ↓sop, ↓aop, ↓reduceIte, LV.cells, AOp.dst, LV.I, LV.B, LV.U, LV.S, LV.nil, Nat.reduceEqDiff, Nat.reduceAdd, Nat.reduceMul, Nat.reduceSub, Nat.reduceLeDiff, Nat.reduceBEq, Nat.reduceDiv, Nat.reduceMod, Int.reduceToNat, Int.reduceLT, Int.reduceLE, Int.reduceAdd, Int.reduceSub, Int.reduceMul, Int.reduceEq, Int.reduceNeg, reduceCtorEq, resV, resAll, ARes.ev, LV.flat, ite_true, ite_false, exists_eq_left', exists_eq_left, keyOf, implies_true, fillC, capOf]
      refine callR_of (hrec hF1.app cp.app k2.app) ?_
      rintro _ N2 ⟨rfl, hfr2, bp2, bs2⟩
      have hfr12 : FrmL [tp, ts] M N2 := (hfr1.trans (FrmL.of (Pre.app _ _))).trans hfr2
      have d4 := c4.app.frmL hfr2 (by simp; omega)
      have d5 := c5.app.frmL hfr2 (by simp; omega)
      have d9 := c9.app.frmL hfr2 (by simp; omega)
      cases b with
      | true =>
        rw [if_pos rfl] at hj
        rw [hj]
        simp (disch := omega) only [f2, f3, f4, f5, f9, f10, hnn, d4.cells, d5.cells, hob, Nat.mul_one, Nat.zero_add, ↓SXd, SXu, slBounds, ↓sop, ↓aop, ↓reduceIte, LV.cells, AOp.dst, LV.I, LV.B, LV.U, LV.S, LV.nil, Nat.reduceEqDiff, Nat.reduceAdd, Nat.reduceMul, Nat.reduceSub, Nat.reduceLeDiff, Nat.reduceBEq, Nat.reduceDiv, Nat.reduceMod, Int.reduceToNat, Int.reduceLT, Int.reduceLE, Int.reduceAdd, Int.reduceSub, Int.reduceMul, Int.reduceEq, Int.reduceNeg, reduceCtorEq, resV, resAll, ARes.ev, LV.flat, ite_true, ite_false, exists_eq_left', exists_eq_left, keyOf, implies_true, fillC, capOf]
        refine callK_of (hpc ⟨rfl, rfl⟩) ?_
        simp (disch := omega) only [f2, f3, f4, f5, f9, f10, hob, Nat.mul_one, Nat.zero_add, ↓SXd, SXu, slBounds, ↓sop, ↓aop, ↓reduceIte, LV.cells, AOp.dst, LV.I, LV.B, LV.U, LV.S, LV.nil, Nat.reduceEqDiff, Nat.reduceAdd, Nat.reduceMul, Nat.reduceSub, Nat.reduceLeDiff, Nat.reduceBEq, Nat.reduceDiv, Nat.reduceMod, Int.reduceToNat, Int.reduceLT, Int.reduceLE, Int.reduceAdd, Int.reduceSub, Int.reduceMul, Int.reduceEq, Int.reduceNeg, reduceCtorEq, resV, resAll, ARes.ev, LV.flat, ite_true, ite_false, exists_eq_left', exists_eq_left, keyOf, implies_true, fillC, capOf]
        refine memK_int bp2 (by rw [pRow_len]; exact hon) fun N3 j1 j2 j3 => ?_
        rw [pRow_set hon] at j2
        simp (disch := omega) only [f2, f3, f4, f5, f9, f10, ↓SXd, SXu, slBounds, ↓sop, ↓aop, ↓reduceIte, LV.cells, AOp.dst, LV.I, LV.B, LV.U, LV.S, LV.nil, Nat.reduceEqDiff, Nat.reduceAdd, Nat.reduceMul, Nat.reduceSub, Nat.reduceLeDiff, Nat.reduceBEq, Nat.reduceDiv, Nat.reduceMod, Int.reduceToNat, Int.reduceLT, Int.reduceLE, Int.reduceAdd, Int.reduceSub, Int.reduceMul, Int.reduceEq, Int.reduceNeg, reduceCtorEq, resV, resAll, ARes.ev, LV.flat, ite_true, ite_false, exists_eq_left', exists_eq_left, keyOf, implies_true, fillC, capOf]
        exact ⟨rfl, hfr12.trans ⟨by omega, fun q q1 q2 => j3 q (fun e => q2 (by simp [e])) q1⟩, j2, live_step bs2 (fun e => hps e.symm) j3⟩
      | false =>
        rw [if_neg (by simp)] at hj
        simp (disch := omega) only [f2, f3, f4, f5, f9, f10, hnn, ↓SXd, SXu, slBounds, ↓sop, ↓aop, ↓reduceIte, LV.cells, AOp.dst, LV.I, LV.B, LV.U, LV.S, LV.nil, Nat.reduceEqDiff, Nat.reduceAdd, Nat.reduceMul, Nat.reduceSub, Nat.reduceLeDiff, Nat.reduceBEq, Nat.reduceDiv, Nat.reduceMod, Int.reduceToNat, Int.reduceLT, Int.reduceLE, Int.reduceAdd, Int.reduceSub, Int.reduceMul, Int.reduceEq, Int.reduceNeg, reduceCtorEq, resV, resAll, ARes.ev, LV.flat, ite_true, ite_false, exists_eq_left', exists_eq_left, keyOf, implies_true, fillC, capOf]
        exact ⟨m - 1, by omega, i + 1, k2', by omega, hj, r.val, by have := unS_mono (N := vol x y z) r.mono; simp only at this; omega, hfr12, d4, d5, d9, bp2, bs2, f2, f3, f4, f5, f9, eqI (natI _)⟩
end
theorem kuhn_val {nb : Nat → List Nat} {N : Nat} {L : List Nat} (hN : ∀ e ∈ L, ∀ o ∈ nb e, o < N) : ∀ (L1 : List Nat) (a : Nat × (Nat → Option Nat)), (∀ e ∈ L1, e ∈ L) → ValP nb L a.2 → ValP nb L (L1.foldl (kuhnStep nb (N + 1)) a).2 ∧ (L1.foldl (kuhnStep nb (N + 1)) a).1 ≤ a.1 + L1.length
  | [], a, _, h => ⟨h, by simp⟩
  | e :: L1, a, hm, h => by
    have hu : unS N (fun _ => false) < N + 1 := by
      have := List.countP_le_length (p := fun o : Nat => !(fun _ => false) o) (l := List.range N)
      rw [List.length_range] at this
      unfold unS; omega
    have r := joinN_res hN (N + 1) e ⟨a.2, fun _ => false⟩ (hm e (by simp)) h hu
    have ih := kuhn_val hN L1 (kuhnStep nb (N + 1) a e) (fun q hq => hm q (List.mem_cons_of_mem _ hq)) r.val
    rw [List.foldl_cons]
    refine ⟨ih.1, ?_⟩
    have h2 := ih.2
    have h3 : (kuhnStep nb (N + 1) a e).1 ≤ a.1 + 1 := by unfold kuhnStep; simp only; split <;> omega
    rw [List.length_cons]; omega
theorem unS_all (N : Nat) : unS N (fun _ => false) < N + 1 := by
  have := List.countP_le_length (p := fun o : Nat => !(fun _ => false) o) (l := List.range N)
  rw [List.length_range] at this
  unfold unS; omega
noncomputable def mdOf (x y z : Int) (cs : List Cell) : Option Int := by
  classical
  exact if HeapOK x y z cs then some ((kuhnF x y z cs).1 : Nat) else none
/-- The state of the search behind the first free cells. -/
def kuhnK (x y z : Int) (cs : List Cell) (i : Nat) : Nat × (Nat → Option Nat) := kuhn (nbN x y z cs) (vol x y z + 1) ((((freeL x y z cs).take i).filter evB).map (ixN y z))
theorem kuhnK_succ {x y z : Int} {cs : List Cell} {i : Nat} (h : i < (freeL x y z cs).length) : kuhnK x y z cs (i + 1) = if evB ((freeL x y z cs).getD i default) = true then kuhnStep (nbN x y z cs) (vol x y z + 1) (kuhnK x y z cs i) (ixN y z ((freeL x y z cs).getD i default)) else kuhnK x y z cs i := by
  unfold kuhnK
  rw [take_snoc' h, List.filter_append, List.map_append]
  by_cases he : evB ((freeL x y z cs).getD i default) = true
  · rw [if_pos he, List.filter_cons_of_pos he]
    exact kuhn_snoc
  · rw [if_neg he, List.filter_cons_of_neg he]
    simp
theorem kuhnK_all {x y z : Int} {cs : List Cell} : kuhnK x y z cs (freeL x y z cs).length = kuhnF x y z cs := by
  unfold kuhnK; rw [List.take_length]; rfl
theorem kuhnK_val {x y z : Int} {cs : List Cell} (hS : Sides x y z) (i : Nat) : ValP (nbN x y z cs) (evN x y z cs) (kuhnK x y z cs i).2 ∧ (kuhnK x y z cs i).1 ≤ 64 := by
  have h := kuhn_val (nbN_lt (cs := cs) hS) ((((freeL x y z cs).take i).filter evB).map (ixN y z)) (0, fun _ => none) (fun e he => by
    obtain ⟨c, hc, rfl⟩ := List.mem_map.1 he
    have hc2 := List.mem_filter.1 hc
    exact (mem_evN hS).2 ⟨c, List.mem_of_mem_take hc2.1, hc2.2, rfl⟩) (fun o x h => by cases h)
  refine ⟨h.1, ?_⟩
  have h2 := h.2
  have h3 : (freeL x y z cs).length ≤ 64 := pick_len hS _
  have h4 := List.length_filter_le evB ((freeL x y z cs).take i)
  have h5 := List.length_take_le' i (freeL x y z cs)
  rw [List.length_map] at h2
  unfold kuhnK kuhn
  omega
theorem made_sRow (n : Nat) : (List.replicate n [LV.val (Value.bool false)]).flatten = sRow n fun _ => false := by
  have : sRow n (fun _ => false) = List.replicate n (.B false) := by
    unfold sRow
    rw [List.map_const', List.length_range]
  rw [this]
  induction n with
  | zero => rfl
  | succ n ih => rw [List.replicate_succ, List.flatten_cons, ih (by unfold sRow; rw [List.map_const', List.length_range]), List.replicate_succ]; rfl
theorem h_sMostDominoes {x y z : Int} {t o : Nat} {cs : List Cell} {M : Mem} (h : Tri M t o cs) (hn : cs.length ≤ 1000000000) :
    CallsR PG F.spec_MostDominoes [.agg [.I x, .I y, .I z, .ref t o cs.length]] M fun v N => v = .tup [.I ((mdOf x y z cs).getD 0), .B (mdOf x y z cs).isSome] ∧ Pre M N := by
  refine callsR_run K.spec_MostDominoes rfl ?_
  simp (disch := omega) only [C.spec_MostDominoes, ↓SXd, SXu, slBounds, ↓sop, ↓aop, ↓reduceIte, LV.cells, AOp.dst, LV.I, LV.B, LV.U, LV.S, LV.nil, Nat.reduceEqDiff, Nat.reduceAdd, Nat.reduceMul, Nat.reduceSub, Nat.reduceLeDiff, Nat.reduceBEq, Nat.reduceDiv, Nat.reduceMod, Int.reduceToNat, Int.reduceLT, Int.reduceLE, Int.reduceAdd, Int.reduceSub, Int.reduceMul, Int.reduceEq, Int.reduceNeg, reduceCtorEq, resV, resAll, ARes.ev, LV.flat, ite_true, ite_false, exists_eq_left', exists_eq_left, keyOf, implies_true, fillC, capOf]
  refine callK_of (h_l2Heap h.app hn) ?_
  simp (disch := omega) only [↓SXd, SXu, slBounds, ↓sop, ↓aop, ↓reduceIte, LV.cells, AOp.dst, LV.I, LV.B, LV.U, LV.S, LV.nil, Nat.reduceEqDiff, Nat.reduceAdd, Nat.reduceMul, Nat.reduceSub, Nat.reduceLeDiff, Nat.reduceBEq, Nat.reduceDiv, Nat.reduceMod, Int.reduceToNat, Int.reduceLT, Int.reduceLE, Int.reduceAdd, Int.reduceSub, Int.reduceMul, Int.reduceEq, Int.reduceNeg, reduceCtorEq, resV, resAll, ARes.ev, LV.flat, ite_true, ite_false, exists_eq_left', exists_eq_left, keyOf, implies_true, fillC, capOf]
  by_cases hH : HeapOK x y z cs
  rotate_left
  · rw [show mdOf x y z cs = none from if_neg hH]
    simp (disch := omega) only [hH, ↓SXd, SXu, slBounds, ↓sop, ↓aop, ↓reduceIte, LV.cells, AOp.dst, LV.I, LV.B, LV.U, LV.S, LV.nil, Nat.reduceEqDiff, Nat.reduceAdd, Nat.reduceMul, Nat.reduceSub, Nat.reduceLeDiff, Nat.reduceBEq, Nat.reduceDiv, Nat.reduceMod, Int.reduceToNat, Int.reduceLT, Int.reduceLE, Int.reduceAdd, Int.reduceSub, Int.reduceMul, Int.reduceEq, Int.reduceNeg, reduceCtorEq, resV, resAll, ARes.ev, LV.flat, ite_true, ite_false, exists_eq_left', exists_eq_left, keyOf, implies_true, fillC, capOf]
    exact ⟨rfl, Pre.app _ _⟩
  rw [show mdOf x y z cs = some ((kuhnF x y z cs).1 : Nat) from if_pos hH]
  have hS := hH.1
  have hv := vol_cast hS
  have hvb := vol_bound hS
  have hfr := h_l9Free (M := M ++ [some (.row [.I x, .I y, .I z, .ref t o cs.length] true 0)]) h.app hH
  change CallsTo PG F.spec_l9Free _ _ (.agg [.I x, .I y, .I z, .ref _ 0 (freeL x y z cs).length]) (_ ++ [some (.row (triL (freeL x y z cs)) true 3)]) at hfr
  have hfl : (freeL x y z cs).length ≤ 64 := pick_len hS _
  simp (disch := omega) only [hH, ↓SXd, SXu, slBounds, ↓sop, ↓aop, ↓reduceIte, LV.cells, AOp.dst, LV.I, LV.B, LV.U, LV.S, LV.nil, Nat.reduceEqDiff, Nat.reduceAdd, Nat.reduceMul, Nat.reduceSub, Nat.reduceLeDiff, Nat.reduceBEq, Nat.reduceDiv, Nat.reduceMod, Int.reduceToNat, Int.reduceLT, Int.reduceLE, Int.reduceAdd, Int.reduceSub, Int.reduceMul, Int.reduceEq, Int.reduceNeg, reduceCtorEq, resV, resAll, ARes.ev, LV.flat, ite_true, ite_false, exists_eq_left', exists_eq_left, keyOf, implies_true, fillC, capOf]
  refine callK_of hfr ?_
  simp (disch := omega) only [splice, ↓SXd, SXu, slBounds, ↓sop, ↓aop, ↓reduceIte, LV.cells, AOp.dst, LV.I, LV.B, LV.U, LV.S, LV.nil, Nat.reduceEqDiff, Nat.reduceAdd, Nat.reduceMul, Nat.reduceSub, Nat.reduceLeDiff, Nat.reduceBEq, Nat.reduceDiv, Nat.reduceMod, Int.reduceToNat, Int.reduceLT, Int.reduceLE, Int.reduceAdd, Int.reduceSub, Int.reduceMul, Int.reduceEq, Int.reduceNeg, reduceCtorEq, resV, resAll, ARes.ev, LV.flat, ite_true, ite_false, exists_eq_left', exists_eq_left, keyOf, implies_true, fillC, capOf]
  refine ev_loop (fun m fr M' => ∃ (i u : Nat), i + m = vol x y z ∧ Pre M M' ∧ Live M' M.length (.row [.I x, .I y, .I z, .ref t o cs.length] true 0) ∧ Live M' (M.length + 1) (.row (triL (freeL x y z cs)) true 3) ∧ Live M' (M.length + 2) (.row [.I x, .I y, .I z, .ref (M.length + 1) 0 (freeL x y z cs).length] true 0) ∧ M.length + 3 ≤ u ∧ Live M' u (.row (intL (List.replicate i (-1))) true 1) ∧
    fr 1 = .ptr M.length 0 ∧ fr 4 = .ptr (M.length + 2) 0 ∧ fr 5 = .I 0 ∧ fr 6 = .ref u 0 i ∧ fr 7 = .I i) (vol x y z)
    ⟨0, M.length + 3, by omega, Pre.app _ _, Live.new, Live.newj rfl, Live.newj rfl, by omega, Live.newj rfl, rfl, rfl, rfl, rfl, rfl⟩ ?_
  rintro m fr M' ⟨i, u, hi, hpre, b1, b2, b4, hu, bu, f1, f4, f5, f6, f7⟩
  simp (disch := omega) only [f1, f4, f5, f6, f7, b1.cell, ↓SXd, SXu, slBounds, ↓sop, ↓aop, ↓reduceIte, LV.cells, AOp.dst, LV.I, LV.B, LV.U, LV.S, LV.nil, Nat.reduceEqDiff, Nat.reduceAdd, Nat.reduceMul, Nat.reduceSub, Nat.reduceLeDiff, Nat.reduceBEq, Nat.reduceDiv, Nat.reduceMod, Int.reduceToNat, Int.reduceLT, Int.reduceLE, Int.reduceAdd, Int.reduceSub, Int.reduceMul, Int.reduceEq, Int.reduceNeg, reduceCtorEq, resV, resAll, ARes.ev, LV.flat, ite_true, ite_false, exists_eq_left', exists_eq_left, keyOf, implies_true, fillC, capOf]
  refine condC_dec (fun hlt => ?_) (fun hlt => ?_)
  · have hrl : (List.replicate i (-1 : Int)).length = i := List.length_replicate
    have f6' : fr 6 = .ref u 0 (List.replicate i (-1 : Int)).length := by rw [hrl]; exact f6
    simp (disch := omega) only [f1, f4, f5, f6', f7, ↓SXd, SXu, slBounds, ↓sop, ↓aop, ↓reduceIte, LV.cells, AOp.dst, LV.I, LV.B, LV.U, LV.S, LV.nil, Nat.reduceEqDiff, Nat.reduceAdd, Nat.reduceMul, Nat.reduceSub, Nat.reduceLeDiff, Nat.reduceBEq, Nat.reduceDiv, Nat.reduceMod, Int.reduceToNat, Int.reduceLT, Int.reduceLE, Int.reduceAdd, Int.reduceSub, Int.reduceMul, Int.reduceEq, Int.reduceNeg, reduceCtorEq, resV, resAll, ARes.ev, LV.flat, ite_true, ite_false, exists_eq_left', exists_eq_left, keyOf, implies_true, fillC, capOf]
    refine appendK_int bu (by omega) fun N1 k1 k2 k3 => ?_
    have hl4 := b4.lt
    simp (disch := omega) only [f1, f4, f5, f6', f7, ↓SXd, SXu, slBounds, ↓sop, ↓aop, ↓reduceIte, LV.cells, AOp.dst, LV.I, LV.B, LV.U, LV.S, LV.nil, Nat.reduceEqDiff, Nat.reduceAdd, Nat.reduceMul, Nat.reduceSub, Nat.reduceLeDiff, Nat.reduceBEq, Nat.reduceDiv, Nat.reduceMod, Int.reduceToNat, Int.reduceLT, Int.reduceLE, Int.reduceAdd, Int.reduceSub, Int.reduceMul, Int.reduceEq, Int.reduceNeg, reduceCtorEq, resV, resAll, ARes.ev, LV.flat, ite_true, ite_false, exists_eq_left', exists_eq_left, keyOf, implies_true, fillC, capOf]
    refine ⟨m - 1, by omega, i + 1, M'.length + 1, by omega, pre_step hpre (by omega) k1 k3, live_step b1 (by omega) k3, live_step b2 (by omega) k3, live_step b4 (by omega) k3, by omega, ?_, f1, f4, f5, ?_, eqI (natI _)⟩
    · rw [List.replicate_succ']; exact k2
    · show LV.ref (M'.length + 1) 0 (List.replicate i (-1 : Int) ++ [-1]).length = _
      rw [List.length_append, hrl]; rfl
  have hiv : i = vol x y z := by omega
  subst hiv
  have hpr : List.replicate (vol x y z) (-1 : Int) = pRow (vol x y z) (kuhnK x y z cs 0).2 := by
    unfold kuhnK kuhn pRow
    simp only [List.take_zero, List.filter_nil, List.map_nil, List.foldl_nil, pInt]
    rw [List.map_const', List.length_range]
  rw [hpr] at bu
  simp (disch := omega) only [f1, f4, f5, f6, f7, ↓SXd, SXu, slBounds, ↓sop, ↓aop, ↓reduceIte, LV.cells, AOp.dst, LV.I, LV.B, LV.U, LV.S, LV.nil, Nat.reduceEqDiff, Nat.reduceAdd, Nat.reduceMul, Nat.reduceSub, Nat.reduceLeDiff, Nat.reduceBEq, Nat.reduceDiv, Nat.reduceMod, Int.reduceToNat, Int.reduceLT, Int.reduceLE, Int.reduceAdd, Int.reduceSub, Int.reduceMul, Int.reduceEq, Int.reduceNeg, reduceCtorEq, resV, resAll, ARes.ev, LV.flat, ite_true, ite_false, exists_eq_left', exists_eq_left, keyOf, implies_true, fillC, capOf]
  refine ev_loop (fun m fr M' => ∃ (i : Nat), i + m = (freeL x y z cs).length ∧ Pre M M' ∧ Live M' (M.length + 1) (.row (triL (freeL x y z cs)) true 3) ∧ Live M' (M.length + 2) (.row [.I x, .I y, .I z, .ref (M.length + 1) 0 (freeL x y z cs).length] true 0) ∧ Live M' u (.row (intL (pRow (vol x y z) (kuhnK x y z cs i).2)) true 1) ∧
    fr 4 = .ptr (M.length + 2) 0 ∧ fr 5 = .I ((kuhnK x y z cs i).1 : Nat) ∧ fr 6 = .ref u 0 (vol x y z) ∧ fr 8 = .I i) (freeL x y z cs).length
    ⟨0, by omega, hpre, b2, b4, bu, f4, f5, f6, rfl⟩ ?_
  clear f1 f4 f5 f6 f7 hpre b1 b2 b4 bu hlt
  rintro m fr M' ⟨i, hi, hpre, b2, b4, bu, f4, f5, f6, f8⟩
  simp (disch := omega) only [f4, f5, f6, f8, b4.cell, ↓SXd, SXu, slBounds, ↓sop, ↓aop, ↓reduceIte, LV.cells, AOp.dst, LV.I, LV.B, LV.U, LV.S, LV.nil, Nat.reduceEqDiff, Nat.reduceAdd, Nat.reduceMul, Nat.reduceSub, Nat.reduceLeDiff, Nat.reduceBEq, Nat.reduceDiv, Nat.reduceMod, Int.reduceToNat, Int.reduceLT, Int.reduceLE, Int.reduceAdd, Int.reduceSub, Int.reduceMul, Int.reduceEq, Int.reduceNeg, reduceCtorEq, resV, resAll, ARes.ev, LV.flat, ite_true, ite_false, exists_eq_left', exists_eq_left, keyOf, implies_true, fillC, capOf]
  refine condC_dec (fun hlt => ?_) (fun hlt => ?_)
  rotate_left
  · have : i = (freeL x y z cs).length := by omega
    subst this
    rw [kuhnK_all] at f5
    simp (disch := omega) only [f4, f5, f6, f8, ↓SXd, SXu, slBounds, ↓sop, ↓aop, ↓reduceIte, LV.cells, AOp.dst, LV.I, LV.B, LV.U, LV.S, LV.nil, Nat.reduceEqDiff, Nat.reduceAdd, Nat.reduceMul, Nat.reduceSub, Nat.reduceLeDiff, Nat.reduceBEq, Nat.reduceDiv, Nat.reduceMod, Int.reduceToNat, Int.reduceLT, Int.reduceLE, Int.reduceAdd, Int.reduceSub, Int.reduceMul, Int.reduceEq, Int.reduceNeg, reduceCtorEq, resV, resAll, ARes.ev, LV.flat, ite_true, ite_false, exists_eq_left', exists_eq_left, keyOf, implies_true, fillC, capOf]
    exact ⟨rfl, hpre⟩
  have hil : i < (freeL x y z cs).length := by omega
  have hgd := b2.tri0 hil
  have hdm := getD_mem' (d := default) hil
  have hks := kuhnK_succ hil
  obtain ⟨hkv, hkb⟩ := kuhnK_val (cs := cs) hS i
  have hul := bu.lt
  have h4l := b4.lt
  generalize (freeL x y z cs).getD i default = d at hgd hdm hks
  have hdi := free_in hS hdm
  simp (disch := omega) only [f4, f5, f6, f8, hgd, b4.cell, b4.cells, Cell.row, ↓SXd, SXu, slBounds, ↓sop, ↓aop, ↓reduceIte, LV.cells, AOp.dst, LV.I, LV.B, LV.U, LV.S, LV.nil, Nat.reduceEqDiff, Nat.reduceAdd, Nat.reduceMul, Nat.reduceSub, Nat.reduceLeDiff, Nat.reduceBEq, Nat.reduceDiv, Nat.reduceMod, Int.reduceToNat, Int.reduceLT, Int.reduceLE, Int.reduceAdd, Int.reduceSub, Int.reduceMul, Int.reduceEq, Int.reduceNeg, reduceCtorEq, resV, resAll, ARes.ev, LV.flat, ite_true, ite_false, exists_eq_left', exists_eq_left, keyOf, implies_true, fillC, capOf]
  refine callK_of (h_l9Even (box4 hS hdi)) ?_
  by_cases he : evB d = true
  rotate_left
  · rw [if_neg he] at hks
    have he' : evB d = false := by simpa using he
    simp (disch := omega) only [f4, f5, f6, f8, he', ↓SXd, SXu, slBounds, ↓sop, ↓aop, ↓reduceIte, LV.cells, AOp.dst, LV.I, LV.B, LV.U, LV.S, LV.nil, Nat.reduceEqDiff, Nat.reduceAdd, Nat.reduceMul, Nat.reduceSub, Nat.reduceLeDiff, Nat.reduceBEq, Nat.reduceDiv, Nat.reduceMod, Int.reduceToNat, Int.reduceLT, Int.reduceLE, Int.reduceAdd, Int.reduceSub, Int.reduceMul, Int.reduceEq, Int.reduceNeg, reduceCtorEq, resV, resAll, ARes.ev, LV.flat, ite_true, ite_false, exists_eq_left', exists_eq_left, keyOf, implies_true, fillC, capOf]
    exact ⟨m - 1, by omega, i + 1, by omega, hpre, b2, b4, by rw [hks]; exact bu, f4, by rw [hks]; exact f5, f6, eqI (natI _)⟩
  rw [if_pos he] at hks
  have hrec := h_l9Match (x := x) (y := y) (z := z) (cs := cs) (tf := M.length + 1) (tp := u) (ts := M'.length) hS (by omega) (by omega) (by omega) (vol x y z + 1) (c := d) (k := ⟨(kuhnK x y z cs i).2, fun _ => false⟩) (M := M' ++ [some (.row (sRow (vol x y z) fun _ => false) true 1)]) hdm he hkv (unS_all _) b2.app bu.app Live.new
  unfold kuhnStep at hks
  generalize joinN (nbN x y z cs) (vol x y z + 1) (ixN y z d) ⟨(kuhnK x y z cs i).2, fun _ => false⟩ = g at hks hrec
  obtain ⟨b, k2⟩ := g
  simp only at hks hrec
  simp (disch := omega) only [f4, f5, f6, f8, he, hgd, b4.cell, b4.cells, Cell.row, made_sRow, ↓SXd, SXu, slBounds, ↓sop, ↓aop, ↓reduceIte, LV.cells, AOp.dst, LV.I, LV.B, LV.U, LV.S, LV.nil, Nat.reduceEqDiff, Nat.reduceAdd, Nat.reduceMul, Nat.reduceSub, Nat.reduceLeDiff, Nat.reduceBEq, Nat.reduceDiv, Nat.reduceMod, Int.reduceToNat, Int.reduceLT, Int.reduceLE, Int.reduceAdd, Int.reduceSub, Int.reduceMul, Int.reduceEq, Int.reduceNeg, reduceCtorEq, resV, resAll, ARes.ev, LV.flat, ite_true, ite_false, exists_eq_left', exists_eq_left, keyOf, implies_true, fillC, capOf]
  refine callR_of hrec ?_
  rintro _ N2 ⟨rfl, hfr2, bp2, bs2⟩
  have hNl := hfr2.1
  simp only [List.length_append, List.length_singleton] at hNl
  have hMl := hpre.1
  have hpre2 : Pre M N2 := ⟨by omega, fun q hq => by rw [hfr2.2 q (by simp; omega) (by simp; omega), List.getElem?_append_left (by omega)]; exact hpre.2 q hq⟩
  have d2 := b2.app.frmL hfr2 (by simp; omega)
  have d4 := b4.app.frmL hfr2 (by simp; omega)
  cases b with
  | true =>
    rw [if_pos rfl] at hks
    simp (disch := omega) only [f4, f5, f6, f8, he, ↓SXd, SXu, slBounds, ↓sop, ↓aop, ↓reduceIte, LV.cells, AOp.dst, LV.I, LV.B, LV.U, LV.S, LV.nil, Nat.reduceEqDiff, Nat.reduceAdd, Nat.reduceMul, Nat.reduceSub, Nat.reduceLeDiff, Nat.reduceBEq, Nat.reduceDiv, Nat.reduceMod, Int.reduceToNat, Int.reduceLT, Int.reduceLE, Int.reduceAdd, Int.reduceSub, Int.reduceMul, Int.reduceEq, Int.reduceNeg, reduceCtorEq, resV, resAll, ARes.ev, LV.flat, ite_true, ite_false, exists_eq_left', exists_eq_left, keyOf, implies_true, fillC, capOf]
    exact ⟨m - 1, by omega, i + 1, by omega, hpre2, d2, d4, by rw [hks]; exact bp2, f4, by rw [hks]; exact eqI (by simp), f6, eqI (natI _)⟩
  | false =>
    rw [if_neg (by simp)] at hks
    simp (disch := omega) only [f4, f5, f6, f8, he, ↓SXd, SXu, slBounds, ↓sop, ↓aop, ↓reduceIte, LV.cells, AOp.dst, LV.I, LV.B, LV.U, LV.S, LV.nil, Nat.reduceEqDiff, Nat.reduceAdd, Nat.reduceMul, Nat.reduceSub, Nat.reduceLeDiff, Nat.reduceBEq, Nat.reduceDiv, Nat.reduceMod, Int.reduceToNat, Int.reduceLT, Int.reduceLE, Int.reduceAdd, Int.reduceSub, Int.reduceMul, Int.reduceEq, Int.reduceNeg, reduceCtorEq, resV, resAll, ARes.ev, LV.flat, ite_true, ite_false, exists_eq_left', exists_eq_left, keyOf, implies_true, fillC, capOf]
    exact ⟨m - 1, by omega, i + 1, by omega, hpre2, d2, d4, by rw [hks]; exact bp2, f4, by rw [hks]; exact f5, f6, eqI (natI _)⟩
end Go.Ab

/- The abstract code of some functions (written by a program of mine from the translation, by way of prepF). -/
namespace Go.Ab.C
open Go.Ab
def spec_l9Dominoes : AFn :=
 ⟨1, 36, [.tmp 2],
 .seq (.ops [(none, .box 1 (.t 0)),
 (none, .mv 2 (.c (.I 0)))])
 (.seq (.seq (.ops [(none, .fieldAddr 7 (.t 1) 3),
 (none, .load1 8 (.t 7)),
 (none, .len 9 (.t 8)),
 (none, .bin 10 .eql (.t 9) (.c (.I 0)))])
 (.cond (.t 10) (.seq (.ops [(none, .mv 2 (.c (.I 1)))])
 (.ret))
 (.skip)))
 (.seq (.ops [(none, .mv 3 (.c (.I 0)))])
 (.seq (.ops [(none, .fieldAddr 11 (.t 1) 3),
 (none, .load1 12 (.t 11)),
 (none, .idxS 13 3 (.t 12) (.c (.I 0))),
 (none, .loadN 14 3 (.t 13)),
 (none, .alloc 4 [(.I 0), (.I 0), (.I 0)]),
 (none, .store 3 (.t 4) (.t 14))])
 (.seq (.ops [(none, .loadN 15 4 (.t 1)),
 (none, .loadN 16 3 (.t 4)),
 (none, .call (some 17) F.spec_l2Near [(.t 15), (.t 16)]),
 (none, .mv 5 (.t 17))])
 (.seq (.seq (.ops [(none, .mv 6 (.c (.I 0)))])
 (.block 0 (.loop (.seq (.seq (.ops [(none, .mv 18 (.t 6)),
 (none, .mv 19 (.t 5)),
 (none, .len 20 (.t 19)),
 (none, .bin 21 .lss (.t 18) (.t 20))])
 (.cond (.t 21) (.skip)
 (.exit 0)))
 (.seq (.block 1 (.draw [⟨(none, .mv 24 (.t 3)), [], []⟩,
 ⟨(none, .loadN 25 4 (.t 1)), [], []⟩,
 ⟨(none, .loadN 26 3 (.t 4)), [], []⟩,
 ⟨(none, .mv 28 (.t 5)), [], []⟩,
 ⟨(none, .mv 29 (.t 6)), [], []⟩,
 ⟨(none, .idxS 30 3 (.t 28) (.t 29)), [], []⟩,
 ⟨(none, .loadN 31 3 (.t 30)), [], []⟩,
 ⟨(none, .call (some 27) F.spec_l2Without [(.t 25), (.t 26)]), [], [0, 3, 4, 5, 6]⟩,
 ⟨(none, .call (some 32) F.spec_l2Without [(.t 27), (.t 31)]), [], [0]⟩,
 ⟨(none, .call (some 33) F.spec_l9Dominoes [(.t 32)]), [], [0]⟩,
 ⟨(none, .bin 34 .add (.t 24) (.t 33)), [], []⟩,
 ⟨(none, .mv 3 (.t 34)), [], []⟩]))
 (.ops [(none, .mv 22 (.t 6)),
 (none, .bin 23 .add (.t 22) (.c (.I 1))),
 (none, .mv 6 (.t 23))]))))))
 (.seq (.ops [(none, .mv 35 (.t 3)),
 (none, .mv 2 (.t 35))])
 (.ret)))))))⟩
def spec_CountDominoes : AFn :=
 ⟨1, 17, [.tmp 2, .tmp 3],
 .seq (.ops [(none, .box 1 (.t 0)),
 (none, .mv 2 (.c (.I 0))),
 (none, .mv 3 (.c (.B false)))])
 (.seq (.seq (.ops [(none, .loadN 4 4 (.t 1)),
 (none, .call (some 5) F.spec_l2Heap [(.t 4)]),
 (none, .un 6 .not (.t 5)),
 (none, .mv 7 (.t 6)),
 (some (7, false), .loadN 8 4 (.t 1)),
 (some (7, false), .call (some 9) F.spec_l9Free [(.t 8)]),
 (some (7, false), .field 10 (.t 9) 3 none),
 (some (7, false), .len 11 (.t 10)),
 (some (7, false), .bin 12 .gtr (.t 11) (.c (.I 18))),
 (none, .pick 13 (.t 7) (.c (.B true)) (.t 12))])
 (.cond (.t 13) (.seq (.ops [(none, .mv 2 (.c (.I 0))),
 (none, .mv 3 (.c (.B false)))])
 (.ret))
 (.skip)))
 (.seq (.ops [(none, .loadN 14 4 (.t 1)),
 (none, .call (some 15) F.spec_l9Free [(.t 14)]),
 (none, .call (some 16) F.spec_l9Dominoes [(.t 15)]),
 (none, .mv 2 (.t 16)),
 (none, .mv 3 (.c (.B true)))])
 (.ret)))⟩
def impl_CountDominoes : AFn :=
 ⟨1, 22, [.tmp 2, .tmp 3],
 .seq (.ops [(none, .box 1 (.t 0)),
 (none, .mv 2 (.c (.I 0))),
 (none, .mv 3 (.c (.B false)))])
 (.seq (.seq (.ops [(none, .loadN 6 4 (.t 1)),
 (none, .call (some 7) F.impl_IsHeap [(.t 6)]),
 (none, .un 8 .not (.t 7)),
 (none, .mv 9 (.t 8)),
 (some (9, false), .loadN 10 4 (.t 1)),
 (some (9, false), .call (some 11) F.impl_Heap_free [(.t 10)]),
 (some (9, false), .call (some 12) F.impl_set_count [(.t 11)]),
 (some (9, false), .bin 13 .gtr (.t 12) (.c (.I 18))),
 (none, .pick 14 (.t 9) (.c (.B true)) (.t 13))])
 (.cond (.t 14) (.seq (.ops [(none, .mv 2 (.c (.I 0))),
 (none, .mv 3 (.c (.B false)))])
 (.ret))
 (.skip)))
 (.seq (.ops [(none, .loadN 15 4 (.t 1)),
 (none, .call (some 16) F.impl_Heap_box [(.t 15)]),
 (none, .alloc 4 [(.I 0), (.I 0), (.I 0)]),
 (none, .store 3 (.t 4) (.t 16))])
 (.seq (.ops [(none, .alloc 5 [(.val .nilFunc)])])
 (.seq (.ops [(none, .mkf 17 F.impl_CountDominoes_1 [(.t 4), (.t 5)]),
 (none, .store 1 (.t 5) (.t 17))])
 (.seq (.draw [⟨(none, .load1 18 (.t 5)), [], []⟩,
 ⟨(none, .loadN 19 4 (.t 1)), [], []⟩,
 ⟨(none, .call (some 20) F.impl_Heap_free [(.t 19)]), [], [0]⟩,
 ⟨(none, .callV (some 21) (.t 18) [(.t 20)]), [], []⟩,
 ⟨(none, .mv 2 (.t 21)), [], []⟩,
 ⟨(none, .mv 3 (.c (.B true))), [], []⟩])
 (.ret))))))⟩
def impl_CountDominoes_1 : AFn :=
 ⟨3, 42, [.tmp 4],
 .seq (.ops [(none, .mv 4 (.c (.I 0)))])
 (.seq (.seq (.ops [(none, .mv 8 (.t 0)),
 (none, .bin 9 .eql (.t 8) (.c (.U 0)))])
 (.cond (.t 9) (.seq (.ops [(none, .mv 4 (.c (.I 1)))])
 (.ret))
 (.skip)))
 (.seq (.ops [(none, .mv 10 (.t 0)),
 (none, .mv 11 (.t 0)),
 (none, .un 12 .neg (.t 11)),
 (none, .bin 13 .and (.t 10) (.t 12)),
 (none, .mv 5 (.t 13)),
 (none, .mv 6 (.c (.I 0)))])
 (.seq (.seq (.draw [⟨(none, .loadN 14 3 (.t 1)), [], []⟩,
 ⟨(none, .loadN 15 3 (.t 1)), [], []⟩,
 ⟨(none, .mv 16 (.t 5)), [], []⟩,
 ⟨(none, .mv 21 (.t 0)), [], []⟩,
 ⟨(none, .call (some 17) F.impl_box_list [(.t 15), (.t 16)]), [], [0, 3]⟩,
 ⟨(none, .idxS 18 3 (.t 17) (.c (.I 0))), [], []⟩,
 ⟨(none, .loadN 19 3 (.t 18)), [], []⟩,
 ⟨(none, .call (some 20) F.impl_box_near [(.t 14), (.t 19)]), [], [3]⟩,
 ⟨(none, .bin 22 .and (.t 20) (.t 21)), [], []⟩,
 ⟨(none, .mv 7 (.t 22)), [], []⟩])
 (.block 0 (.loop (.seq (.seq (.ops [(none, .mv 23 (.t 7)),
 (none, .bin 24 .neq (.t 23) (.c (.U 0)))])
 (.cond (.t 24) (.skip)
 (.exit 0)))
 (.seq (.block 1 (.ops [(none, .mv 29 (.t 6)),
 (none, .load1 30 (.t 2)),
 (none, .mv 31 (.t 0)),
 (none, .mv 32 (.t 5)),
 (none, .bin 33 .andNot (.t 31) (.t 32)),
 (none, .mv 34 (.t 7)),
 (none, .mv 35 (.t 7)),
 (none, .un 36 .neg (.t 35)),
 (none, .bin 37 .and (.t 34) (.t 36)),
 (none, .bin 38 .andNot (.t 33) (.t 37)),
 (none, .callV (some 39) (.t 30) [(.t 38)]),
 (none, .bin 40 .add (.t 29) (.t 39)),
 (none, .mv 6 (.t 40))]))
 (.ops [(none, .mv 25 (.t 7)),
 (none, .mv 26 (.t 7)),
 (none, .bin 27 .sub (.t 26) (.c (.U 1))),
 (none, .bin 28 .and (.t 25) (.t 27)),
 (none, .mv 7 (.t 28))]))))))
 (.seq (.ops [(none, .mv 41 (.t 6)),
 (none, .mv 4 (.t 41))])
 (.ret)))))⟩
end Go.Ab.C

/- That the program has this code. -/
namespace Go.Ab.K
open Go Go.Ab
theorem spec_l9Dominoes : prepF Go.Proofs.Try.prog F.spec_l9Dominoes = some C.spec_l9Dominoes := by kernel_rfl
theorem spec_CountDominoes : prepF Go.Proofs.Try.prog F.spec_CountDominoes = some C.spec_CountDominoes := by kernel_rfl
theorem impl_CountDominoes : prepF Go.Proofs.Try.prog F.impl_CountDominoes = some C.impl_CountDominoes := by kernel_rfl
theorem impl_CountDominoes_1 : prepF Go.Proofs.Try.prog F.impl_CountDominoes_1 = some C.impl_CountDominoes_1 := by kernel_rfl
end Go.Ab.K

/- The abstract code of some functions (written by a program of mine from the translation, by way of prepF). -/
namespace Go.Ab.C
open Go.Ab
end Go.Ab.C

/- That the program has this code. -/
namespace Go.Ab.K
open Go Go.Ab
end Go.Ab.K

/- The abstract code of some functions (written by a program of mine from the translation, by way of prepF). -/
namespace Go.Ab.C
open Go.Ab
end Go.Ab.C

/- That the program has this code. -/
namespace Go.Ab.K
open Go Go.Ab
end Go.Ab.K

/- Contracts: whether a heap has a shadow, the program's side; IsShadowOf, both sides. -/
namespace Go.Ab
open Go
set_option linter.unusedSimpArgs false
set_option linter.unusedVariables false
set_option maxRecDepth 20000

section
variable {x y z : Int} {t o t' o' t2 o2 : Nat} {tp fr sd : List Int} {M : Mem} (h1 : Ints M t o tp) (h2 : Ints M t' o' fr) (h3 : Ints M t2 o2 sd) (l1 : tp.length ≤ 1000000000) (l2 : fr.length ≤ 1000000000) (l3 : sd.length ≤ 1000000000)
include h1 h2 h3 l1 l2 l3
/-- What IsShadowOf returns. -/
noncomputable def isShdOf (x y z : Int) (tp fr sd : List Int) (x' y' z' : Int) (cs : List Cell) : LV := .tup [.B (decide ((ShdOK x y z tp fr sd ∧ HeapOK x' y' z' cs) ∧ (x = x' ∧ y = y' ∧ z = z') ∧ HasShd x y z tp fr sd cs)), .B (decide (ShdOK x y z tp fr sd ∧ HeapOK x' y' z' cs))]
variable {x' y' z' : Int} {q r : Nat} {cs : List Cell} (h : Tri M q r cs) (hn : cs.length ≤ 1000000000)
include h hn
end
end Go.Ab

/- Plain words: the library's count of a 64-bit set is the number of its bits. -/
namespace Go.Ab

def rep : Nat → Nat → Nat
  | 0, _ => 0
  | k + 1, c => c + 256 * rep k c
def ofB : List Nat → Nat
  | [] => 0
  | l :: ls => l + 256 * ofB ls
theorem and_split {a b l c : Nat} (hl : l < 256) (hc : c < 256) : (l + 256 * a) &&& (c + 256 * b) = (l &&& c) + 256 * (a &&& b) := by
  have h1 : ((l + 256 * a) &&& (c + 256 * b)) % 2 ^ 8 = l &&& c := by
    rw [Nat.and_mod_two_pow]
    congr 1 <;> omega
  have h2 : ((l + 256 * a) &&& (c + 256 * b)) / 2 ^ 8 = a &&& b := by
    rw [Nat.and_div_two_pow]
    congr 1 <;> omega
  have := Nat.mod_add_div ((l + 256 * a) &&& (c + 256 * b)) (2 ^ 8)
  rw [h1, h2] at this
  rw [← this]
def a8 (l : Nat) : Nat := (l / 2 &&& 85) + (l &&& 85)
def b8 (l : Nat) : Nat := (l / 4 &&& 51) + (l &&& 51)
def c8 (l : Nat) : Nat := (l / 16 + l) % 16
theorem low_a : ∀ b, b < 2 → ∀ m, m < 128 → (128 * b + m) &&& 85 = m &&& 85 := by decide +kernel
theorem low_b : ∀ b, b < 4 → ∀ m, m < 64 → (64 * b + m) &&& 51 = m &&& 51 := by decide +kernel
theorem all_a : ∀ {ls : List Nat}, (∀ l ∈ ls, l < 256) → (ofB ls / 2 &&& rep ls.length 85) + (ofB ls &&& rep ls.length 85) = ofB (ls.map a8)
  | [], _ => rfl
  | l :: ls, h => by
    have hl := h l (by simp)
    have ih := all_a (ls := ls) fun m hm => h m (by simp [hm])
    simp only [ofB, List.length_cons, rep, List.map_cons]
    rw [and_split hl (by omega), show (l + 256 * ofB ls) / 2 = (128 * (ofB ls % 2) + l / 2) + 256 * (ofB ls / 2) by omega, and_split (by omega) (by omega), low_a _ (by omega) _ (by omega), ← ih]
    unfold a8; omega
theorem all_b : ∀ {ls : List Nat}, (∀ l ∈ ls, l < 256) → (ofB ls / 4 &&& rep ls.length 51) + (ofB ls &&& rep ls.length 51) = ofB (ls.map b8)
  | [], _ => rfl
  | l :: ls, h => by
    have hl := h l (by simp)
    have ih := all_b (ls := ls) fun m hm => h m (by simp [hm])
    simp only [ofB, List.length_cons, rep, List.map_cons]
    rw [and_split hl (by omega), show (l + 256 * ofB ls) / 4 = (64 * (ofB ls % 4) + l / 4) + 256 * (ofB ls / 4) by omega, and_split (by omega) (by omega), low_b _ (by omega) _ (by omega), ← ih]
    unfold b8; omega
theorem and15 (n : Nat) : n &&& 15 = n % 16 := Nat.and_two_pow_sub_one_eq_mod n 4
theorem all_c : ∀ {ls : List Nat}, (∀ l ∈ ls, l < 256 ∧ l % 16 ≤ 4 ∧ l / 16 ≤ 4) → (ofB ls / 16 + ofB ls &&& rep ls.length 15) = ofB (ls.map c8)
  | [], _ => rfl
  | l :: ls, h => by
    have hl := h l (by simp)
    have ih := all_c (ls := ls) fun m hm => h m (by simp [hm])
    have ht : ofB ls % 16 ≤ 4 := by
      cases ls with
      | nil => simp [ofB]
      | cons m ms => have := h m (by simp); simp only [ofB]; omega
    simp only [ofB, List.length_cons, rep, List.map_cons]
    rw [show (l + 256 * ofB ls) / 16 + (l + 256 * ofB ls) = (16 * (ofB ls % 16) + l / 16 + l) + 256 * (ofB ls / 16 + ofB ls) by omega, and_split (by omega) (by omega), ih, and15]
    unfold c8; omega
def pc8 (l : Nat) : Nat := (List.range 8).countP fun j => l.testBit j
theorem byte_ok : ∀ l, l < 256 → a8 l < 256 ∧ b8 (a8 l) < 256 ∧ b8 (a8 l) % 16 ≤ 4 ∧ b8 (a8 l) / 16 ≤ 4 ∧ c8 (b8 (a8 l)) = pc8 l ∧ pc8 l ≤ 8 := by decide +kernel

theorem m85 : (6148914691236517205#64).toNat = rep 8 85 := by decide +kernel
theorem m51 : (3689348814741910323#64).toNat = rep 8 51 := by decide +kernel
theorem m15 : (1085102592571150095#64).toNat = rep 8 15 := by decide +kernel
theorem ofB_lt : ∀ {ls : List Nat}, (∀ l ∈ ls, l < 256) → ofB ls < 256 ^ ls.length
  | [], _ => by simp [ofB]
  | l :: ls, h => by
    have h1 := h l (by simp)
    have ih := ofB_lt (ls := ls) fun m hm => h m (by simp [hm])
    simp only [ofB, List.length_cons, Nat.pow_succ]; omega
theorem ofB_le {k : Nat} : ∀ {ls : List Nat}, (∀ l ∈ ls, l ≤ k) → 255 * ofB ls + k ≤ k * 256 ^ ls.length
  | [], _ => by simp [ofB]
  | l :: ls, h => by
    have h1 := h l (by simp)
    have ih := ofB_le (ls := ls) fun m hm => h m (by simp [hm])
    rw [List.length_cons, Nat.pow_succ, ← Nat.mul_assoc]
    simp only [ofB]; omega
theorem p256 : (256 : Nat) ^ 8 = 18446744073709551616 := by decide +kernel
theorem ofB_lt8 {ls : List Nat} (hl : ls.length = 8) (h : ∀ l ∈ ls, l < 256) : ofB ls < 18446744073709551616 := by
  have := ofB_lt h
  rw [hl, p256] at this; exact this
theorem ofB_le8 {ls : List Nat} (hl : ls.length = 8) (h : ∀ l ∈ ls, l ≤ 68) : ofB ls < 9223372036854775808 := by
  have := ofB_le h
  rw [hl, p256] at this; omega
theorem ofB8_lt {a b c d e f g h : Nat} (h0 : a < 256) (h1 : b < 256) (h2 : c < 256) (h3 : d < 256) (h4 : e < 256) (h5 : f < 256) (h6 : g < 256) (h7 : h < 256) : ofB [a, b, c, d, e, f, g, h] < 18446744073709551616 :=
  ofB_lt8 rfl (by simp [h0, h1, h2, h3, h4, h5, h6, h7])
theorem ofB8_68 {a b c d e f g h : Nat} (h0 : a ≤ 68) (h1 : b ≤ 68) (h2 : c ≤ 68) (h3 : d ≤ 68) (h4 : e ≤ 68) (h5 : f ≤ 68) (h6 : g ≤ 68) (h7 : h ≤ 68) : ofB [a, b, c, d, e, f, g, h] < 9223372036854775808 :=
  ofB_le8 rfl (by simp [h0, h1, h2, h3, h4, h5, h6, h7])
theorem ofB_div {a : Nat} {ls : List Nat} (h : a < 256) : ofB (a :: ls) / 256 = ofB ls := by simp only [ofB]; omega
theorem p64 : (2 : Nat) ^ 64 = 18446744073709551616 := by decide +kernel
theorem swar1_b {ls : List Nat} (hl : ls.length = 8) (hb : ∀ l ∈ ls, l < 256) (hlt : ofB (ls.map a8) < 18446744073709551616) {x : BitVec 64} (hx : x.toNat = ofB ls) : (swar1 x).toNat = ofB (ls.map a8) := by
  have := all_a hb
  rw [hl] at this
  unfold swar1
  rw [BitVec.toNat_add, BitVec.toNat_and, BitVec.toNat_and, BitVec.toNat_ushiftRight, hx, Nat.shiftRight_eq_div_pow, m85, Nat.pow_one, this, p64, Nat.mod_eq_of_lt hlt]
theorem swar2_b {ls : List Nat} (hl : ls.length = 8) (hb : ∀ l ∈ ls, l < 256) (hlt : ofB (ls.map b8) < 18446744073709551616) {x : BitVec 64} (hx : x.toNat = ofB ls) : (swar2 x).toNat = ofB (ls.map b8) := by
  have := all_b hb
  rw [hl] at this
  unfold swar2
  rw [BitVec.toNat_add, BitVec.toNat_and, BitVec.toNat_and, BitVec.toNat_ushiftRight, hx, Nat.shiftRight_eq_div_pow, m51, show (2 : Nat) ^ 2 = 4 from rfl, this, p64, Nat.mod_eq_of_lt hlt]
theorem swar3_b {ls : List Nat} (hl : ls.length = 8) (hb : ∀ l ∈ ls, l < 256 ∧ l % 16 ≤ 4 ∧ l / 16 ≤ 4) (hlt : ofB ls < 9223372036854775808) {x : BitVec 64} (hx : x.toNat = ofB ls) : (swar3 x).toNat = ofB (ls.map c8) := by
  have := all_c hb
  rw [hl] at this
  unfold swar3
  rw [BitVec.toNat_and, BitVec.toNat_add, BitVec.toNat_ushiftRight, hx, Nat.shiftRight_eq_div_pow, m15, show (2 : Nat) ^ 4 = 16 from rfl, p64, Nat.mod_eq_of_lt (by omega), this]
theorem swar_tail {a b c d e f g h : Nat} (h0 : a ≤ 8) (h1 : b ≤ 8) (h2 : c ≤ 8) (h3 : d ≤ 8) (h4 : e ≤ 8) (h5 : f ≤ 8) (h6 : g ≤ 8) (h7 : h ≤ 8) {y : BitVec 64} (hy : y.toNat = ofB [a, b, c, d, e, f, g, h]) :
    (swar6 (swar5 (swar4 y)) &&& 127#64).toNat = a + b + c + d + e + f + g + h := by
  have e4 : (swar4 y).toNat = ofB [a + b, b + c, c + d, d + e, e + f, f + g, g + h, h] := by
    have hs : ofB [a, b, c, d, e, f, g, h] + ofB [b, c, d, e, f, g, h] = ofB [a + b, b + c, c + d, d + e, e + f, f + g, g + h, h] := by simp only [ofB]; omega
    have hlt := ofB8_lt (a := a + b) (b := b + c) (c := c + d) (d := d + e) (e := e + f) (f := f + g) (g := g + h) (h := h) (by omega) (by omega) (by omega) (by omega) (by omega) (by omega) (by omega) (by omega)
    unfold swar4
    rw [BitVec.toNat_add, BitVec.toNat_ushiftRight, Nat.shiftRight_eq_div_pow, hy, show (2 : Nat) ^ 8 = 256 from rfl, ofB_div (by omega), hs, p64, Nat.mod_eq_of_lt hlt]
  have e5 : (swar5 (swar4 y)).toNat = ofB [a + b + (c + d), b + c + (d + e), c + d + (e + f), d + e + (f + g), e + f + (g + h), f + g + h, g + h, h] := by
    have hs : ofB [a + b, b + c, c + d, d + e, e + f, f + g, g + h, h] + ofB [c + d, d + e, e + f, f + g, g + h, h] = ofB [a + b + (c + d), b + c + (d + e), c + d + (e + f), d + e + (f + g), e + f + (g + h), f + g + h, g + h, h] := by simp only [ofB]; omega
    have hlt := ofB8_lt (a := a + b + (c + d)) (b := b + c + (d + e)) (c := c + d + (e + f)) (d := d + e + (f + g)) (e := e + f + (g + h)) (f := f + g + h) (g := g + h) (h := h) (by omega) (by omega) (by omega) (by omega) (by omega) (by omega) (by omega) (by omega)
    unfold swar5
    rw [BitVec.toNat_add, BitVec.toNat_ushiftRight, Nat.shiftRight_eq_div_pow, e4, show (2 : Nat) ^ 16 = 256 * 256 from rfl, ← Nat.div_div_eq_div_mul, ofB_div (by omega), ofB_div (by omega), hs, p64, Nat.mod_eq_of_lt hlt]
  have e6 : (swar6 (swar5 (swar4 y))).toNat % 256 = a + b + c + d + e + f + g + h := by
    unfold swar6
    rw [BitVec.toNat_add, BitVec.toNat_ushiftRight, Nat.shiftRight_eq_div_pow, e5, show (2 : Nat) ^ 32 = 256 * 256 * 256 * 256 from rfl, ← Nat.div_div_eq_div_mul, ← Nat.div_div_eq_div_mul, ← Nat.div_div_eq_div_mul, ofB_div (by omega), ofB_div (by omega), ofB_div (by omega), ofB_div (by omega), p64]
    simp only [ofB]; omega
  rw [BitVec.toNat_and, show (127#64).toNat = 2 ^ 7 - 1 from rfl, Nat.and_two_pow_sub_one_eq_mod]
  omega
set_option maxHeartbeats 2000000 in
theorem swar_bytes {l0 l1 l2 l3 l4 l5 l6 l7 : Nat} (h0 : l0 < 256) (h1 : l1 < 256) (h2 : l2 < 256) (h3 : l3 < 256) (h4 : l4 < 256) (h5 : l5 < 256) (h6 : l6 < 256) (h7 : l7 < 256) {x : BitVec 64} (hx : x.toNat = ofB [l0, l1, l2, l3, l4, l5, l6, l7]) :
    (swar x).toNat = pc8 l0 + pc8 l1 + pc8 l2 + pc8 l3 + pc8 l4 + pc8 l5 + pc8 l6 + pc8 l7 := by
  obtain ⟨f0, g0, q0, r0, e30, u0⟩ := byte_ok l0 h0
  obtain ⟨f1, g1, q1, r1, e31, u1⟩ := byte_ok l1 h1
  obtain ⟨f2, g2, q2, r2, e32, u2⟩ := byte_ok l2 h2
  obtain ⟨f3, g3, q3, r3, e33, u3⟩ := byte_ok l3 h3
  obtain ⟨f4, g4, q4, r4, e34, u4⟩ := byte_ok l4 h4
  obtain ⟨f5, g5, q5, r5, e35, u5⟩ := byte_ok l5 h5
  obtain ⟨f6, g6, q6, r6, e36, u6⟩ := byte_ok l6 h6
  obtain ⟨f7, g7, q7, r7, e37, u7⟩ := byte_ok l7 h7
  have e1 := swar1_b (ls := [l0, l1, l2, l3, l4, l5, l6, l7]) rfl (by simp [h0, h1, h2, h3, h4, h5, h6, h7]) (ofB8_lt f0 f1 f2 f3 f4 f5 f6 f7) hx
  simp only [List.map_cons, List.map_nil] at e1
  have e2 := swar2_b (ls := [a8 l0, a8 l1, a8 l2, a8 l3, a8 l4, a8 l5, a8 l6, a8 l7]) rfl (by simp [f0, f1, f2, f3, f4, f5, f6, f7]) (ofB8_lt g0 g1 g2 g3 g4 g5 g6 g7) e1
  simp only [List.map_cons, List.map_nil] at e2
  have e3 := swar3_b (ls := [b8 (a8 l0), b8 (a8 l1), b8 (a8 l2), b8 (a8 l3), b8 (a8 l4), b8 (a8 l5), b8 (a8 l6), b8 (a8 l7)]) rfl (by simp [g0, g1, g2, g3, g4, g5, g6, g7, q0, q1, q2, q3, q4, q5, q6, q7, r0, r1, r2, r3, r4, r5, r6, r7]) (ofB8_68 (by omega) (by omega) (by omega) (by omega) (by omega) (by omega) (by omega) (by omega)) e2
  simp only [List.map_cons, List.map_nil, e30, e31, e32, e33, e34, e35, e36, e37] at e3
  exact swar_tail u0 u1 u2 u3 u4 u5 u6 u7 e3
theorem byte_bit (x : BitVec 64) (k j : Nat) (hj : j < 8) : (x.toNat / 256 ^ k % 256).testBit j = x.getLsbD (8 * k + j) := by
  rw [show (256 : Nat) = 2 ^ 8 from rfl, Nat.testBit_mod_two_pow, decide_eq_true hj, Bool.true_and, ← Nat.pow_mul, Nat.testBit_div_two_pow, Nat.add_comm]
  rfl
theorem pc8_byte (x : BitVec 64) (k : Nat) : pc8 (x.toNat / 256 ^ k % 256) = (List.range 8).countP fun j => x.getLsbD (8 * k + j) := by
  unfold pc8
  apply List.countP_congr
  intro j hj
  rw [byte_bit x k j (List.mem_range.1 hj)]
theorem range64 : List.range 64 = (List.range 8).flatMap fun k => (List.range 8).map fun j => 8 * k + j := by decide +kernel
/-- The library's count is the number of bits. -/
theorem swar_eq (x : BitVec 64) : (swar x).toNat = (List.range 64).countP x.getLsbD := by
  have hx := x.isLt
  have hb : ∀ n, n % 256 < 256 := fun n => Nat.mod_lt _ (by omega)
  rw [swar_bytes (x := x) (l0 := x.toNat / 256 ^ 0 % 256) (l1 := x.toNat / 256 ^ 1 % 256) (l2 := x.toNat / 256 ^ 2 % 256) (l3 := x.toNat / 256 ^ 3 % 256) (l4 := x.toNat / 256 ^ 4 % 256) (l5 := x.toNat / 256 ^ 5 % 256) (l6 := x.toNat / 256 ^ 6 % 256) (l7 := x.toNat / 256 ^ 7 % 256)
    (hb _) (hb _) (hb _) (hb _) (hb _) (hb _) (hb _) (hb _) (by simp only [ofB, Nat.reducePow]; omega)]
  simp only [pc8_byte]
  rw [range64, List.countP_flatMap]
  simp only [show List.range 8 = [0, 1, 2, 3, 4, 5, 6, 7] from rfl, List.map_cons, List.map_nil, List.sum_cons, List.sum_nil, Function.comp, Nat.add_zero, Nat.add_assoc]
  rfl
theorem swar_bs {x y z : Int} (hS : Sides x y z) (p : Cell → Bool) : (swar (bs x y z p)).toNat = (pick x y z p).length := by
  have hv := vol_cast hS
  rw [swar_eq, show List.range 64 = List.range (vol x y z) ++ (List.range (64 - vol x y z)).map (vol x y z + ·) by rw [← List.range_add]; congr 1; omega, List.countP_append]
  have h1 : (List.range (vol x y z)).countP (bs x y z p).getLsbD = (pick x y z p).length := by
    unfold pick cellsOf
    rw [← List.countP_eq_length_filter, List.countP_map]
    apply List.countP_congr
    intro i hi
    rw [bs_bit hS, decide_eq_true (List.mem_range.1 hi), Bool.true_and]; rfl
  have h2 : ((List.range (64 - vol x y z)).map (vol x y z + ·)).countP (bs x y z p).getLsbD = 0 := by
    rw [List.countP_eq_zero]
    intro i hi
    obtain ⟨j, _, rfl⟩ := List.mem_map.1 hi
    rw [bs_bit hS, decide_eq_false (by omega)]; simp
  rw [h1, h2, Nat.add_zero]
end Go.Ab

/- Contracts: lines that need a cube, and cells that must be, the program's side. -/
namespace Go.Ab
open Go
set_option linter.unusedSimpArgs false
set_option linter.unusedVariables false
set_option maxRecDepth 20000

theorem g_countB {x y z : Int} (hS : Sides x y z) {p : Cell → Bool} {M : Mem} : CallsTo PG F.impl_set_count [.W (bs x y z p)] M (.I (((pick x y z p).length : Nat) : Int)) M := by
  have := g_count (s := bs x y z p) (M := M)
  rwa [swar_bs hS] at this
section
variable {x y z : Int} {t o t' o' t2 o2 : Nat} {tp fr sd : List Int} {M : Mem} (h1 : Ints M t o tp) (h2 : Ints M t' o' fr) (h3 : Ints M t2 o2 sd) (hok : ShdOK x y z tp fr sd)
include h1 h2 h3 hok
end
end Go.Ab
