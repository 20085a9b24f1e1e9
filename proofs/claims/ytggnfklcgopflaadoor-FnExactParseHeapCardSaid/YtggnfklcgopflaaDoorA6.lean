/- Parts of the proof of FnExactParseHeapCardSaid: Ph Pk Pl C_Hg K_Hg C_Ha K_Ha C_Uf K_Uf C_Ue K_Ue C_Uc K_Uc C_Ub K_Ub C_Ua K_Ua Ua C_Eb K_Eb Eb Ub C_Nb K_Nb Nb Uc Ud Ue C_Od K_Od C_Ob K_Ob Ob Nd Oc Od Uf C_Vb K_Vb Vb Ha Hg Pm Pn C_Po K_Po. -/
import Derived.Test.YtggnfklcgopflaaDoorA5
import Derived.Test.YtggnfklcgopflaaDoorA4
import Derived.Lib.Strings
import Derived.Test.YtggnfklcgopflaaDoorA3
import Derived.Test.YtggnfklcgopflaaDoorProg
import Derived.KernelRfl
set_option linter.all false
namespace Go.Ab
open Go
set_option maxRecDepth 20000

def dgS (n : Nat) : ByteArray := ByteArray.mk #[UInt8.ofNat (48 + n)]
theorem dgS_size (n : Nat) : (dgS n).size = 1 := rfl
theorem bvs_add {a b : ByteArray} : binV .add (.val (.string a)) (.val (.string b)) = some (.val (.string (a ++ b)), ((a.size + b.size : Nat) : Int) ≤ 9223372036854775807) := rfl
theorem bvs_neq {a b : ByteArray} : binV .neq (.val (.string a)) (.val (.string b)) = some (.val (.bool (!(a.toList == b.toList))), True) := rfl
theorem dig10 {n : Nat} (h : n < 10) : (ByteArray.mk #[48, 49, 50, 51, 52, 53, 54, 55, 56, 57]).extract n (n + 1) = dgS n := by
  rcases (show n = 0 ∨ n = 1 ∨ n = 2 ∨ n = 3 ∨ n = 4 ∨ n = 5 ∨ n = 6 ∨ n = 7 ∨ n = 8 ∨ n = 9 by omega) with rfl | rfl | rfl | rfl | rfl | rfl | rfl | rfl | rfl | rfl <;> rfl
theorem dig36 {n : Nat} (h : n < 10) : (ByteArray.mk #[48, 49, 50, 51, 52, 53, 54, 55, 56, 57, 97, 98, 99, 100, 101, 102, 103, 104, 105, 106, 107, 108, 109, 110, 111, 112, 113, 114, 115, 116, 117, 118, 119, 120, 121, 122]).extract n (n + 1) = dgS n := by
  rcases (show n = 0 ∨ n = 1 ∨ n = 2 ∨ n = 3 ∨ n = 4 ∨ n = 5 ∨ n = 6 ∨ n = 7 ∨ n = 8 ∨ n = 9 by omega) with rfl | rfl | rfl | rfl | rfl | rfl | rfl | rfl | rfl | rfl <;> rfl
theorem sz10 : (ByteArray.mk #[48, 49, 50, 51, 52, 53, 54, 55, 56, 57]).size = 10 := rfl
theorem sz36 : (ByteArray.mk #[48, 49, 50, 51, 52, 53, 54, 55, 56, 57, 97, 98, 99, 100, 101, 102, 103, 104, 105, 106, 107, 108, 109, 110, 111, 112, 113, 114, 115, 116, 117, 118, 119, 120, 121, 122]).size = 36 := rfl
theorem szX : (ByteArray.mk #[120]).size = 1 := rfl
theorem szB : (ByteArray.mk #[32]).size = 1 := rfl
theorem h_l1Num {n : Int} {M : Mem} (h : 0 ≤ n ∧ n < 10) : CallsTo PG F.spec_l1Num [.I n] M (.S (dgS n.toNat)) M := by
  obtain ⟨k, rfl⟩ : ∃ k : Nat, n = k := ⟨n.toNat, by omega⟩
  have hk : k < 10 := by omega
  have e : ((k : Int) + 1).toNat = k + 1 := by omega
  refine calls_run K.spec_l1Num rfl ?_
  simp (disch := omega) only [C.spec_l1Num, sz10, e, dig10, ↓SXd, SXu, slBounds, ↓sop, ↓aop, ↓reduceIte, LV.cells, AOp.dst, LV.I, LV.B, LV.U, LV.S, LV.nil, Nat.reduceEqDiff, Nat.reduceAdd, Nat.reduceMul, Nat.reduceSub, Nat.reduceLeDiff, Nat.reduceBEq, Nat.reduceDiv, Nat.reduceMod, Int.reduceToNat, Int.reduceLT, Int.reduceLE, Int.reduceAdd, Int.reduceSub, Int.reduceMul, Int.reduceEq, Int.reduceNeg, reduceCtorEq, resV, resAll, ARes.ev, LV.flat, ite_true, ite_false, exists_eq_left', exists_eq_left, keyOf, implies_true, fillC, capOf]
  exact cmp_drop0 rfl
theorem g_Itoa {n : Int} {M : Mem} (h : 0 ≤ n ∧ n < 10) : CallsTo PG F.strconv_Itoa [.I n] M (.S (dgS n.toNat)) M := by
  obtain ⟨k, rfl⟩ : ∃ k : Nat, n = k := ⟨n.toNat, by omega⟩
  have hk : k < 10 := by omega
  have e : ((k : Int) + 1).toNat = k + 1 := by omega
  have h1 : CallsTo PG F.internal_strconv_small [.I (k : Nat)] M (.S (dgS k)) M := by
    refine calls_run K.internal_strconv_small rfl ?_
    simp (disch := omega) only [C.internal_strconv_small, sz36, e, dig36, ↓SXd, SXu, slBounds, ↓sop, ↓aop, ↓reduceIte, LV.cells, AOp.dst, LV.I, LV.B, LV.U, LV.S, LV.nil, Nat.reduceEqDiff, Nat.reduceAdd, Nat.reduceMul, Nat.reduceSub, Nat.reduceLeDiff, Nat.reduceBEq, Nat.reduceDiv, Nat.reduceMod, Int.reduceToNat, Int.reduceLT, Int.reduceLE, Int.reduceAdd, Int.reduceSub, Int.reduceMul, Int.reduceEq, Int.reduceNeg, reduceCtorEq, resV, resAll, ARes.ev, LV.flat, ite_true, ite_false, exists_eq_left', exists_eq_left, keyOf, implies_true, fillC, capOf]
    exact cmp_drop0 rfl
  have h2 : CallsTo PG F.internal_strconv_FormatInt [.I (k : Nat), .I 10] M (.S (dgS k)) M := by
    refine calls_run K.internal_strconv_FormatInt rfl ?_
    simp (disch := omega) only [C.internal_strconv_FormatInt, ↓SXd, SXu, slBounds, ↓sop, ↓aop, ↓reduceIte, LV.cells, AOp.dst, LV.I, LV.B, LV.U, LV.S, LV.nil, Nat.reduceEqDiff, Nat.reduceAdd, Nat.reduceMul, Nat.reduceSub, Nat.reduceLeDiff, Nat.reduceBEq, Nat.reduceDiv, Nat.reduceMod, Int.reduceToNat, Int.reduceLT, Int.reduceLE, Int.reduceAdd, Int.reduceSub, Int.reduceMul, Int.reduceEq, Int.reduceNeg, reduceCtorEq, resV, resAll, ARes.ev, LV.flat, ite_true, ite_false, exists_eq_left', exists_eq_left, keyOf, implies_true, fillC, capOf]
    refine callK_of h1 ?_
    simp (disch := omega) only [↓SXd, SXu, slBounds, ↓sop, ↓aop, ↓reduceIte, LV.cells, AOp.dst, LV.I, LV.B, LV.U, LV.S, LV.nil, Nat.reduceEqDiff, Nat.reduceAdd, Nat.reduceMul, Nat.reduceSub, Nat.reduceLeDiff, Nat.reduceBEq, Nat.reduceDiv, Nat.reduceMod, Int.reduceToNat, Int.reduceLT, Int.reduceLE, Int.reduceAdd, Int.reduceSub, Int.reduceMul, Int.reduceEq, Int.reduceNeg, reduceCtorEq, resV, resAll, ARes.ev, LV.flat, ite_true, ite_false, exists_eq_left', exists_eq_left, keyOf, implies_true, fillC, capOf]
    exact cmp_drop0 rfl
  have h3 : CallsTo PG F.internal_strconv_Itoa [.I (k : Nat)] M (.S (dgS k)) M := by
    refine calls_run K.internal_strconv_Itoa rfl ?_
    simp (disch := omega) only [C.internal_strconv_Itoa, ↓SXd, SXu, slBounds, ↓sop, ↓aop, ↓reduceIte, LV.cells, AOp.dst, LV.I, LV.B, LV.U, LV.S, LV.nil, Nat.reduceEqDiff, Nat.reduceAdd, Nat.reduceMul, Nat.reduceSub, Nat.reduceLeDiff, Nat.reduceBEq, Nat.reduceDiv, Nat.reduceMod, Int.reduceToNat, Int.reduceLT, Int.reduceLE, Int.reduceAdd, Int.reduceSub, Int.reduceMul, Int.reduceEq, Int.reduceNeg, reduceCtorEq, resV, resAll, ARes.ev, LV.flat, ite_true, ite_false, exists_eq_left', exists_eq_left, keyOf, implies_true, fillC, capOf]
    refine callK_of h2 ?_
    simp (disch := omega) only [↓SXd, SXu, slBounds, ↓sop, ↓aop, ↓reduceIte, LV.cells, AOp.dst, LV.I, LV.B, LV.U, LV.S, LV.nil, Nat.reduceEqDiff, Nat.reduceAdd, Nat.reduceMul, Nat.reduceSub, Nat.reduceLeDiff, Nat.reduceBEq, Nat.reduceDiv, Nat.reduceMod, Int.reduceToNat, Int.reduceLT, Int.reduceLE, Int.reduceAdd, Int.reduceSub, Int.reduceMul, Int.reduceEq, Int.reduceNeg, reduceCtorEq, resV, resAll, ARes.ev, LV.flat, ite_true, ite_false, exists_eq_left', exists_eq_left, keyOf, implies_true, fillC, capOf]
    exact cmp_drop0 rfl
  refine calls_run K.strconv_Itoa rfl ?_
  simp (disch := omega) only [C.strconv_Itoa, ↓SXd, SXu, slBounds, ↓sop, ↓aop, ↓reduceIte, LV.cells, AOp.dst, LV.I, LV.B, LV.U, LV.S, LV.nil, Nat.reduceEqDiff, Nat.reduceAdd, Nat.reduceMul, Nat.reduceSub, Nat.reduceLeDiff, Nat.reduceBEq, Nat.reduceDiv, Nat.reduceMod, Int.reduceToNat, Int.reduceLT, Int.reduceLE, Int.reduceAdd, Int.reduceSub, Int.reduceMul, Int.reduceEq, Int.reduceNeg, reduceCtorEq, resV, resAll, ARes.ev, LV.flat, ite_true, ite_false, exists_eq_left', exists_eq_left, keyOf, implies_true, fillC, capOf]
  refine callK_of h3 ?_
  simp (disch := omega) only [↓SXd, SXu, slBounds, ↓sop, ↓aop, ↓reduceIte, LV.cells, AOp.dst, LV.I, LV.B, LV.U, LV.S, LV.nil, Nat.reduceEqDiff, Nat.reduceAdd, Nat.reduceMul, Nat.reduceSub, Nat.reduceLeDiff, Nat.reduceBEq, Nat.reduceDiv, Nat.reduceMod, Int.reduceToNat, Int.reduceLT, Int.reduceLE, Int.reduceAdd, Int.reduceSub, Int.reduceMul, Int.reduceEq, Int.reduceNeg, reduceCtorEq, resV, resAll, ARes.ev, LV.flat, ite_true, ite_false, exists_eq_left', exists_eq_left, keyOf, implies_true, fillC, capOf]
  exact cmp_drop0 rfl
def txB (x y z : Int) : ByteArray := (((dgS x.toNat ++ ByteArray.mk #[120]) ++ dgS y.toNat) ++ ByteArray.mk #[120]) ++ dgS z.toNat
def txC (s : ByteArray) (c : Cell) : ByteArray := (((s ++ ByteArray.mk #[32]) ++ dgS c.a.toNat) ++ dgS c.b.toNat) ++ dgS c.c.toNat
def txH (x y z : Int) (cs : List Cell) : ByteArray := cs.foldl txC (txB x y z)
theorem txC_size {s : ByteArray} {c : Cell} : (txC s c).size = s.size + 4 := by
  unfold txC
  simp only [ByteArray.size_append, dgS_size, szB]
theorem txF_size : ∀ {cs : List Cell} {s : ByteArray}, (cs.foldl txC s).size = s.size + 4 * cs.length
  | [], s => by simp
  | c :: cs, s => by rw [List.foldl_cons, txF_size, txC_size, List.length_cons]; omega
theorem txH_size {x y z : Int} {cs : List Cell} : (txH x y z cs).size = 5 + 4 * cs.length := by
  unfold txH txB
  rw [txF_size]
  simp only [ByteArray.size_append, dgS_size, szX]
theorem txH_succ {x y z : Int} {cs : List Cell} {i : Nat} (h : i < cs.length) : txH x y z (cs.take (i + 1)) = txC (txH x y z (cs.take i)) (cs.getD i default) := by
  unfold txH
  have e : cs.getD i default = cs[i] := by simp [h]
  rw [List.take_succ, List.getElem?_eq_getElem h, Option.toList_some, List.foldl_append, e]; rfl
section
variable {x y z : Int} {t o : Nat} {cs : List Cell} {M : Mem} (h : Tri M t o cs) (hH : HeapOK x y z cs)
include h hH
theorem h_l2Text : CallsTo PG F.spec_l2Text [.agg [.I x, .I y, .I z, .ref t o cs.length]] M (.S (txH x y z cs)) M := by
  have hlen := hH.len
  obtain ⟨⟨_, _⟩, ⟨_, _⟩, ⟨_, _⟩⟩ := id hH.1
  refine calls_run K.spec_l2Text rfl ?_
  simp (disch := omega) only [C.spec_l2Text, ↓SXd, SXu, slBounds, ↓sop, ↓aop, ↓reduceIte, LV.cells, AOp.dst, LV.I, LV.B, LV.U, LV.S, LV.nil, Nat.reduceEqDiff, Nat.reduceAdd, Nat.reduceMul, Nat.reduceSub, Nat.reduceLeDiff, Nat.reduceBEq, Nat.reduceDiv, Nat.reduceMod, Int.reduceToNat, Int.reduceLT, Int.reduceLE, Int.reduceAdd, Int.reduceSub, Int.reduceMul, Int.reduceEq, Int.reduceNeg, reduceCtorEq, resV, resAll, ARes.ev, LV.flat, ite_true, ite_false, exists_eq_left', exists_eq_left, keyOf, implies_true, fillC, capOf]
  refine callK_of (h_l1Num (by omega)) ?_
  simp (disch := omega) only [bvs_add, ByteArray.size_append, dgS_size, szX, szB, ↓SXd, SXu, slBounds, ↓sop, ↓aop, ↓reduceIte, LV.cells, AOp.dst, LV.I, LV.B, LV.U, LV.S, LV.nil, Nat.reduceEqDiff, Nat.reduceAdd, Nat.reduceMul, Nat.reduceSub, Nat.reduceLeDiff, Nat.reduceBEq, Nat.reduceDiv, Nat.reduceMod, Int.reduceToNat, Int.reduceLT, Int.reduceLE, Int.reduceAdd, Int.reduceSub, Int.reduceMul, Int.reduceEq, Int.reduceNeg, reduceCtorEq, resV, resAll, ARes.ev, LV.flat, ite_true, ite_false, exists_eq_left', exists_eq_left, keyOf, implies_true, fillC, capOf]
  refine callK_of (h_l1Num (by omega)) ?_
  simp (disch := omega) only [bvs_add, ByteArray.size_append, dgS_size, szX, szB, ↓SXd, SXu, slBounds, ↓sop, ↓aop, ↓reduceIte, LV.cells, AOp.dst, LV.I, LV.B, LV.U, LV.S, LV.nil, Nat.reduceEqDiff, Nat.reduceAdd, Nat.reduceMul, Nat.reduceSub, Nat.reduceLeDiff, Nat.reduceBEq, Nat.reduceDiv, Nat.reduceMod, Int.reduceToNat, Int.reduceLT, Int.reduceLE, Int.reduceAdd, Int.reduceSub, Int.reduceMul, Int.reduceEq, Int.reduceNeg, reduceCtorEq, resV, resAll, ARes.ev, LV.flat, ite_true, ite_false, exists_eq_left', exists_eq_left, keyOf, implies_true, fillC, capOf]
  refine callK_of (h_l1Num (by omega)) ?_
  simp (disch := omega) only [bvs_add, ByteArray.size_append, dgS_size, szX, szB, ↓SXd, SXu, slBounds, ↓sop, ↓aop, ↓reduceIte, LV.cells, AOp.dst, LV.I, LV.B, LV.U, LV.S, LV.nil, Nat.reduceEqDiff, Nat.reduceAdd, Nat.reduceMul, Nat.reduceSub, Nat.reduceLeDiff, Nat.reduceBEq, Nat.reduceDiv, Nat.reduceMod, Int.reduceToNat, Int.reduceLT, Int.reduceLE, Int.reduceAdd, Int.reduceSub, Int.reduceMul, Int.reduceEq, Int.reduceNeg, reduceCtorEq, resV, resAll, ARes.ev, LV.flat, ite_true, ite_false, exists_eq_left', exists_eq_left, keyOf, implies_true, fillC, capOf]
  refine ev_loop (fun m fr M' => ∃ i : Nat, i + m = cs.length ∧ Pre M M' ∧ Live M' M.length (.row [.I x, .I y, .I z, .ref t o cs.length] true 0) ∧ fr 1 = .ptr M.length 0 ∧ fr 3 = .S (txH x y z (cs.take i)) ∧ fr 4 = .I i) cs.length
    ⟨0, by omega, Pre.app _ _, Live.new, rfl, rfl, rfl⟩ ?_
  rintro m fr M' ⟨i, hi, hpre, b1, f1, f3, f4⟩
  simp (disch := omega) only [f1, f3, f4, b1.cell, ↓SXd, SXu, slBounds, ↓sop, ↓aop, ↓reduceIte, LV.cells, AOp.dst, LV.I, LV.B, LV.U, LV.S, LV.nil, Nat.reduceEqDiff, Nat.reduceAdd, Nat.reduceMul, Nat.reduceSub, Nat.reduceLeDiff, Nat.reduceBEq, Nat.reduceDiv, Nat.reduceMod, Int.reduceToNat, Int.reduceLT, Int.reduceLE, Int.reduceAdd, Int.reduceSub, Int.reduceMul, Int.reduceEq, Int.reduceNeg, reduceCtorEq, resV, resAll, ARes.ev, LV.flat, ite_true, ite_false, exists_eq_left', exists_eq_left, keyOf, implies_true, fillC, capOf]
  refine condC_dec (fun hlt => ?_) (fun hlt => ?_)
  · have hil : i < cs.length := by omega
    have hg := Tri.get (h.pre hpre) hil
    have hts := txH_succ (x := x) (y := y) (z := z) hil
    have hsz := txH_size (x := x) (y := y) (z := z) (cs := cs.take i)
    have htl := List.length_take_le i cs
    obtain ⟨⟨_, _⟩, ⟨_, _⟩, ⟨_, _⟩⟩ := id (hH.mem (getD_mem' (d := default) hil))
    generalize cs.getD i default = c at *
    generalize txH x y z (cs.take i) = s at *
    simp (disch := omega) only [f1, f3, f4, b1.cell, hg, Cell.row, splice, bvs_add, ByteArray.size_append, dgS_size, szX, szB, ↓SXd, SXu, slBounds, ↓sop, ↓aop, ↓reduceIte, LV.cells, AOp.dst, LV.I, LV.B, LV.U, LV.S, LV.nil, Nat.reduceEqDiff, Nat.reduceAdd, Nat.reduceMul, Nat.reduceSub, Nat.reduceLeDiff, Nat.reduceBEq, Nat.reduceDiv, Nat.reduceMod, Int.reduceToNat, Int.reduceLT, Int.reduceLE, Int.reduceAdd, Int.reduceSub, Int.reduceMul, Int.reduceEq, Int.reduceNeg, reduceCtorEq, resV, resAll, ARes.ev, LV.flat, ite_true, ite_false, exists_eq_left', exists_eq_left, keyOf, implies_true, fillC, capOf]
    refine callK_of (h_l1Num (by omega)) ?_
    simp (disch := omega) only [f1, f3, f4, bvs_add, ByteArray.size_append, dgS_size, szX, szB, ↓SXd, SXu, slBounds, ↓sop, ↓aop, ↓reduceIte, LV.cells, AOp.dst, LV.I, LV.B, LV.U, LV.S, LV.nil, Nat.reduceEqDiff, Nat.reduceAdd, Nat.reduceMul, Nat.reduceSub, Nat.reduceLeDiff, Nat.reduceBEq, Nat.reduceDiv, Nat.reduceMod, Int.reduceToNat, Int.reduceLT, Int.reduceLE, Int.reduceAdd, Int.reduceSub, Int.reduceMul, Int.reduceEq, Int.reduceNeg, reduceCtorEq, resV, resAll, ARes.ev, LV.flat, ite_true, ite_false, exists_eq_left', exists_eq_left, keyOf, implies_true, fillC, capOf]
    refine callK_of (h_l1Num (by omega)) ?_
    simp (disch := omega) only [f1, f3, f4, bvs_add, ByteArray.size_append, dgS_size, szX, szB, ↓SXd, SXu, slBounds, ↓sop, ↓aop, ↓reduceIte, LV.cells, AOp.dst, LV.I, LV.B, LV.U, LV.S, LV.nil, Nat.reduceEqDiff, Nat.reduceAdd, Nat.reduceMul, Nat.reduceSub, Nat.reduceLeDiff, Nat.reduceBEq, Nat.reduceDiv, Nat.reduceMod, Int.reduceToNat, Int.reduceLT, Int.reduceLE, Int.reduceAdd, Int.reduceSub, Int.reduceMul, Int.reduceEq, Int.reduceNeg, reduceCtorEq, resV, resAll, ARes.ev, LV.flat, ite_true, ite_false, exists_eq_left', exists_eq_left, keyOf, implies_true, fillC, capOf]
    refine callK_of (h_l1Num (by omega)) ?_
    simp (disch := omega) only [f1, f3, f4, bvs_add, ByteArray.size_append, dgS_size, szX, szB, ↓SXd, SXu, slBounds, ↓sop, ↓aop, ↓reduceIte, LV.cells, AOp.dst, LV.I, LV.B, LV.U, LV.S, LV.nil, Nat.reduceEqDiff, Nat.reduceAdd, Nat.reduceMul, Nat.reduceSub, Nat.reduceLeDiff, Nat.reduceBEq, Nat.reduceDiv, Nat.reduceMod, Int.reduceToNat, Int.reduceLT, Int.reduceLE, Int.reduceAdd, Int.reduceSub, Int.reduceMul, Int.reduceEq, Int.reduceNeg, reduceCtorEq, resV, resAll, ARes.ev, LV.flat, ite_true, ite_false, exists_eq_left', exists_eq_left, keyOf, implies_true, fillC, capOf]
    exact ⟨m - 1, by omega, i + 1, by omega, hpre.app', b1.app, f1, by rw [hts]; rfl, eqI (natI _)⟩
  · have : i = cs.length := by omega
    subst this
    rw [List.take_length] at f3
    simp (disch := omega) only [f1, f3, f4, ↓SXd, SXu, slBounds, ↓sop, ↓aop, ↓reduceIte, LV.cells, AOp.dst, LV.I, LV.B, LV.U, LV.S, LV.nil, Nat.reduceEqDiff, Nat.reduceAdd, Nat.reduceMul, Nat.reduceSub, Nat.reduceLeDiff, Nat.reduceBEq, Nat.reduceDiv, Nat.reduceMod, Int.reduceToNat, Int.reduceLT, Int.reduceLE, Int.reduceAdd, Int.reduceSub, Int.reduceMul, Int.reduceEq, Int.reduceNeg, reduceCtorEq, resV, resAll, ARes.ev, LV.flat, ite_true, ite_false, exists_eq_left', exists_eq_left, keyOf, implies_true, fillC, capOf]
    exact cmp_pre hpre rfl
theorem g_heapText : CallsTo PG F.impl_heapText [.agg [.I x, .I y, .I z, .ref t o cs.length]] M (.S (txH x y z cs)) M := by
  have hlen := hH.len
  have hdg : ∀ {c : Cell} {Z : Mem}, c.inBox x y z → CallsTo PG F.impl_digits [.agg [.I c.a, .I c.b, .I c.c]] Z (.S ((dgS c.a.toNat ++ dgS c.b.toNat) ++ dgS c.c.toNat)) Z := fun {c Z} hc => by
    obtain ⟨⟨_, _⟩, ⟨_, _⟩, ⟨_, _⟩⟩ := id hH.1
    obtain ⟨⟨_, _⟩, ⟨_, _⟩, ⟨_, _⟩⟩ := hc
    refine calls_run K.impl_digits rfl ?_
    simp (disch := omega) only [C.impl_digits, ↓SXd, SXu, slBounds, ↓sop, ↓aop, ↓reduceIte, LV.cells, AOp.dst, LV.I, LV.B, LV.U, LV.S, LV.nil, Nat.reduceEqDiff, Nat.reduceAdd, Nat.reduceMul, Nat.reduceSub, Nat.reduceLeDiff, Nat.reduceBEq, Nat.reduceDiv, Nat.reduceMod, Int.reduceToNat, Int.reduceLT, Int.reduceLE, Int.reduceAdd, Int.reduceSub, Int.reduceMul, Int.reduceEq, Int.reduceNeg, reduceCtorEq, resV, resAll, ARes.ev, LV.flat, ite_true, ite_false, exists_eq_left', exists_eq_left, keyOf, implies_true, fillC, capOf]
    refine callK_of (g_Itoa (by omega)) ?_
    simp (disch := omega) only [↓SXd, SXu, slBounds, ↓sop, ↓aop, ↓reduceIte, LV.cells, AOp.dst, LV.I, LV.B, LV.U, LV.S, LV.nil, Nat.reduceEqDiff, Nat.reduceAdd, Nat.reduceMul, Nat.reduceSub, Nat.reduceLeDiff, Nat.reduceBEq, Nat.reduceDiv, Nat.reduceMod, Int.reduceToNat, Int.reduceLT, Int.reduceLE, Int.reduceAdd, Int.reduceSub, Int.reduceMul, Int.reduceEq, Int.reduceNeg, reduceCtorEq, resV, resAll, ARes.ev, LV.flat, ite_true, ite_false, exists_eq_left', exists_eq_left, keyOf, implies_true, fillC, capOf]
    refine callK_of (g_Itoa (by omega)) ?_
    simp (disch := omega) only [bvs_add, ByteArray.size_append, dgS_size, szX, szB, ↓SXd, SXu, slBounds, ↓sop, ↓aop, ↓reduceIte, LV.cells, AOp.dst, LV.I, LV.B, LV.U, LV.S, LV.nil, Nat.reduceEqDiff, Nat.reduceAdd, Nat.reduceMul, Nat.reduceSub, Nat.reduceLeDiff, Nat.reduceBEq, Nat.reduceDiv, Nat.reduceMod, Int.reduceToNat, Int.reduceLT, Int.reduceLE, Int.reduceAdd, Int.reduceSub, Int.reduceMul, Int.reduceEq, Int.reduceNeg, reduceCtorEq, resV, resAll, ARes.ev, LV.flat, ite_true, ite_false, exists_eq_left', exists_eq_left, keyOf, implies_true, fillC, capOf]
    refine callK_of (g_Itoa (by omega)) ?_
    simp (disch := omega) only [bvs_add, ByteArray.size_append, dgS_size, szX, szB, ↓SXd, SXu, slBounds, ↓sop, ↓aop, ↓reduceIte, LV.cells, AOp.dst, LV.I, LV.B, LV.U, LV.S, LV.nil, Nat.reduceEqDiff, Nat.reduceAdd, Nat.reduceMul, Nat.reduceSub, Nat.reduceLeDiff, Nat.reduceBEq, Nat.reduceDiv, Nat.reduceMod, Int.reduceToNat, Int.reduceLT, Int.reduceLE, Int.reduceAdd, Int.reduceSub, Int.reduceMul, Int.reduceEq, Int.reduceNeg, reduceCtorEq, resV, resAll, ARes.ev, LV.flat, ite_true, ite_false, exists_eq_left', exists_eq_left, keyOf, implies_true, fillC, capOf]
    exact cmp_drop rfl
  obtain ⟨⟨_, _⟩, ⟨_, _⟩, ⟨_, _⟩⟩ := id hH.1
  refine calls_run K.impl_heapText rfl ?_
  simp (disch := omega) only [C.impl_heapText, ↓SXd, SXu, slBounds, ↓sop, ↓aop, ↓reduceIte, LV.cells, AOp.dst, LV.I, LV.B, LV.U, LV.S, LV.nil, Nat.reduceEqDiff, Nat.reduceAdd, Nat.reduceMul, Nat.reduceSub, Nat.reduceLeDiff, Nat.reduceBEq, Nat.reduceDiv, Nat.reduceMod, Int.reduceToNat, Int.reduceLT, Int.reduceLE, Int.reduceAdd, Int.reduceSub, Int.reduceMul, Int.reduceEq, Int.reduceNeg, reduceCtorEq, resV, resAll, ARes.ev, LV.flat, ite_true, ite_false, exists_eq_left', exists_eq_left, keyOf, implies_true, fillC, capOf]
  refine callK_of (g_Itoa (by omega)) ?_
  simp (disch := omega) only [bvs_add, ByteArray.size_append, dgS_size, szX, szB, ↓SXd, SXu, slBounds, ↓sop, ↓aop, ↓reduceIte, LV.cells, AOp.dst, LV.I, LV.B, LV.U, LV.S, LV.nil, Nat.reduceEqDiff, Nat.reduceAdd, Nat.reduceMul, Nat.reduceSub, Nat.reduceLeDiff, Nat.reduceBEq, Nat.reduceDiv, Nat.reduceMod, Int.reduceToNat, Int.reduceLT, Int.reduceLE, Int.reduceAdd, Int.reduceSub, Int.reduceMul, Int.reduceEq, Int.reduceNeg, reduceCtorEq, resV, resAll, ARes.ev, LV.flat, ite_true, ite_false, exists_eq_left', exists_eq_left, keyOf, implies_true, fillC, capOf]
  refine callK_of (g_Itoa (by omega)) ?_
  simp (disch := omega) only [bvs_add, ByteArray.size_append, dgS_size, szX, szB, ↓SXd, SXu, slBounds, ↓sop, ↓aop, ↓reduceIte, LV.cells, AOp.dst, LV.I, LV.B, LV.U, LV.S, LV.nil, Nat.reduceEqDiff, Nat.reduceAdd, Nat.reduceMul, Nat.reduceSub, Nat.reduceLeDiff, Nat.reduceBEq, Nat.reduceDiv, Nat.reduceMod, Int.reduceToNat, Int.reduceLT, Int.reduceLE, Int.reduceAdd, Int.reduceSub, Int.reduceMul, Int.reduceEq, Int.reduceNeg, reduceCtorEq, resV, resAll, ARes.ev, LV.flat, ite_true, ite_false, exists_eq_left', exists_eq_left, keyOf, implies_true, fillC, capOf]
  refine callK_of (g_Itoa (by omega)) ?_
  simp (disch := omega) only [bvs_add, ByteArray.size_append, dgS_size, szX, szB, ↓SXd, SXu, slBounds, ↓sop, ↓aop, ↓reduceIte, LV.cells, AOp.dst, LV.I, LV.B, LV.U, LV.S, LV.nil, Nat.reduceEqDiff, Nat.reduceAdd, Nat.reduceMul, Nat.reduceSub, Nat.reduceLeDiff, Nat.reduceBEq, Nat.reduceDiv, Nat.reduceMod, Int.reduceToNat, Int.reduceLT, Int.reduceLE, Int.reduceAdd, Int.reduceSub, Int.reduceMul, Int.reduceEq, Int.reduceNeg, reduceCtorEq, resV, resAll, ARes.ev, LV.flat, ite_true, ite_false, exists_eq_left', exists_eq_left, keyOf, implies_true, fillC, capOf]
  refine ev_loop (fun m fr M' => ∃ i : Nat, i + m = cs.length ∧ Pre M M' ∧ fr 3 = .S (txH x y z (cs.take i)) ∧ fr 20 = .ref t o cs.length ∧ fr 21 = .I cs.length ∧ fr 22 = .I i) cs.length
    ⟨0, by omega, Pre.app _ _, rfl, rfl, rfl, rfl⟩ ?_
  rintro m fr M' ⟨i, hi, hpre, f3, f20, f21, f22⟩
  simp (disch := omega) only [f3, f20, f21, f22, ↓SXd, SXu, slBounds, ↓sop, ↓aop, ↓reduceIte, LV.cells, AOp.dst, LV.I, LV.B, LV.U, LV.S, LV.nil, Nat.reduceEqDiff, Nat.reduceAdd, Nat.reduceMul, Nat.reduceSub, Nat.reduceLeDiff, Nat.reduceBEq, Nat.reduceDiv, Nat.reduceMod, Int.reduceToNat, Int.reduceLT, Int.reduceLE, Int.reduceAdd, Int.reduceSub, Int.reduceMul, Int.reduceEq, Int.reduceNeg, reduceCtorEq, resV, resAll, ARes.ev, LV.flat, ite_true, ite_false, exists_eq_left', exists_eq_left, keyOf, implies_true, fillC, capOf]
  refine condC_dec (fun hlt => ?_) (fun hlt => ?_)
  · have hil : i < cs.length := by omega
    have hg := Tri.get (h.pre hpre) hil
    have hts := txH_succ (x := x) (y := y) (z := z) hil
    have hsz := txH_size (x := x) (y := y) (z := z) (cs := cs.take i)
    have htl := List.length_take_le i cs
    have hcm := hH.mem (getD_mem' (d := default) hil)
    generalize cs.getD i default = c at *
    generalize txH x y z (cs.take i) = s at *
    simp (disch := omega) only [f3, f20, f21, f22, hg, Cell.row, splice, ↓SXd, SXu, slBounds, ↓sop, ↓aop, ↓reduceIte, LV.cells, AOp.dst, LV.I, LV.B, LV.U, LV.S, LV.nil, Nat.reduceEqDiff, Nat.reduceAdd, Nat.reduceMul, Nat.reduceSub, Nat.reduceLeDiff, Nat.reduceBEq, Nat.reduceDiv, Nat.reduceMod, Int.reduceToNat, Int.reduceLT, Int.reduceLE, Int.reduceAdd, Int.reduceSub, Int.reduceMul, Int.reduceEq, Int.reduceNeg, reduceCtorEq, resV, resAll, ARes.ev, LV.flat, ite_true, ite_false, exists_eq_left', exists_eq_left, keyOf, implies_true, fillC, capOf]
    refine callK_of (hdg hcm) ?_
    simp (disch := omega) only [f3, f20, f21, f22, bvs_add, ByteArray.size_append, dgS_size, szX, szB, ↓SXd, SXu, slBounds, ↓sop, ↓aop, ↓reduceIte, LV.cells, AOp.dst, LV.I, LV.B, LV.U, LV.S, LV.nil, Nat.reduceEqDiff, Nat.reduceAdd, Nat.reduceMul, Nat.reduceSub, Nat.reduceLeDiff, Nat.reduceBEq, Nat.reduceDiv, Nat.reduceMod, Int.reduceToNat, Int.reduceLT, Int.reduceLE, Int.reduceAdd, Int.reduceSub, Int.reduceMul, Int.reduceEq, Int.reduceNeg, reduceCtorEq, resV, resAll, ARes.ev, LV.flat, ite_true, ite_false, exists_eq_left', exists_eq_left, keyOf, implies_true, fillC, capOf]
    exact ⟨m - 1, by omega, i + 1, by omega, hpre.app', by rw [hts]; unfold txC; simp only [ByteArray.append_assoc]; rfl, f20, f21, eqI (natI _)⟩
  · have : i = cs.length := by omega
    subst this
    rw [List.take_length] at f3
    simp (disch := omega) only [f3, f20, f21, f22, ↓SXd, SXu, slBounds, ↓sop, ↓aop, ↓reduceIte, LV.cells, AOp.dst, LV.I, LV.B, LV.U, LV.S, LV.nil, Nat.reduceEqDiff, Nat.reduceAdd, Nat.reduceMul, Nat.reduceSub, Nat.reduceLeDiff, Nat.reduceBEq, Nat.reduceDiv, Nat.reduceMod, Int.reduceToNat, Int.reduceLT, Int.reduceLE, Int.reduceAdd, Int.reduceSub, Int.reduceMul, Int.reduceEq, Int.reduceNeg, reduceCtorEq, resV, resAll, ARes.ev, LV.flat, ite_true, ite_false, exists_eq_left', exists_eq_left, keyOf, implies_true, fillC, capOf]
    exact cmp_pre hpre rfl
end
noncomputable def htOf (x y z : Int) (cs : List Cell) : Option ByteArray := by
  classical
  exact if HeapOK x y z cs then some (txH x y z cs) else none
section
variable {x y z : Int} {t o : Nat} {cs : List Cell} {M : Mem} (h : Tri M t o cs) (hn : cs.length ≤ 1000000000)
include h hn
end
end Go.Ab

namespace Go.Ab
open Go

def splitL (c : UInt8) : List UInt8 → List (List UInt8)
  | [] => [[]]
  | b :: l => if b = c then [] :: splitL c l else match splitL c l with
    | [] => [[b]]
    | w :: ws => (b :: w) :: ws
theorem splitL_cons {c b : UInt8} {l : List UInt8} : splitL c (b :: l) = if b = c then [] :: splitL c l else match splitL c l with
    | [] => [[b]]
    | w :: ws => (b :: w) :: ws := rfl
theorem splitL_ne {c : UInt8} : ∀ {l : List UInt8}, splitL c l ≠ []
  | [] => by simp [splitL]
  | b :: l => by
    unfold splitL
    split
    · simp
    · split <;> simp
theorem splitL_miss {c : UInt8} : ∀ {l : List UInt8}, c ∉ l → splitL c l = [l]
  | [], _ => rfl
  | b :: l, h => by
    have h1 : c ∉ l := fun x => h (List.mem_cons_of_mem _ x)
    have h2 : ¬ b = c := fun e => h (by rw [e]; exact List.mem_cons_self)
    unfold splitL
    rw [if_neg h2, splitL_miss h1]
theorem splitL_app {c : UInt8} {r : List UInt8} : ∀ {a : List UInt8}, c ∉ a → splitL c (a ++ c :: r) = a :: splitL c r
  | [], _ => by
    rw [List.nil_append, splitL_cons, if_pos rfl]
  | b :: l, h => by
    have h1 : c ∉ l := fun x => h (List.mem_cons_of_mem _ x)
    have h2 : ¬ b = c := fun e => h (by rw [e]; exact List.mem_cons_self)
    rw [List.cons_append, splitL_cons, if_neg h2, splitL_app h1]
theorem splitL_hit {c : UInt8} {l : List UInt8} {k : Nat} (hk : k < l.length) (h0 : c ∉ l.take k) (h1 : l[k]'hk = c) : splitL c l = l.take k :: splitL c (l.drop (k + 1)) := by
  have e : l = l.take k ++ c :: l.drop (k + 1) := by
    rw [← h1, ← List.drop_eq_getElem_cons hk, List.take_append_drop]
  conv => lhs; rw [e]
  exact splitL_app h0
theorem splitL_len {c : UInt8} : ∀ {l : List UInt8}, (splitL c l).length = l.count c + 1
  | [] => rfl
  | b :: l => by
    have ih := splitL_len (c := c) (l := l)
    unfold splitL
    by_cases e : b = c
    · rw [if_pos e, List.length_cons, ih, e, List.count_cons_self]
    · rw [if_neg e, List.count_cons_of_ne e, ← ih]
      split
      · rename_i h; exact absurd h splitL_ne
      · rename_i h; rw [h]; rfl

def baOf (l : List UInt8) : ByteArray := ⟨l.toArray⟩
theorem baOf_toList (s : ByteArray) : baOf s.data.toList = s := rfl
theorem ba_ext {s t : ByteArray} (h : s.data.toList = t.data.toList) : s = t := by
  rw [← baOf_toList s, h, baOf_toList]
theorem ba_size (s : ByteArray) : s.size = s.data.toList.length := rfl
theorem ba_append (s t : ByteArray) : (s ++ t).data.toList = s.data.toList ++ t.data.toList := by
  rw [ByteArray.data_append, Array.toList_append]
theorem ba_extract (s : ByteArray) (i j : Nat) : (s.extract i j).data.toList = (s.data.toList.take j).drop i := by
  rw [ByteArray.data_extract, Array.toList_extract, List.extract_eq_drop_take, List.drop_take]
def words (c : UInt8) (s : ByteArray) : List ByteArray := (splitL c s.data.toList).map baOf

def dgB (n : Int) : UInt8 := UInt8.ofNat (48 + n.toNat)
theorem dgB_toNat {n : Int} (h : 0 ≤ n ∧ n < 10) : (dgB n).toNat = 48 + n.toNat := by
  unfold dgB
  rw [UInt8.toNat_ofNat']
  omega
theorem dgB_ne {n : Int} (h : 0 ≤ n ∧ n < 10) {c : UInt8} (hc : c.toNat < 48 ∨ 57 < c.toNat) : c ≠ dgB n := fun e => by
  have := dgB_toNat h
  rw [← e] at this
  omega
def digs (c : Cell) : List UInt8 := [dgB c.a, dgB c.b, dgB c.c]
def bytB (x y z : Int) : List UInt8 := [dgB x, 120, dgB y, 120, dgB z]
theorem txB_bytes {x y z : Int} : (txB x y z).data.toList = bytB x y z := rfl
theorem txC_bytes {s : ByteArray} {c : Cell} : (txC s c).data.toList = s.data.toList ++ 32 :: digs c := by
  unfold txC
  simp only [ba_append, List.append_assoc]
  rfl
theorem txF_bytes : ∀ {cs : List Cell} {s : ByteArray}, (cs.foldl txC s).data.toList = s.data.toList ++ cs.flatMap fun c => 32 :: digs c
  | [], s => by simp
  | c :: cs, s => by rw [List.foldl_cons, txF_bytes, txC_bytes, List.flatMap_cons, List.append_assoc]
theorem txH_bytes {x y z : Int} {cs : List Cell} : (txH x y z cs).data.toList = bytB x y z ++ cs.flatMap fun c => 32 :: digs c := by
  unfold txH; rw [txF_bytes, txB_bytes]
def okC (c : Cell) : Prop := (0 ≤ c.a ∧ c.a < 10) ∧ (0 ≤ c.b ∧ c.b < 10) ∧ (0 ≤ c.c ∧ c.c < 10)
theorem digs_no {c : Cell} (h : okC c) {b : UInt8} (hb : b.toNat < 48 ∨ 57 < b.toNat) : b ∉ digs c := by
  obtain ⟨h1, h2, h3⟩ := h
  simp [digs, dgB_ne h1 hb, dgB_ne h2 hb, dgB_ne h3 hb]
theorem split_flat : ∀ {cs : List Cell} {a : List UInt8}, (32 : UInt8) ∉ a → (∀ c ∈ cs, okC c) → splitL 32 (a ++ cs.flatMap fun c => 32 :: digs c) = a :: cs.map digs
  | [], a, ha, _ => by
    rw [List.flatMap_nil, List.append_nil, splitL_miss ha]; rfl
  | c :: cs, a, ha, h => by
    rw [List.flatMap_cons, List.cons_append, splitL_app ha, split_flat (digs_no (h c List.mem_cons_self) (.inl (by decide))) fun d hd => h d (List.mem_cons_of_mem _ hd)]
    rfl
theorem HeapOK.okC {x y z : Int} {cs : List Cell} (h : HeapOK x y z cs) : ∀ c ∈ cs, okC c := fun c hc => by
  obtain ⟨⟨_, _⟩, ⟨_, _⟩, ⟨_, _⟩⟩ := h.mem hc
  obtain ⟨⟨_, _⟩, ⟨_, _⟩, ⟨_, _⟩⟩ := h.1
  exact ⟨⟨by omega, by omega⟩, ⟨by omega, by omega⟩, ⟨by omega, by omega⟩⟩
theorem words_tx {x y z : Int} {cs : List Cell} (h : HeapOK x y z cs) : words 32 (txH x y z cs) = baOf (bytB x y z) :: cs.map fun c => baOf (digs c) := by
  obtain ⟨⟨_, _⟩, ⟨_, _⟩, ⟨_, _⟩⟩ := h.1
  have hn : (32 : UInt8) ∉ bytB x y z := by
    have h1 : (32 : UInt8) ≠ dgB x := dgB_ne ⟨by omega, by omega⟩ (.inl (by decide))
    have h2 : (32 : UInt8) ≠ dgB y := dgB_ne ⟨by omega, by omega⟩ (.inl (by decide))
    have h3 : (32 : UInt8) ≠ dgB z := dgB_ne ⟨by omega, by omega⟩ (.inl (by decide))
    simp [bytB, h1, h2, h3]
  unfold words
  rw [txH_bytes, split_flat hn h.okC, List.map_cons, List.map_map]
  rfl
theorem words_box {x y z : Int} (h : Sides x y z) : words 120 (baOf (bytB x y z)) = [dgS x.toNat, dgS y.toNat, dgS z.toNat] := by
  obtain ⟨⟨_, _⟩, ⟨_, _⟩, ⟨_, _⟩⟩ := h
  have h1 : (120 : UInt8) ∉ [dgB x] := by simp [dgB_ne (n := x) (c := 120) ⟨by omega, by omega⟩ (.inr (by decide))]
  have h2 : (120 : UInt8) ∉ [dgB y] := by simp [dgB_ne (n := y) (c := 120) ⟨by omega, by omega⟩ (.inr (by decide))]
  have h3 : (120 : UInt8) ∉ [dgB z] := by simp [dgB_ne (n := z) (c := 120) ⟨by omega, by omega⟩ (.inr (by decide))]
  have e : splitL 120 (bytB x y z) = [[dgB x], [dgB y], [dgB z]] := by
    show splitL 120 ([dgB x] ++ 120 :: ([dgB y] ++ 120 :: [dgB z])) = _
    rw [splitL_app h1, splitL_app h2, splitL_miss h3]
  unfold words
  rw [show (baOf (bytB x y z)).data.toList = bytB x y z from rfl, e]
  rfl
def byI (s : ByteArray) (i : Nat) : Int := ((s.data.toList.getD i 0).toNat : Int) - 48
def cellW (w : ByteArray) : Cell := ⟨byI w 0, byI w 1, byI w 2⟩
def decH (s : ByteArray) : Hp := ⟨byI s 0, byI s 2, byI s 4, (words 32 s).tail.map cellW⟩
theorem dg_back {n : Int} (h : 0 ≤ n ∧ n < 10) : ((dgB n).toNat : Int) - 48 = n := by rw [dgB_toNat h]; omega
theorem cell_back {c : Cell} (h : okC c) : cellW (baOf (digs c)) = c := by
  obtain ⟨h1, h2, h3⟩ := h
  show (⟨((dgB c.a).toNat : Int) - 48, ((dgB c.b).toNat : Int) - 48, ((dgB c.c).toNat : Int) - 48⟩ : Cell) = c
  rw [dg_back h1, dg_back h2, dg_back h3]
theorem dec_tx {x y z : Int} {cs : List Cell} (h : HeapOK x y z cs) : decH (txH x y z cs) = ⟨x, y, z, cs⟩ := by
  unfold decH
  rw [words_tx h]
  obtain ⟨⟨_, _⟩, ⟨_, _⟩, ⟨_, _⟩⟩ := h.1
  have e : ∀ i, i < 5 → byI (txH x y z cs) i = (((bytB x y z).getD i 0).toNat : Int) - 48 := fun i hi => by
    unfold byI
    rw [txH_bytes, List.getD_eq_getElem?_getD, List.getD_eq_getElem?_getD, List.getElem?_append_left (by simp only [bytB, List.length_cons, List.length_nil]; omega)]
  rw [e 0 (by omega), e 2 (by omega), e 4 (by omega)]
  show (⟨((dgB x).toNat : Int) - 48, ((dgB y).toNat : Int) - 48, ((dgB z).toNat : Int) - 48, _⟩ : Hp) = _
  rw [dg_back ⟨by omega, by omega⟩, dg_back ⟨by omega, by omega⟩, dg_back ⟨by omega, by omega⟩, List.tail_cons, List.map_map]
  congr 1
  conv => rhs; rw [← List.map_id cs]
  exact List.map_congr_left fun c hc => cell_back (h.okC c hc)
noncomputable def phOf (s : ByteArray) : Option Hp := by
  classical
  exact if HeapOK (decH s).x (decH s).y (decH s).z (decH s).cs ∧ txH (decH s).x (decH s).y (decH s).z (decH s).cs = s then some (decH s) else none
theorem ph_some {s : ByteArray} {x y z : Int} {cs : List Cell} (h : HeapOK x y z cs) (hs : txH x y z cs = s) : phOf s = some ⟨x, y, z, cs⟩ := by
  have e : decH s = ⟨x, y, z, cs⟩ := by rw [← hs]; exact dec_tx h
  unfold phOf
  rw [e, if_pos ⟨h, hs⟩]
theorem ph_none {s : ByteArray} (h : ∀ x y z cs, HeapOK x y z cs → txH x y z cs = s → False) : phOf s = none := by
  unfold phOf
  exact if_neg fun e => h _ _ _ _ e.1 e.2
theorem ph_len {s : ByteArray} : ((phOf s).getD Hp.none).cs.length ≤ 64 := by
  unfold phOf
  split
  · rename_i h; exact h.1.len
  · simp [Hp.none]
end Go.Ab

namespace Go.Ab
open Go
set_option maxRecDepth 20000

theorem bvs_eql {a b : ByteArray} : binV .eql (.val (.string a)) (.val (.string b)) = some (.val (.bool (a.toList == b.toList)), True) := rfl
theorem ba_beq {a b : ByteArray} : (a.toList == b.toList) = decide (a = b) := by
  rw [ByteArray.toList_eq, ByteArray.toList_eq]
  by_cases h : a = b
  · rw [h, decide_eq_true rfl]; exact beq_self_eq_true _
  · rw [decide_eq_false h]
    exact beq_eq_false_iff_ne.2 fun e => h (ba_ext e)
theorem lenT_s {s : ByteArray} : lenTV (.val (.string s)) = some (s.size : Int) := rfl
theorem sz1 {c : UInt8} : (ByteArray.mk #[c]).size = 1 := rfl
theorem idx_cases (c : UInt8) : ∀ l : List UInt8, (Lib.indexByte l c = -1 ∧ c ∉ l) ∨ ∃ (k : Nat) (hk : k < l.length), Lib.indexByte l c = k ∧ l[k] = c ∧ c ∉ l.take k
  | [] => .inl ⟨rfl, by simp⟩
  | b :: l => by
    unfold Lib.indexByte
    by_cases e : b = c
    · refine .inr ⟨0, by simp, ?_, e, by simp⟩
      rw [if_pos (by simp [e])]; rfl
    · rw [if_neg (by simp [e])]
      rcases idx_cases c l with ⟨h1, h2⟩ | ⟨k, hk, h1, h2, h3⟩
      · refine .inl ⟨by rw [if_pos (by simp [h1])], ?_⟩
        intro hm
        rcases List.mem_cons.1 hm with hm | hm
        · exact e hm.symm
        · exact h2 hm
      · refine .inr ⟨k + 1, by simp only [List.length_cons]; omega, ?_, by simpa using h2, ?_⟩
        · rw [if_neg (by rw [h1]; simp), h1]; rfl
        · rw [List.take_succ_cons]
          intro hm
          rcases List.mem_cons.1 hm with hm | hm
          · exact e hm.symm
          · exact h3 hm
theorem g_Index {s : ByteArray} {c : UInt8} {M : Mem} : CallsTo PG F.strings_Index [.S s, .S ⟨#[c]⟩] M (.I (Lib.indexByte s.data.toList c)) M := by
  have h1 : CallsTo PG F.internal_stringslite_Index [.S s, .S ⟨#[c]⟩] M (.I (Lib.indexByte s.data.toList c)) M := by
    have hg : (((ByteArray.mk #[c]).data.toList.getD (Int.toNat 0) 0).toNat : Int) = (c.toNat : Int) := rfl
    have hb := g_IndexByte (s := s) (c := (c.toNat : Int)) (M := M)
    rw [show ((c.toNat : Int)).toNat.toUInt8 = c from by simp] at hb
    refine calls_run K.internal_stringslite_Index rfl ?_
    by_cases he : (ByteArray.mk #[c]) = s
    · have e0 : Lib.indexByte s.data.toList c = 0 := by
        rw [← he]; unfold Lib.indexByte; rw [if_pos (by simp)]
      rw [e0]
      have hd := decide_eq_true he
      simp (disch := omega) only [C.internal_stringslite_Index, lenT_s, sz1, bvs_eql, ba_beq, hd, ↓SXd, SXu, slBounds, ↓sop, ↓aop, ↓reduceIte, LV.cells, AOp.dst, LV.I, LV.B, LV.U, LV.S, LV.nil, Nat.reduceEqDiff, Nat.reduceAdd, Nat.reduceMul, Nat.reduceSub, Nat.reduceLeDiff, Nat.reduceBEq, Nat.reduceDiv, Nat.reduceMod, Int.reduceToNat, Int.reduceLT, Int.reduceLE, Int.reduceAdd, Int.reduceSub, Int.reduceMul, Int.reduceEq, Int.reduceNeg, reduceCtorEq, resV, resAll, ARes.ev, LV.flat, ite_true, ite_false, exists_eq_left', exists_eq_left, keyOf, implies_true, fillC, capOf]
      exact cmp_drop0 rfl
    · simp (disch := omega) only [C.internal_stringslite_Index, lenT_s, sz1, bvs_eql, ba_beq, decide_eq_false, he, hg, ↓SXd, SXu, slBounds, ↓sop, ↓aop, ↓reduceIte, LV.cells, AOp.dst, LV.I, LV.B, LV.U, LV.S, LV.nil, Nat.reduceEqDiff, Nat.reduceAdd, Nat.reduceMul, Nat.reduceSub, Nat.reduceLeDiff, Nat.reduceBEq, Nat.reduceDiv, Nat.reduceMod, Int.reduceToNat, Int.reduceLT, Int.reduceLE, Int.reduceAdd, Int.reduceSub, Int.reduceMul, Int.reduceEq, Int.reduceNeg, reduceCtorEq, resV, resAll, ARes.ev, LV.flat, ite_true, ite_false, exists_eq_left', exists_eq_left, keyOf, implies_true, fillC, capOf]
      refine callK_of hb ?_
      simp (disch := omega) only [↓SXd, SXu, slBounds, ↓sop, ↓aop, ↓reduceIte, LV.cells, AOp.dst, LV.I, LV.B, LV.U, LV.S, LV.nil, Nat.reduceEqDiff, Nat.reduceAdd, Nat.reduceMul, Nat.reduceSub, Nat.reduceLeDiff, Nat.reduceBEq, Nat.reduceDiv, Nat.reduceMod, Int.reduceToNat, Int.reduceLT, Int.reduceLE, Int.reduceAdd, Int.reduceSub, Int.reduceMul, Int.reduceEq, Int.reduceNeg, reduceCtorEq, resV, resAll, ARes.ev, LV.flat, ite_true, ite_false, exists_eq_left', exists_eq_left, keyOf, implies_true, fillC, capOf]
      exact cmp_drop0 rfl
  refine calls_run K.strings_Index rfl ?_
  simp (disch := omega) only [C.strings_Index, ↓SXd, SXu, slBounds, ↓sop, ↓aop, ↓reduceIte, LV.cells, AOp.dst, LV.I, LV.B, LV.U, LV.S, LV.nil, Nat.reduceEqDiff, Nat.reduceAdd, Nat.reduceMul, Nat.reduceSub, Nat.reduceLeDiff, Nat.reduceBEq, Nat.reduceDiv, Nat.reduceMod, Int.reduceToNat, Int.reduceLT, Int.reduceLE, Int.reduceAdd, Int.reduceSub, Int.reduceMul, Int.reduceEq, Int.reduceNeg, reduceCtorEq, resV, resAll, ARes.ev, LV.flat, ite_true, ite_false, exists_eq_left', exists_eq_left, keyOf, implies_true, fillC, capOf]
  refine callK_of h1 ?_
  simp (disch := omega) only [↓SXd, SXu, slBounds, ↓sop, ↓aop, ↓reduceIte, LV.cells, AOp.dst, LV.I, LV.B, LV.U, LV.S, LV.nil, Nat.reduceEqDiff, Nat.reduceAdd, Nat.reduceMul, Nat.reduceSub, Nat.reduceLeDiff, Nat.reduceBEq, Nat.reduceDiv, Nat.reduceMod, Int.reduceToNat, Int.reduceLT, Int.reduceLE, Int.reduceAdd, Int.reduceSub, Int.reduceMul, Int.reduceEq, Int.reduceNeg, reduceCtorEq, resV, resAll, ARes.ev, LV.flat, ite_true, ite_false, exists_eq_left', exists_eq_left, keyOf, implies_true, fillC, capOf]
  exact cmp_drop0 rfl

def strL (ws : List ByteArray) : List LV := ws.map LV.S
theorem strL_len {ws : List ByteArray} : (strL ws).length = ws.length := List.length_map ..
theorem strL_append {a b : List ByteArray} : strL (a ++ b) = strL a ++ strL b := List.map_append ..
theorem strL_get {ws : List ByteArray} {k : Nat} (h : k < ws.length) : (strL ws)[k]? = some (.S (ws.getD k default)) := by
  unfold strL
  rw [List.getElem?_map, List.getElem?_eq_getElem h]
  simp [h]
theorem memK_str {M : Mem} {t j m : Nat} {ws : List ByteArray} {w : ByteArray} {A : Mem → Prop} (ht : Live M t (.row (strL ws ++ List.replicate (m + 1) (.S (ByteArray.mk #[]))) true 1)) (hj : j = ws.length)
    (hA : ∀ M', M'.length = M.length → Live M' t (.row (strL (ws ++ [w]) ++ List.replicate m (.S (ByteArray.mk #[]))) true 1) → (∀ u, u ≠ t → u < M.length → M'[u]? = M[u]?) → A M') : memK (setCells M t j [.S w]) A := by
  have hl : j < (strL ws ++ List.replicate (m + 1) (LV.S (ByteArray.mk #[]))).length := by rw [List.length_append, strL_len, List.length_replicate]; omega
  have e : (strL ws ++ List.replicate (m + 1) (LV.S (ByteArray.mk #[]))).set j (.S w) = strL (ws ++ [w]) ++ List.replicate m (.S (ByteArray.mk #[])) := by
    rw [List.set_append_right _ _ (by rw [strL_len]; omega), strL_len, hj, Nat.sub_self, List.replicate_succ, List.set_cons_zero, strL_append, List.append_assoc]
    rfl
  rw [ht.setC, if_pos (by rw [List.length_singleton]; omega), splice_1 hl, e]
  exact hA _ (by simp) ht.set_eq fun u hu _ => List.getElem?_set_ne (fun e => hu e.symm)
theorem words_miss {c : UInt8} {r : ByteArray} (h : c ∉ r.data.toList) : words c r = [r] := by
  unfold words; rw [splitL_miss h]; rfl
theorem words_hit {c : UInt8} {r : ByteArray} {k : Nat} (hk : k < r.data.toList.length) (h : r.data.toList[k] = c) (h0 : c ∉ r.data.toList.take k) : words c r = r.extract 0 k :: words c (r.extract (k + 1) r.size) := by
  unfold words
  rw [splitL_hit hk h0 h, List.map_cons]
  congr 1
  · exact ba_ext (by rw [ba_extract]; rfl)
  · rw [ba_extract, ba_size, List.take_length]
theorem words_len {c : UInt8} {r : ByteArray} : (words c r).length = r.data.toList.count c + 1 := by
  unfold words; rw [List.length_map, splitL_len]
theorem count_hit {c : UInt8} {l : List UInt8} {k : Nat} (hk : k < l.length) (h : l[k] = c) (h0 : c ∉ l.take k) : l.count c = (l.drop (k + 1)).count c + 1 := by
  have e : l = l.take k ++ c :: l.drop (k + 1) := by
    rw [← h, ← List.drop_eq_getElem_cons hk, List.take_append_drop]
  conv => lhs; rw [e]
  rw [List.count_append, List.count_eq_zero_of_not_mem h0, List.count_cons_self]; omega
theorem flat_rep {v : LV} : ∀ n : Nat, (List.replicate n [v]).flatten = List.replicate n v
  | 0 => rfl
  | n + 1 => by rw [List.replicate_succ, List.flatten_cons, flat_rep n, List.replicate_succ]; rfl
section
variable {s : ByteArray} {c : UInt8} {M : Mem} (hs : s.size ≤ 1048576)
include hs
theorem g_genSplit : CallsR PG F.strings_genSplit [.S s, .S ⟨#[c]⟩, .I 0, .I (-1)] M fun v N => ∃ t, v = .ref t 0 (words c s).length ∧ Live N t (.row (strL (words c s)) true 1) ∧ Pre M N := by
  have hne : ¬ (ByteArray.mk #[c]) = (ByteArray.mk #[]) := fun e => by have := congrArg ByteArray.size e; simp [ByteArray.size] at this
  have hct : s.data.toList.count c ≤ s.size := by rw [ba_size]; exact List.count_le_length
  refine callsR_run K.strings_genSplit rfl ?_
  simp (disch := omega) only [C.strings_genSplit, lenT_s, sz1, bvs_eql, ba_beq, decide_eq_false, hne, ↓SXd, SXu, slBounds, ↓sop, ↓aop, ↓reduceIte, LV.cells, AOp.dst, LV.I, LV.B, LV.U, LV.S, LV.nil, Nat.reduceEqDiff, Nat.reduceAdd, Nat.reduceMul, Nat.reduceSub, Nat.reduceLeDiff, Nat.reduceBEq, Nat.reduceDiv, Nat.reduceMod, Int.reduceToNat, Int.reduceLT, Int.reduceLE, Int.reduceAdd, Int.reduceSub, Int.reduceMul, Int.reduceEq, Int.reduceNeg, reduceCtorEq, resV, resAll, ARes.ev, LV.flat, ite_true, ite_false, exists_eq_left', exists_eq_left, keyOf, implies_true, fillC, capOf]
  refine callK_of g_Count ?_
  generalize hn : s.data.toList.count c = n at *
  have hmin : min ((n : Int) + 1) ((s.size : Int) + 1) = n + 1 := by omega
  have htn : ((n : Int) + 1).toNat = n + 1 := by omega
  simp (disch := omega) only [lenT_s, sz1, maxV, hmin, htn, flat_rep, ↓SXd, SXu, slBounds, ↓sop, ↓aop, ↓reduceIte, LV.cells, AOp.dst, LV.I, LV.B, LV.U, LV.S, LV.nil, Nat.reduceEqDiff, Nat.reduceAdd, Nat.reduceMul, Nat.reduceSub, Nat.reduceLeDiff, Nat.reduceBEq, Nat.reduceDiv, Nat.reduceMod, Int.reduceToNat, Int.reduceLT, Int.reduceLE, Int.reduceAdd, Int.reduceSub, Int.reduceMul, Int.reduceEq, Int.reduceNeg, reduceCtorEq, resV, resAll, ARes.ev, LV.flat, ite_true, ite_false, exists_eq_left', exists_eq_left, keyOf, implies_true, fillC, capOf]
  refine ev_loop (fun m fr M' => ∃ (i : Nat) (r : ByteArray) (ws : List ByteArray), i + m = n ∧ ws.length = i ∧ words c s = ws ++ words c r ∧ r.data.toList.count c = m ∧ r.size ≤ s.size ∧ Pre M M' ∧ Live M' M.length (.row (strL ws ++ List.replicate (m + 1) (.S (ByteArray.mk #[]))) true 1) ∧
    fr 0 = .S r ∧ fr 1 = .S ⟨#[c]⟩ ∧ fr 2 = .I 0 ∧ fr 3 = .I n ∧ fr 9 = .ref M.length 0 (n + 1) ∧ fr 10 = .I i) n
    ⟨0, s, [], by omega, rfl, rfl, hn, Nat.le_refl _, Pre.app _ _, Live.new, rfl, rfl, rfl, eqI (by omega), rfl, rfl⟩ ?_
  rintro m fr M' ⟨i, r, ws, hi, hw, hwd, hc, hr, hpre, b, f0, f1, f2, f3, f9, f10⟩
  have fin : c ∉ r.data.toList → ∀ (N : Mem), Live N M.length (.row (strL (ws ++ [r]) ++ List.replicate m (.S (ByteArray.mk #[]))) true 1) → Pre M N → ∃ t, LV.ref M.length 0 (i + 1) = .ref t 0 (words c s).length ∧ Live N t (.row (strL (words c s)) true 1) ∧ Pre M N := fun h0 N k1 k2 => by
    have hm0 : m = 0 := by rw [← hc]; exact List.count_eq_zero_of_not_mem h0
    rw [words_miss h0] at hwd
    subst hm0
    rw [List.replicate_zero, List.append_nil, ← hwd] at k1
    exact ⟨M.length, by rw [hwd, List.length_append, hw]; rfl, k1, k2⟩
  simp (disch := omega) only [f0, f1, f2, f3, f9, f10, ↓SXd, SXu, slBounds, ↓sop, ↓aop, ↓reduceIte, LV.cells, AOp.dst, LV.I, LV.B, LV.U, LV.S, LV.nil, Nat.reduceEqDiff, Nat.reduceAdd, Nat.reduceMul, Nat.reduceSub, Nat.reduceLeDiff, Nat.reduceBEq, Nat.reduceDiv, Nat.reduceMod, Int.reduceToNat, Int.reduceLT, Int.reduceLE, Int.reduceAdd, Int.reduceSub, Int.reduceMul, Int.reduceEq, Int.reduceNeg, reduceCtorEq, resV, resAll, ARes.ev, LV.flat, ite_true, ite_false, exists_eq_left', exists_eq_left, keyOf, implies_true, fillC, capOf]
  refine condC_dec (fun hlt => ?_) (fun hlt => ?_)
  · simp (disch := omega) only [f0, f1, f2, f3, f9, f10, ↓SXd, SXu, slBounds, ↓sop, ↓aop, ↓reduceIte, LV.cells, AOp.dst, LV.I, LV.B, LV.U, LV.S, LV.nil, Nat.reduceEqDiff, Nat.reduceAdd, Nat.reduceMul, Nat.reduceSub, Nat.reduceLeDiff, Nat.reduceBEq, Nat.reduceDiv, Nat.reduceMod, Int.reduceToNat, Int.reduceLT, Int.reduceLE, Int.reduceAdd, Int.reduceSub, Int.reduceMul, Int.reduceEq, Int.reduceNeg, reduceCtorEq, resV, resAll, ARes.ev, LV.flat, ite_true, ite_false, exists_eq_left', exists_eq_left, keyOf, implies_true, fillC, capOf]
    refine callK_of g_Index ?_
    rcases idx_cases c r.data.toList with ⟨h1, h2⟩ | ⟨k, hk, h1, h2, h3⟩
    · rw [h1]
      have hm0 : m = 0 := by rw [← hc]; exact List.count_eq_zero_of_not_mem h2
      omega
    · rw [h1]
      have hkr : k < r.size := hk
      obtain ⟨m', rfl⟩ : ∃ m', m = m' + 1 := ⟨m - 1, by omega⟩
      have hnk : ¬ ((k : Int) < 0) := by omega
      have hct1 := count_hit hk h2 h3
      have hwr := words_hit hk h2 h3
      have tk1 : ((k : Int) + 1).toNat = k + 1 := by omega
      have hsz : (r.extract (k + 1) r.size).size = r.size - (k + 1) := by rw [ByteArray.size_extract]; omega
      simp (disch := omega) only [f0, f1, f2, f3, f9, f10, lenT_s, sz1, hnk, Nat.mul_one, Nat.zero_add, ↓SXd, SXu, slBounds, ↓sop, ↓aop, ↓reduceIte, LV.cells, AOp.dst, LV.I, LV.B, LV.U, LV.S, LV.nil, Nat.reduceEqDiff, Nat.reduceAdd, Nat.reduceMul, Nat.reduceSub, Nat.reduceLeDiff, Nat.reduceBEq, Nat.reduceDiv, Nat.reduceMod, Int.reduceToNat, Int.reduceLT, Int.reduceLE, Int.reduceAdd, Int.reduceSub, Int.reduceMul, Int.reduceEq, Int.reduceNeg, reduceCtorEq, resV, resAll, ARes.ev, LV.flat, ite_true, ite_false, exists_eq_left', exists_eq_left, keyOf, implies_true, fillC, capOf]
      refine memK_str b (by omega) fun N k1 k2 k3 => ?_
      simp (disch := omega) only [f0, f1, f2, f3, f9, f10, lenT_s, sz1, tk1, Int.toNat_natCast, ↓SXd, SXu, slBounds, ↓sop, ↓aop, ↓reduceIte, LV.cells, AOp.dst, LV.I, LV.B, LV.U, LV.S, LV.nil, Nat.reduceEqDiff, Nat.reduceAdd, Nat.reduceMul, Nat.reduceSub, Nat.reduceLeDiff, Nat.reduceBEq, Nat.reduceDiv, Nat.reduceMod, Int.reduceToNat, Int.reduceLT, Int.reduceLE, Int.reduceAdd, Int.reduceSub, Int.reduceMul, Int.reduceEq, Int.reduceNeg, reduceCtorEq, resV, resAll, ARes.ev, LV.flat, ite_true, ite_false, exists_eq_left', exists_eq_left, keyOf, implies_true, fillC, capOf]
      refine ⟨m', by omega, i + 1, r.extract (k + 1) r.size, ws ++ [r.extract 0 k], by omega, by rw [List.length_append, hw]; rfl, by rw [hwd, hwr, List.append_assoc]; rfl, ?_, by omega, pre_step (j := 0) hpre (Nat.le_refl _) k1 k3, k2, rfl, f1, f2, f3, f9, eqI (natI _)⟩
      rw [ba_extract, ba_size, List.take_length]; omega
  · have hm0 : m = 0 := by omega
    subst hm0
    have h2 : c ∉ r.data.toList := fun hm => by have := List.count_pos_iff.2 hm; omega
    simp (disch := omega) only [f0, f1, f2, f3, f9, f10, Nat.mul_one, Nat.zero_add, ↓SXd, SXu, slBounds, ↓sop, ↓aop, ↓reduceIte, LV.cells, AOp.dst, LV.I, LV.B, LV.U, LV.S, LV.nil, Nat.reduceEqDiff, Nat.reduceAdd, Nat.reduceMul, Nat.reduceSub, Nat.reduceLeDiff, Nat.reduceBEq, Nat.reduceDiv, Nat.reduceMod, Int.reduceToNat, Int.reduceLT, Int.reduceLE, Int.reduceAdd, Int.reduceSub, Int.reduceMul, Int.reduceEq, Int.reduceNeg, reduceCtorEq, resV, resAll, ARes.ev, LV.flat, ite_true, ite_false, exists_eq_left', exists_eq_left, keyOf, implies_true, fillC, capOf]
    refine memK_str (m := 0) b (by omega) fun N k1 k2 k3 => ?_
    have ti1 : ((i : Int) + 1).toNat = i + 1 := by omega
    have hes := k2.esz
    simp (disch := omega) only [f0, f1, f2, f3, f9, f10, hes, if_true, ite_true, ti1, ↓SXd, SXu, slBounds, ↓sop, ↓aop, ↓reduceIte, LV.cells, AOp.dst, LV.I, LV.B, LV.U, LV.S, LV.nil, Nat.reduceEqDiff, Nat.reduceAdd, Nat.reduceMul, Nat.reduceSub, Nat.reduceLeDiff, Nat.reduceBEq, Nat.reduceDiv, Nat.reduceMod, Int.reduceToNat, Int.reduceLT, Int.reduceLE, Int.reduceAdd, Int.reduceSub, Int.reduceMul, Int.reduceEq, Int.reduceNeg, reduceCtorEq, resV, resAll, ARes.ev, LV.flat, ite_true, ite_false, exists_eq_left', exists_eq_left, keyOf, implies_true, fillC, capOf]
    exact fin h2 N k2 (pre_step (j := 0) hpre (Nat.le_refl _) k1 k3)
theorem g_Split : CallsR PG F.strings_Split [.S s, .S ⟨#[c]⟩] M fun v N => ∃ t, v = .ref t 0 (words c s).length ∧ Live N t (.row (strL (words c s)) true 1) ∧ Pre M N := by
  refine callsR_run K.strings_Split rfl ?_
  simp (disch := omega) only [C.strings_Split, ↓SXd, SXu, slBounds, ↓sop, ↓aop, ↓reduceIte, LV.cells, AOp.dst, LV.I, LV.B, LV.U, LV.S, LV.nil, Nat.reduceEqDiff, Nat.reduceAdd, Nat.reduceMul, Nat.reduceSub, Nat.reduceLeDiff, Nat.reduceBEq, Nat.reduceDiv, Nat.reduceMod, Int.reduceToNat, Int.reduceLT, Int.reduceLE, Int.reduceAdd, Int.reduceSub, Int.reduceMul, Int.reduceEq, Int.reduceNeg, reduceCtorEq, resV, resAll, ARes.ev, LV.flat, ite_true, ite_false, exists_eq_left', exists_eq_left, keyOf, implies_true, fillC, capOf]
  refine callR_of (g_genSplit hs) ?_
  rintro _ N ⟨t, rfl, h1, h2⟩
  simp (disch := omega) only [↓SXd, SXu, slBounds, ↓sop, ↓aop, ↓reduceIte, LV.cells, AOp.dst, LV.I, LV.B, LV.U, LV.S, LV.nil, Nat.reduceEqDiff, Nat.reduceAdd, Nat.reduceMul, Nat.reduceSub, Nat.reduceLeDiff, Nat.reduceBEq, Nat.reduceDiv, Nat.reduceMod, Int.reduceToNat, Int.reduceLT, Int.reduceLE, Int.reduceAdd, Int.reduceSub, Int.reduceMul, Int.reduceEq, Int.reduceNeg, reduceCtorEq, resV, resAll, ARes.ev, LV.flat, ite_true, ite_false, exists_eq_left', exists_eq_left, keyOf, implies_true, fillC, capOf]
  exact ⟨t, rfl, h1, h2⟩
theorem u8_eql {a b : Int} : binV .eql (.val (.int .u8 a)) (.val (.int .u8 b)) = some (.val (.bool (a == b)), True) := rfl
theorem b8_eq {a b : UInt8} : (((a.toNat : Int)) == (b.toNat : Int)) = decide (a = b) := by
  by_cases h : a = b
  · subst h; simp
  · rw [decide_eq_false h]
    refine beq_eq_false_iff_ne.2 fun e => h (UInt8.toNat_inj.1 (by omega))
theorem h_l1Split : CallsR PG F.spec_l1Split [.S s, .val (.int .u8 (c.toNat : Int))] M fun v N => ∃ t, v = .ref t 0 (words c s).length ∧ Live N t (.row (strL (words c s)) true 1) ∧ M.length ≤ t ∧ Pre M N := by
  refine callsR_run K.spec_l1Split rfl ?_
  have hsl : s.data.toList.length = s.size := rfl
  simp (disch := omega) only [C.spec_l1Split, ↓SXd, SXu, slBounds, ↓sop, ↓aop, ↓reduceIte, LV.cells, AOp.dst, LV.I, LV.B, LV.U, LV.S, LV.nil, Nat.reduceEqDiff, Nat.reduceAdd, Nat.reduceMul, Nat.reduceSub, Nat.reduceLeDiff, Nat.reduceBEq, Nat.reduceDiv, Nat.reduceMod, Int.reduceToNat, Int.reduceLT, Int.reduceLE, Int.reduceAdd, Int.reduceSub, Int.reduceMul, Int.reduceEq, Int.reduceNeg, reduceCtorEq, resV, resAll, ARes.ev, LV.flat, ite_true, ite_false, exists_eq_left', exists_eq_left, keyOf, implies_true, fillC, capOf]
  refine ev_loop (fun m fr M' => ∃ (i k u : Nat) (ws : List ByteArray), k + i + m = s.size ∧ ws.length ≤ k ∧ words c s = ws ++ words c (s.extract k s.size) ∧ c ∉ (s.extract k s.size).data.toList.take i ∧ Pre M M' ∧ M.length ≤ u ∧ Live M' u (.row (strL ws) true 1) ∧
    fr 0 = .S s ∧ fr 1 = .val (.int .u8 (c.toNat : Int)) ∧ fr 5 = .ref u 0 ws.length ∧ fr 6 = .I k ∧ fr 7 = .I ((k + i : Nat) : Int)) s.size
    ⟨0, 0, M.length, [], by omega, Nat.le_refl _, ?_, by simp, Pre.app _ _, Nat.le_refl _, Live.new, rfl, rfl, rfl, rfl, rfl⟩ ?_
  · rw [List.nil_append]
    congr 1
    refine ba_ext ?_
    rw [ba_extract, ← hsl, List.take_length, List.drop_zero]
  rintro m fr M' ⟨i, k, u, ws, hi, hwk, hwd, hno, hpre, hu, b, f0, f1, f5, f6, f7⟩
  have hrl : (s.extract k s.size).data.toList = s.data.toList.drop k := by rw [ba_extract, ← hsl, List.take_length]
  rw [hrl] at hno
  have hdl : (s.data.toList.drop k).length = s.size - k := by rw [List.length_drop, hsl]
  simp (disch := omega) only [f0, f1, f5, f6, f7, lenT_s, ↓SXd, SXu, slBounds, ↓sop, ↓aop, ↓reduceIte, LV.cells, AOp.dst, LV.I, LV.B, LV.U, LV.S, LV.nil, Nat.reduceEqDiff, Nat.reduceAdd, Nat.reduceMul, Nat.reduceSub, Nat.reduceLeDiff, Nat.reduceBEq, Nat.reduceDiv, Nat.reduceMod, Int.reduceToNat, Int.reduceLT, Int.reduceLE, Int.reduceAdd, Int.reduceSub, Int.reduceMul, Int.reduceEq, Int.reduceNeg, reduceCtorEq, resV, resAll, ARes.ev, LV.flat, ite_true, ite_false, exists_eq_left', exists_eq_left, keyOf, implies_true, fillC, capOf]
  refine condC_dec (fun hlt => ?_) (fun hlt => ?_)
  · have hil : i < (s.data.toList.drop k).length := by omega
    have hget : s.data.toList.getD (k + i) 0 = (s.data.toList.drop k)[i] := by
      rw [List.getElem_drop, List.getD_eq_getElem?_getD, List.getElem?_eq_getElem (by omega)]; rfl
    simp (disch := omega) only [f0, f1, f5, f6, f7, Int.toNat_natCast, hget, u8_eql, b8_eq, ↓SXd, SXu, slBounds, ↓sop, ↓aop, ↓reduceIte, LV.cells, AOp.dst, LV.I, LV.B, LV.U, LV.S, LV.nil, Nat.reduceEqDiff, Nat.reduceAdd, Nat.reduceMul, Nat.reduceSub, Nat.reduceLeDiff, Nat.reduceBEq, Nat.reduceDiv, Nat.reduceMod, Int.reduceToNat, Int.reduceLT, Int.reduceLE, Int.reduceAdd, Int.reduceSub, Int.reduceMul, Int.reduceEq, Int.reduceNeg, reduceCtorEq, resV, resAll, ARes.ev, LV.flat, ite_true, ite_false, exists_eq_left', exists_eq_left, keyOf, implies_true, fillC, capOf]
    refine condC_dec (fun he => ?_) (fun he => ?_)
    · have he' : (s.data.toList.drop k)[i] = c := UInt8.toNat_inj.1 (by omega)
      have hil' : i < (s.extract k s.size).data.toList.length := by rw [hrl]; exact hil
      have hwr := words_hit (c := c) (r := s.extract k s.size) hil' (by simp only [hrl]; exact he') (by rw [hrl]; exact hno)
      have e1 : (s.extract k s.size).extract 0 i = s.extract k (k + i) := ba_ext (by
        rw [ba_extract _ 0 i, hrl, ba_extract s, List.drop_zero, List.drop_take]; congr 1; omega)
      have hsz : (s.extract k s.size).size = s.size - k := by rw [ba_size, hrl, hdl]
      have e2 : (s.extract k s.size).extract (i + 1) (s.extract k s.size).size = s.extract (k + i + 1) s.size := ba_ext (by
        rw [ba_extract _ (i + 1) _, hrl, hsz, ← hdl, List.take_length, List.drop_drop, ba_extract s, ← hsl, List.take_length]; congr 1)
      rw [e1, e2] at hwr
      have tk : ((k : Int) + (i : Int)).toNat = k + i := by omega
      simp (disch := omega) only [f0, f1, f5, f6, f7, Int.toNat_natCast, tk, ↓SXd, SXu, slBounds, ↓sop, ↓aop, ↓reduceIte, LV.cells, AOp.dst, LV.I, LV.B, LV.U, LV.S, LV.nil, Nat.reduceEqDiff, Nat.reduceAdd, Nat.reduceMul, Nat.reduceSub, Nat.reduceLeDiff, Nat.reduceBEq, Nat.reduceDiv, Nat.reduceMod, Int.reduceToNat, Int.reduceLT, Int.reduceLE, Int.reduceAdd, Int.reduceSub, Int.reduceMul, Int.reduceEq, Int.reduceNeg, reduceCtorEq, resV, resAll, ARes.ev, LV.flat, ite_true, ite_false, exists_eq_left', exists_eq_left, keyOf, implies_true, fillC, capOf]
      refine appendK_1 (n := ws.length) b (by rw [strL_len]; omega) rfl (by omega) (by omega) (by omega) fun N k1 k2 k3 => ?_
      simp (disch := omega) only [f0, f1, f5, f6, f7, ↓SXd, SXu, slBounds, ↓sop, ↓aop, ↓reduceIte, LV.cells, AOp.dst, LV.I, LV.B, LV.U, LV.S, LV.nil, Nat.reduceEqDiff, Nat.reduceAdd, Nat.reduceMul, Nat.reduceSub, Nat.reduceLeDiff, Nat.reduceBEq, Nat.reduceDiv, Nat.reduceMod, Int.reduceToNat, Int.reduceLT, Int.reduceLE, Int.reduceAdd, Int.reduceSub, Int.reduceMul, Int.reduceEq, Int.reduceNeg, reduceCtorEq, resV, resAll, ARes.ev, LV.flat, ite_true, ite_false, exists_eq_left', exists_eq_left, keyOf, implies_true, fillC, capOf]
      refine ⟨m - 1, by omega, 0, k + i + 1, _, ws ++ [s.extract k (k + i)], by omega, by rw [List.length_append, List.length_singleton]; omega, by rw [hwd, hwr, List.append_assoc]; rfl, by simp, pre_step hpre hu k1 k3, ?_, by rw [strL_append]; exact k2, f0, f1, by rw [List.length_append]; rfl, eqI (natI _), eqI (natI _)⟩
      have := hpre.1; omega
    · simp (disch := omega) only [f0, f1, f5, f6, f7, ↓SXd, SXu, slBounds, ↓sop, ↓aop, ↓reduceIte, LV.cells, AOp.dst, LV.I, LV.B, LV.U, LV.S, LV.nil, Nat.reduceEqDiff, Nat.reduceAdd, Nat.reduceMul, Nat.reduceSub, Nat.reduceLeDiff, Nat.reduceBEq, Nat.reduceDiv, Nat.reduceMod, Int.reduceToNat, Int.reduceLT, Int.reduceLE, Int.reduceAdd, Int.reduceSub, Int.reduceMul, Int.reduceEq, Int.reduceNeg, reduceCtorEq, resV, resAll, ARes.ev, LV.flat, ite_true, ite_false, exists_eq_left', exists_eq_left, keyOf, implies_true, fillC, capOf]
      refine ⟨m - 1, by omega, i + 1, k, u, ws, by omega, hwk, hwd, ?_, hpre, hu, b, f0, f1, f5, f6, eqI (natI _)⟩
      rw [hrl, List.take_succ_eq_append_getElem hil]
      intro hm
      rcases List.mem_append.1 hm with hm | hm
      · exact hno hm
      · exact he (by rw [← List.mem_singleton.1 hm])
  · have hm0 : m = 0 := by omega
    have hfi : c ∉ (s.extract k s.size).data.toList := by
      rw [hrl]
      rwa [List.take_of_length_le (by omega)] at hno
    have hks : k ≤ s.size := by omega
    rw [words_miss hfi] at hwd
    simp (disch := omega) only [f0, f1, f5, f6, f7, Int.toNat_natCast, ↓SXd, SXu, slBounds, ↓sop, ↓aop, ↓reduceIte, LV.cells, AOp.dst, LV.I, LV.B, LV.U, LV.S, LV.nil, Nat.reduceEqDiff, Nat.reduceAdd, Nat.reduceMul, Nat.reduceSub, Nat.reduceLeDiff, Nat.reduceBEq, Nat.reduceDiv, Nat.reduceMod, Int.reduceToNat, Int.reduceLT, Int.reduceLE, Int.reduceAdd, Int.reduceSub, Int.reduceMul, Int.reduceEq, Int.reduceNeg, reduceCtorEq, resV, resAll, ARes.ev, LV.flat, ite_true, ite_false, exists_eq_left', exists_eq_left, keyOf, implies_true, fillC, capOf]
    refine appendK_1 (n := ws.length) b (by rw [strL_len]; omega) rfl (by omega) (by omega) (by omega) fun N k1 k2 k3 => ?_
    simp (disch := omega) only [f0, f1, f5, f6, f7, ↓SXd, SXu, slBounds, ↓sop, ↓aop, ↓reduceIte, LV.cells, AOp.dst, LV.I, LV.B, LV.U, LV.S, LV.nil, Nat.reduceEqDiff, Nat.reduceAdd, Nat.reduceMul, Nat.reduceSub, Nat.reduceLeDiff, Nat.reduceBEq, Nat.reduceDiv, Nat.reduceMod, Int.reduceToNat, Int.reduceLT, Int.reduceLE, Int.reduceAdd, Int.reduceSub, Int.reduceMul, Int.reduceEq, Int.reduceNeg, reduceCtorEq, resV, resAll, ARes.ev, LV.flat, ite_true, ite_false, exists_eq_left', exists_eq_left, keyOf, implies_true, fillC, capOf]
    exact ⟨M'.length + 1, by rw [hwd, List.length_append]; rfl, by rw [hwd, strL_append]; exact k2, by have := hpre.1; omega, pre_step hpre hu k1 k3⟩
end
end Go.Ab

namespace Go.Ab.C
open Go.Ab
end Go.Ab.C

namespace Go.Ab.K
open Go Go.Ab
end Go.Ab.K

namespace Go.Ab.C
open Go.Ab
end Go.Ab.C

namespace Go.Ab.K
open Go Go.Ab
end Go.Ab.K

namespace Go.Ab.C
open Go.Ab
end Go.Ab.C

namespace Go.Ab.K
open Go Go.Ab
end Go.Ab.K

namespace Go.Ab.C
open Go.Ab
end Go.Ab.C

namespace Go.Ab.K
open Go Go.Ab
end Go.Ab.K

namespace Go.Ab.C
open Go.Ab
end Go.Ab.C

namespace Go.Ab.K
open Go Go.Ab
end Go.Ab.K

namespace Go.Ab.C
open Go.Ab
end Go.Ab.C

namespace Go.Ab.K
open Go Go.Ab
end Go.Ab.K

namespace Go.Ab.C
open Go.Ab
end Go.Ab.C

namespace Go.Ab.K
open Go Go.Ab
end Go.Ab.K

namespace Go.Ab
open Go

def ShdRes (M : Mem) (x y z : Int) (tp fr sd : List Int) (v : LV) (N : Mem) : Prop := ∃ a b c : Nat, v = .agg [.I x, .I y, .I z, .ref a 0 tp.length, .ref b 0 fr.length, .ref c 0 sd.length] ∧ M.length ≤ a ∧ M.length ≤ b ∧ M.length ≤ c ∧ a ≠ b ∧ a ≠ c ∧ b ≠ c ∧
  Live N a (.row (intL tp) true 1) ∧ Live N b (.row (intL fr) true 1) ∧ Live N c (.row (intL sd) true 1) ∧ Pre M N
end Go.Ab

namespace Go.Ab.C
open Go.Ab
end Go.Ab.C

namespace Go.Ab.K
open Go Go.Ab
end Go.Ab.K

namespace Go.Ab
open Go

end Go.Ab

namespace Go.Ab
open Go

def Ones (xs : List Int) : Prop := ∀ v ∈ xs, 0 ≤ v ∧ v ≤ 1
instance (xs : List Int) : Decidable (Ones xs) := by unfold Ones; exact inferInstance
def ShdOK (x y z : Int) (tp fr sd : List Int) : Prop := Sides x y z ∧ (Ones tp ∧ (tp.length : Int) = x * y) ∧ (Ones fr ∧ (fr.length : Int) = x * z) ∧ (Ones sd ∧ (sd.length : Int) = y * z)
instance (x y z : Int) (tp fr sd : List Int) : Decidable (ShdOK x y z tp fr sd) := by unfold ShdOK; exact inferInstance
end Go.Ab

namespace Go.Ab.C
open Go.Ab
end Go.Ab.C

namespace Go.Ab.K
open Go Go.Ab
end Go.Ab.K

namespace Go.Ab
open Go

section
variable {x y z : Int} (hS : Sides x y z)
include hS

end

def nbrs (c : Cell) : List Cell := [⟨c.a + -1, c.b, c.c⟩, ⟨c.a + 1, c.b, c.c⟩, ⟨c.a, c.b + -1, c.c⟩, ⟨c.a, c.b + 1, c.c⟩, ⟨c.a, c.b, c.c + -1⟩, ⟨c.a, c.b, c.c + 1⟩]
section
variable {x y z : Int} (hS : Sides x y z)
include hS
end
end Go.Ab

namespace Go.Ab
open Go

def shdList (d : Nat) (tp fr sd : List Int) : List Int := if d = 0 then sd else if d = 1 then fr else tp
def linesOf (x y z : Int) (d : Nat) : Int := if d = 0 then y * z else if d = 1 then x * z else x * y
end Go.Ab

namespace Go.Ab
open Go

def lineOf (y z : Int) (c : Cell) (d : Nat) : Int := if d = 0 then c.b * z + c.c else if d = 1 then c.a * z + c.c else c.a * y + c.b
end Go.Ab

namespace Go.Ab
open Go

def litK (y z : Int) (tp fr sd : List Int) (k : Nat) (c : Cell) : Bool := decide (∀ j, j < k → (shdList j tp fr sd).getD (lineOf y z c j).toNat 0 ≠ 0)
def allowedB (y z : Int) (tp fr sd : List Int) (c : Cell) : Bool := litK y z tp fr sd 3 c
theorem ShdOK.list {x y z : Int} {tp fr sd : List Int} (h : ShdOK x y z tp fr sd) {d : Nat} (hd : d < 3) : Ones (shdList d tp fr sd) ∧ ((shdList d tp fr sd).length : Int) = linesOf x y z d := by
  obtain ⟨_, a1, a2, a3⟩ := h
  rcases (show d = 0 ∨ d = 1 ∨ d = 2 by omega) with rfl | rfl | rfl
  · exact a3
  · exact a2
  · exact a1

end Go.Ab

namespace Go.Ab.C
open Go.Ab
end Go.Ab.C

namespace Go.Ab.K
open Go Go.Ab
end Go.Ab.K

namespace Go.Ab.C
open Go.Ab
end Go.Ab.C

namespace Go.Ab.K
open Go Go.Ab
end Go.Ab.K

namespace Go.Ab
open Go

theorem Tri.take {M : Mem} {t o k : Nat} {cs : List Cell} (h : Tri M t o cs) (hk : k ≤ cs.length) : Tri M t o (cs.take k) := by
  obtain ⟨row, h1, h2, h3⟩ := h
  rw [triL_len] at h2 h3
  have hl : (cs.take k).length = k := by simp; omega
  refine ⟨row, h1, by rw [triL_len, hl]; omega, ?_⟩
  rw [triL_len, hl, ← triL_take, ← h3, List.take_take, Nat.min_eq_left (by omega)]
theorem Tri.drop {M : Mem} {t o k : Nat} {cs : List Cell} (h : Tri M t o cs) (hk : k ≤ cs.length) : Tri M t (o + k * 3) (cs.drop k) := by
  obtain ⟨row, h1, h2, h3⟩ := h
  rw [triL_len] at h2 h3
  have hl : (cs.drop k).length = cs.length - k := by simp
  refine ⟨row, h1, by rw [triL_len, hl]; omega, ?_⟩
  rw [triL_len, hl, ← triL_drop, ← h3, List.drop_take, List.drop_drop]
  congr 1
  omega
theorem Tri.all {M : Mem} {t o n : Nat} {cs : List Cell} (h : Tri M t o cs) (hn : n = cs.length) : getCells M t o (n * 3) = some (triL cs) := by
  have := Has.all h
  rw [triL_len] at this; rw [hn]; exact this

end Go.Ab

namespace Go.Ab

inductive Reach (x y z : Int) (p q : Cell → Bool) : Cell → Prop
  | base {c : Cell} : c.inBox x y z → p c = true → Reach x y z p q c
  | step {c d : Cell} : Reach x y z p q c → apart c d = 1 → d.inBox x y z → q d = true → Reach x y z p q d
noncomputable def reach (x y z : Int) (p q : Cell → Bool) : Cell → Bool := fun c => @decide (Reach x y z p q c) (Classical.propDecidable _)
theorem reach_iff {x y z : Int} {p q : Cell → Bool} {c : Cell} : reach x y z p q c = true ↔ Reach x y z p q c := by
  unfold reach; exact @decide_eq_true_iff _ (Classical.propDecidable _)
theorem Reach.inBox {x y z : Int} {p q : Cell → Bool} {c : Cell} (h : Reach x y z p q c) : c.inBox x y z := by
  cases h <;> assumption
theorem Reach.mono {x y z : Int} {p q p' q' : Cell → Bool} (hp : ∀ c, c.inBox x y z → p c = true → Reach x y z p' q' c) (hq : ∀ c, c.inBox x y z → q c = true → q' c = true) {c : Cell} (h : Reach x y z p q c) : Reach x y z p' q' c := by
  induction h with
  | base h1 h2 => exact hp _ h1 h2
  | step _ h2 h3 h4 ih => exact .step ih h2 h3 (hq _ h3 h4)
theorem Reach.ind {x y z : Int} {p q : Cell → Bool} {P : Cell → Prop} (h0 : ∀ c, c.inBox x y z → p c = true → P c) (h1 : ∀ c d, P c → apart c d = 1 → d.inBox x y z → q d = true → P d) {c : Cell} (h : Reach x y z p q c) : P c := by
  induction h with
  | base h2 h3 => exact h0 _ h2 h3
  | step _ h2 h3 h4 ih => exact h1 _ _ ih h2 h3 h4
noncomputable def growK (y z : Int) (p q : Cell → Bool) (k : Nat) : Cell → Bool := by
  classical
  exact fun c => p c || (q c && decide (∃ j, j < k ∧ p (cellAt y z j) = true ∧ apart (cellAt y z j) c = 1))
section
variable {x y z : Int} (hS : Sides x y z)
include hS
def rest (x y z : Int) (p : Cell → Bool) : Nat := (pick x y z fun c => !p c).length
end
end Go.Ab

namespace Go.Ab
open Go

noncomputable def parts (x y z : Int) : Nat → (Cell → Bool) → List (List Cell)
  | 0, _ => []
  | f + 1, q => match pick x y z q with
    | [] => []
    | c :: _ => pick x y z (reach x y z (fun d => decide (d = c)) q) :: parts x y z f fun d => q d && !reach x y z (fun d => decide (d = c)) q d

def Css (N : Mem) (lo hi : Nat) : List LV → List (List Cell) → Prop
  | [], [] => True
  | r :: rs, l :: ls => ∃ u, lo ≤ u ∧ u < hi ∧ r = .ref u 0 l.length ∧ Live N u (.row (triL l) true 3) ∧ Css N (u + 1) hi rs ls
  | _, _ => False

theorem Css.len {N : Mem} {hi : Nat} : ∀ {lo : Nat} {rs : List LV} {ls : List (List Cell)}, Css N lo hi rs ls → rs.length = ls.length
  | _, [], [], _ => rfl
  | _, [], _ :: _, h => h.elim
  | _, _ :: _, [], h => h.elim
  | _, r :: rs, l :: ls, ⟨u, _, _, _, _, h⟩ => by simp [Css.len h]
theorem Css.mono {N N' : Mem} {hi hi' : Nat} (hh : hi ≤ hi') : ∀ {lo lo' : Nat} {rs : List LV} {ls : List (List Cell)}, lo' ≤ lo → (∀ u l, lo ≤ u → u < hi → Live N u (.row (triL l) true 3) → Live N' u (.row (triL l) true 3)) → Css N lo hi rs ls → Css N' lo' hi' rs ls
  | _, _, [], [], _, _, _ => trivial
  | _, _, [], _ :: _, _, _, h => h.elim
  | _, _, _ :: _, [], _, _, h => h.elim
  | lo, lo', r :: rs, l :: ls, hl, hk, ⟨u, h1, h2, h3, h4, h5⟩ => ⟨u, by omega, by omega, h3, hk u l h1 h2 h4, h5.mono hh (Nat.le_refl _) fun v l h6 h7 => hk v l (by omega) h7⟩
theorem Css.get {N : Mem} {hi : Nat} : ∀ {lo k : Nat} {rs : List LV} {ls : List (List Cell)}, Css N lo hi rs ls → k < ls.length → ∃ u, lo ≤ u ∧ u < hi ∧ rs[k]? = some (.ref u 0 (ls.getD k []).length) ∧ Live N u (.row (triL (ls.getD k [])) true 3)
  | _, k, [], [], _, hk => by simp at hk
  | _, _, [], _ :: _, h, _ => h.elim
  | _, _, _ :: _, [], h, _ => h.elim
  | lo, 0, r :: rs, l :: ls, ⟨u, h1, h2, h3, h4, _⟩, _ => ⟨u, h1, h2, by rw [h3]; rfl, h4⟩
  | lo, k + 1, r :: rs, l :: ls, ⟨u, h1, h2, h3, h4, h5⟩, hk => by
    obtain ⟨v, k1, k2, k3, k4⟩ := h5.get (k := k) (by simpa using hk)
    exact ⟨v, by omega, k2, by simpa using k3, k4⟩
theorem Css.keep {M M' : Mem} {lo hi t : Nat} {rs : List LV} {ls : List (List Cell)} (h : Css M lo hi rs ls) (ht : (hi ≤ t ∨ t < lo) ∨ ∃ cs w e, Live M t (.row cs w e) ∧ e ≠ 3) (hu : ∀ u, u ≠ t → u < M.length → M'[u]? = M[u]?) : Css M' lo hi rs ls :=
  h.mono (Nat.le_refl _) (Nat.le_refl _) fun u l h1 h2 hL => by
    refine live_step hL (fun e => ?_) hu
    subst e
    rcases ht with h3 | ⟨cs, w, e, h3, h4⟩
    · omega
    · unfold Live at hL h3; rw [hL] at h3; cases h3; exact h4 rfl
theorem Css.pre {M N : Mem} {lo hi : Nat} {rs : List LV} {ls : List (List Cell)} (h : Css M lo hi rs ls) (hp : Pre M N) : Css N lo hi rs ls := h.mono (Nat.le_refl _) (Nat.le_refl _) fun _ _ _ _ hL => hL.pre hp

end Go.Ab

namespace Go.Ab
open Go

structure Que (x y z : Int) (q : Cell → Bool) (c : Cell) (n : Nat) (l : List Cell) : Prop where
  nodup : l.Nodup
  mem : ∀ d ∈ l, d.inBox x y z ∧ q d = true ∧ Reach x y z (fun d => decide (d = c)) q d
  start : c ∈ l
  done : ∀ i, i < n → i < l.length → ∀ e, e.inBox x y z → q e = true → apart (l.getD i default) e = 1 → e ∈ l

theorem Que.reach {x y z : Int} {q : Cell → Bool} {c : Cell} {n : Nat} {l : List Cell} (h : Que x y z q c n l) (hn : l.length ≤ n) {d : Cell} : d ∈ l ↔ reach x y z (fun d => decide (d = c)) q d = true := by
  rw [reach_iff]
  refine ⟨fun hd => (h.mem d hd).2.2, fun hd => ?_⟩
  refine hd.ind (P := fun d => d ∈ l) (fun e _ he => ?_) fun a b ha hab hb hq => ?_
  · rw [of_decide_eq_true he]; exact h.start
  · obtain ⟨i, hi, rfl⟩ := List.getElem_of_mem ha
    exact h.done i (by omega) hi b hb hq (by simpa [hi] using hab)

end Go.Ab

namespace Go.Ab
open Go
set_option maxRecDepth 20000

end Go.Ab

namespace Go.Ab.C
open Go.Ab
end Go.Ab.C

namespace Go.Ab.K
open Go Go.Ab
end Go.Ab.K

namespace Go.Ab
open Go

theorem SlC.at {M N : Mem} {w : LV} {l : List Cell} (h : SlC M w l) (hk : ∀ t o n, w = .ref t o n → N[t]? = M[t]?) : SlC N w l := by
  rcases h with h | ⟨t, ex, h1, h2⟩
  · exact .inl h
  · refine .inr ⟨t, ex, h1, ?_⟩
    unfold Live; rw [hk _ _ _ h1]; exact h2
theorem Live.at {M N : Mem} {t : Nat} {b : Blk} (h : Live M t b) (hk : N[t]? = M[t]?) : Live N t b := by unfold Live; rw [hk]; exact h

def Pre3 (a b c : Nat) (M N : Mem) : Prop := M.length ≤ N.length ∧ ∀ u, u < M.length → u ≠ a → u ≠ b → u ≠ c → N[u]? = M[u]?
theorem Pre3.live {a b c : Nat} {M N : Mem} {t : Nat} {bl : Blk} (hp : Pre3 a b c M N) (h : Live M t bl) (h1 : t ≠ a) (h2 : t ≠ b) (h3 : t ≠ c) : Live N t bl := h.at (hp.2 t h.lt h1 h2 h3)
theorem Pre3.slC {a b c : Nat} {M N : Mem} {w : LV} {l : List Cell} (hp : Pre3 a b c M N) (h : SlC M w l) (h1 : Off w a) (h2 : Off w b) (h3 : Off w c) : SlC N w l := h.at fun t o n e => by
  subst e
  exact hp.2 t (h.older _ _ _ rfl) (fun e => h1 e.symm) (fun e => h2 e.symm) (fun e => h3 e.symm)
theorem Pre3.pre {a b c : Nat} {M0 M N : Mem} (hp : Pre3 a b c M N) (h : Pre M0 M) (h1 : M0.length ≤ a) (h2 : M0.length ≤ b) (h3 : M0.length ≤ c) : Pre M0 N := ⟨Nat.le_trans h.1 hp.1, fun u hu => by rw [hp.2 u (Nat.lt_of_lt_of_le hu h.1) (by omega) (by omega) (by omega)]; exact h.2 u hu⟩

end Go.Ab

namespace Go.Ab
open Go
set_option maxRecDepth 20000

def byL (bs : List Nat) : List LV := bs.map fun (b : Nat) => LV.val (.int .u8 (b : Int))
theorem byL_len (bs : List Nat) : (byL bs).length = bs.length := by simp [byL]
def Bytes (M : Mem) (t o : Nat) (bs : List Nat) : Prop := Has M t o (byL bs)
theorem Bytes.get {M : Mem} {t o k : Nat} {bs : List Nat} (h : Bytes M t o bs) (hk : k < bs.length) : getCell M t (o + k) = some (.val (.int .u8 ((bs.getD k 0 : Nat) : Int))) := by
  rw [Has.get h (by rw [byL_len]; exact hk)]
  simp [byL, hk]
def CurAt (M : Mem) (p t o : Nat) (bs : List Nat) (a : Nat) : Prop := (∃ (i : Nat) (s : Int), i ≤ a ∧ Live M p (.row [.ref t o bs.length, .I i, .val (.int .u64 s)] true 0)) ∧ Bytes M t o bs ∧ t ≠ p ∧ (∀ b ∈ bs, b ≤ 255) ∧ bs.length ≤ 1000000000
def DrawN (M : Mem) (p t o : Nat) (bs : List Nat) (a : Nat) (N : Mem) : Prop := CurAt N p t o bs a ∧ M.length ≤ N.length ∧ ∀ q, q < M.length → q ≠ p → N[q]? = M[q]?
theorem Has.at' {M N : Mem} {t o : Nat} {vs : List LV} (h : Has M t o vs) (hk : N[t]? = M[t]?) : Has N t o vs := by
  obtain ⟨row, h1, h2⟩ := h
  refine ⟨row, ?_, h2⟩
  unfold getRow at *
  rw [hk]; exact h1
theorem CurAt.keep {M N : Mem} {p t o : Nat} {bs : List Nat} {a b : Nat} (h : CurAt M p t o bs a) (hk : ∀ q, q < M.length → N[q]? = M[q]?) (hab : a ≤ b) : CurAt N p t o bs b := by
  obtain ⟨⟨i, s, h1, h2⟩, h3, h4⟩ := h
  exact ⟨⟨i, s, by omega, Live.at h2 (hk _ h2.lt)⟩, Has.at' h3 (hk _ h3.lt), h4⟩
theorem DrawN.trans {M N N' : Mem} {p t o : Nat} {bs : List Nat} {a b : Nat} (h : DrawN M p t o bs a N) (k : DrawN N p t o bs b N') : DrawN M p t o bs b N' :=
  ⟨k.1, Nat.le_trans h.2.1 k.2.1, fun q h1 h2 => by rw [k.2.2 q (Nat.lt_of_lt_of_le h1 h.2.1) h2]; exact h.2.2 q h1 h2⟩
theorem CurAt.pre {M N : Mem} {p t o : Nat} {bs : List Nat} {a : Nat} (h : CurAt M p t o bs a) (hp : Pre M N) : CurAt N p t o bs a := h.keep hp.2 (Nat.le_refl _)
section
variable {p t o a : Nat} {bs : List Nat} {M : Mem}
end
end Go.Ab

namespace Go.Ab
open Go
set_option maxRecDepth 20000

theorem cond_cut {P : Program} {v : LV} {a b c : ACode} {fr : Fr} {M : Mem} {Q : AExit → Fr → Mem → Prop} (I : Fr → Mem → Prop) (h : condC v P a b fr M (thenK I Q)) (hb : ∀ fr M, I fr M → EvC P c fr M Q) : condC v P a b fr M (seqK P c Q) := by
  have hm : ∀ e fr M, thenK I Q e fr M → seqK P c Q e fr M := fun e fr M hh => by
    cases e with
    | normal => exact hb _ _ hh
    | exit i => exact hh
    | ret => exact hh
  have key : ∀ {A A' B B' : Prop}, (A → A') → (B → B') → condV v A B → condV v A' B' := fun {A A' B B'} h1 h2 h => by
    unfold condV at *
    split
    · exact ⟨fun e => h1 (h.1 e), fun e => h2 (h.2 e)⟩
    · rename_i hne
      split at h
      · exact (hne _ rfl).elim
      · exact h
  exact key (evc_mono hm) (evc_mono hm) h
theorem IntsV.lenV {N : Mem} {v : LV} {l : List Int} (h : IntsV N v l) : lenV v = some (l.length : Int) := by
  rcases h with ⟨rfl, rfl⟩ | ⟨t, o, rfl, _⟩ <;> rfl
theorem IntsV.at {N : Mem} {v : LV} {l : List Int} {k : Nat} (h : IntsV N v l) (hk : k < l.length) : ∃ t o, v = .ref t o l.length ∧ getCell N t (o + k) = some (.I (l.getD k 0)) := by
  rcases h with ⟨rfl, rfl⟩ | ⟨t, o, rfl, h⟩
  · simp at hk
  · exact ⟨t, o, rfl, Ints.get h hk⟩
end Go.Ab

namespace Go.Ab
open Go
set_option maxRecDepth 20000

theorem u8_id {n : Int} (h : 0 ≤ n ∧ n ≤ 255) : IntKind.u8.wrap n = n := by
  obtain ⟨k, rfl⟩ : ∃ k : Nat, n = k := ⟨n.toNat, by omega⟩
  unfold IntKind.wrap
  simp only [IntKind.bits, IntKind.signed, Bool.false_and, Bool.false_eq_true, if_false]
  omega
theorem szM : (ByteArray.mk #[45]).size = 1 := rfl
theorem r_l1Num : ∀ (k : Nat) {M : Mem}, k ≤ 999999 → CallsR PG F.spec_l1Num [.I (k : Nat)] M fun v N => N = M ∧ ∃ t : ByteArray, v = .S t ∧ t.size ≤ k + 1 ∧ (k < 10 → t = dgS k) := by
  intro k
  induction k using Nat.strongRecOn with
  | _ k ih =>
    intro M hk
    by_cases h : k < 10
    · refine (h_l1Num (n := (k : Int)) ⟨by omega, by omega⟩).mono fun v N e => ?_
      obtain ⟨rfl, rfl⟩ := e
      exact ⟨rfl, _, rfl, by rw [dgS_size]; omega, fun _ => rfl⟩
    · have hq : (k : Int).tdiv 10 = ((k / 10 : Nat) : Int) := by rw [Int.tdiv_eq_ediv_of_nonneg (by omega)]; omega
      have hr : (k : Int).tmod 10 = ((k % 10 : Nat) : Int) := by rw [Int.tmod_eq_emod_of_nonneg (by omega)]; omega
      have hr1 : (((k % 10 : Nat) : Int) + 1).toNat = k % 10 + 1 := by omega
      have hr0 : k % 10 < 10 := by omega
      have hq0 : k / 10 < k := by omega
      refine callsR_run K.spec_l1Num rfl ?_
      simp (disch := omega) only [C.spec_l1Num, sz10, hq, hr, ↓SXd, SXu, slBounds, ↓sop, ↓aop, ↓reduceIte, LV.cells, AOp.dst, LV.I, LV.B, LV.U, LV.S, LV.nil, Nat.reduceEqDiff, Nat.reduceAdd, Nat.reduceMul, Nat.reduceSub, Nat.reduceLeDiff, Nat.reduceBEq, Nat.reduceDiv, Nat.reduceMod, Int.reduceToNat, Int.reduceLT, Int.reduceLE, Int.reduceAdd, Int.reduceSub, Int.reduceMul, Int.reduceEq, Int.reduceNeg, reduceCtorEq, resV, resAll, ARes.ev, LV.flat, ite_true, ite_false, exists_eq_left', exists_eq_left, keyOf, implies_true, fillC, capOf]
      refine callR_of (ih (k / 10) hq0 (by omega)) ?_
      rintro _ N ⟨rfl, t, rfl, ht, _⟩
      simp (disch := omega) only [sz10, hr1, dig10, bvs_add, dgS_size, ↓SXd, SXu, slBounds, ↓sop, ↓aop, ↓reduceIte, LV.cells, AOp.dst, LV.I, LV.B, LV.U, LV.S, LV.nil, Nat.reduceEqDiff, Nat.reduceAdd, Nat.reduceMul, Nat.reduceSub, Nat.reduceLeDiff, Nat.reduceBEq, Nat.reduceDiv, Nat.reduceMod, Int.reduceToNat, Int.reduceLT, Int.reduceLE, Int.reduceAdd, Int.reduceSub, Int.reduceMul, Int.reduceEq, Int.reduceNeg, reduceCtorEq, resV, resAll, ARes.ev, LV.flat, ite_true, ite_false, exists_eq_left', exists_eq_left, keyOf, implies_true, fillC, capOf]
      exact ⟨rfl, _, rfl, by rw [ByteArray.size_append, dgS_size]; omega, fun e => absurd e h⟩
theorem r_l1NumI {n : Int} {M : Mem} (h : -999999 ≤ n ∧ n ≤ 999999) : CallsR PG F.spec_l1Num [.I n] M fun v N => N = M ∧ ∃ t : ByteArray, v = .S t ∧ (0 ≤ n ∧ n < 10 → t = dgS n.toNat) := by
  by_cases h0 : 0 ≤ n
  · obtain ⟨k, rfl⟩ : ∃ k : Nat, n = k := ⟨n.toNat, by omega⟩
    refine (r_l1Num k (by omega)).mono fun v N e => ?_
    obtain ⟨rfl, t, rfl, _, h2⟩ := e
    exact ⟨rfl, t, rfl, fun hh => h2 (by omega)⟩
  · obtain ⟨k, rfl⟩ : ∃ k : Nat, n = -(k : Int) := ⟨n.natAbs, by omega⟩
    have hneg : (0 : Int) - -(k : Int) = k := by omega
    refine callsR_run K.spec_l1Num rfl ?_
    simp (disch := omega) only [C.spec_l1Num, hneg, ↓SXd, SXu, slBounds, ↓sop, ↓aop, ↓reduceIte, LV.cells, AOp.dst, LV.I, LV.B, LV.U, LV.S, LV.nil, Nat.reduceEqDiff, Nat.reduceAdd, Nat.reduceMul, Nat.reduceSub, Nat.reduceLeDiff, Nat.reduceBEq, Nat.reduceDiv, Nat.reduceMod, Int.reduceToNat, Int.reduceLT, Int.reduceLE, Int.reduceAdd, Int.reduceSub, Int.reduceMul, Int.reduceEq, Int.reduceNeg, reduceCtorEq, resV, resAll, ARes.ev, LV.flat, ite_true, ite_false, exists_eq_left', exists_eq_left, keyOf, implies_true, fillC, capOf]
    refine callR_of (r_l1Num k (by omega)) ?_
    rintro _ N ⟨rfl, t, rfl, ht, _⟩
    simp (disch := omega) only [bvs_add, szM, ↓SXd, SXu, slBounds, ↓sop, ↓aop, ↓reduceIte, LV.cells, AOp.dst, LV.I, LV.B, LV.U, LV.S, LV.nil, Nat.reduceEqDiff, Nat.reduceAdd, Nat.reduceMul, Nat.reduceSub, Nat.reduceLeDiff, Nat.reduceBEq, Nat.reduceDiv, Nat.reduceMod, Int.reduceToNat, Int.reduceLT, Int.reduceLE, Int.reduceAdd, Int.reduceSub, Int.reduceMul, Int.reduceEq, Int.reduceNeg, reduceCtorEq, resV, resAll, ARes.ev, LV.flat, ite_true, ite_false, exists_eq_left', exists_eq_left, keyOf, implies_true, fillC, capOf]
    exact ⟨rfl, _, rfl, fun hh => absurd hh.1 h0⟩
def numF (l : List UInt8) : Int := l.foldl (fun v b => 10 * v + ((b.toNat : Int) - 48)) 0
theorem numF_snoc {l : List UInt8} {b : UInt8} : numF (l ++ [b]) = 10 * numF l + ((b.toNat : Int) - 48) := by
  unfold numF; rw [List.foldl_append]; rfl
theorem numF_dg {k : Nat} (h : k < 10) : numF (dgS k).data.toList = k := by
  show 10 * 0 + (((UInt8.ofNat (48 + k)).toNat : Int) - 48) = k
  rw [UInt8.toNat_ofNat']; omega
theorem seq_cut {P : Program} {a c : ACode} {fr : Fr} {M : Mem} {Q : AExit → Fr → Mem → Prop} (I : Fr → Mem → Prop) (h : EvC P a fr M (thenK I Q)) (hb : ∀ fr M, I fr M → EvC P c fr M Q) : EvC P (.seq a c) fr M Q := by
  rw [evc_seq]
  refine evc_mono (fun e fr M hh => ?_) h
  cases e with
  | normal => exact hb _ _ hh
  | exit i => exact hh
  | ret => exact hh
def rdA (M : Mem) (s : ByteArray) (fr : Fr) (M' : Mem) : Prop := M' = M ∧ fr 0 = .S s
def rdB (M : Mem) (s : ByteArray) (fr : Fr) (M' : Mem) : Prop := M' = M ∧ fr 0 = .S s ∧ fr 4 = .S s
def rdC (M : Mem) (s : ByteArray) (fr : Fr) (M' : Mem) : Prop := ∃ t : ByteArray, M' = M ∧ fr 0 = .S s ∧ fr 4 = .S t ∧ t.size ≤ s.size ∧ ∀ k, k < 10 → s = dgS k → t = s
def rdD (M : Mem) (s : ByteArray) (fr : Fr) (M' : Mem) : Prop := ∃ n : Int, M' = M ∧ fr 0 = .S s ∧ fr 5 = .I n ∧ (-999999 ≤ n ∧ n ≤ 999999) ∧ ∀ k, k < 10 → s = dgS k → n = (k : Int)
theorem r_l1Read {s : ByteArray} {M : Mem} (hs : s.size ≤ 1048576) : CallsR PG F.spec_l1Read [.S s] M fun v N => N = M ∧ ∃ (n : Int) (ok : Bool), v = .tup [.I n, .B ok] ∧ ∀ k, k < 10 → s = dgS k → n = (k : Int) ∧ ok = true := by
  refine callsR_run K.spec_l1Read rfl ?_
  refine seq_cut (rdA M s) ?_ ?_
  · simp (disch := omega) only [↓SXd, SXu, slBounds, ↓sop, ↓aop, ↓reduceIte, LV.cells, AOp.dst, LV.I, LV.B, LV.U, LV.S, LV.nil, Nat.reduceEqDiff, Nat.reduceAdd, Nat.reduceMul, Nat.reduceSub, Nat.reduceLeDiff, Nat.reduceBEq, Nat.reduceDiv, Nat.reduceMod, Int.reduceToNat, Int.reduceLT, Int.reduceLE, Int.reduceAdd, Int.reduceSub, Int.reduceMul, Int.reduceEq, Int.reduceNeg, reduceCtorEq, resV, resAll, ARes.ev, LV.flat, ite_true, ite_false, exists_eq_left', exists_eq_left, keyOf, implies_true, fillC, capOf]
    exact ⟨rfl, rfl⟩
  rintro fr M ⟨rfl, f0⟩
  refine seq_cut (rdB M s) ?_ ?_
  · simp (disch := omega) only [f0, ↓SXd, SXu, slBounds, ↓sop, ↓aop, ↓reduceIte, LV.cells, AOp.dst, LV.I, LV.B, LV.U, LV.S, LV.nil, Nat.reduceEqDiff, Nat.reduceAdd, Nat.reduceMul, Nat.reduceSub, Nat.reduceLeDiff, Nat.reduceBEq, Nat.reduceDiv, Nat.reduceMod, Int.reduceToNat, Int.reduceLT, Int.reduceLE, Int.reduceAdd, Int.reduceSub, Int.reduceMul, Int.reduceEq, Int.reduceNeg, reduceCtorEq, resV, resAll, ARes.ev, LV.flat, ite_true, ite_false, exists_eq_left', exists_eq_left, keyOf, implies_true, fillC, capOf]
    exact ⟨rfl, f0, rfl⟩
  clear f0 fr
  rintro fr M ⟨rfl, f0, f4⟩
  refine seq_cut (rdC M s) ?_ ?_
  · simp (disch := omega) only [f0, f4, lenT_s, ↓SXd, SXu, slBounds, ↓sop, ↓aop, ↓reduceIte, LV.cells, AOp.dst, LV.I, LV.B, LV.U, LV.S, LV.nil, Nat.reduceEqDiff, Nat.reduceAdd, Nat.reduceMul, Nat.reduceSub, Nat.reduceLeDiff, Nat.reduceBEq, Nat.reduceDiv, Nat.reduceMod, Int.reduceToNat, Int.reduceLT, Int.reduceLE, Int.reduceAdd, Int.reduceSub, Int.reduceMul, Int.reduceEq, Int.reduceNeg, reduceCtorEq, resV, resAll, ARes.ev, LV.flat, ite_true, ite_false, exists_eq_left', exists_eq_left, keyOf, implies_true, fillC, capOf]
    by_cases h1 : (1 : Int) < s.size
    · simp (disch := omega) only [f0, f4, lenT_s, decide_eq_true, h1, ↓SXd, SXu, slBounds, ↓sop, ↓aop, ↓reduceIte, LV.cells, AOp.dst, LV.I, LV.B, LV.U, LV.S, LV.nil, Nat.reduceEqDiff, Nat.reduceAdd, Nat.reduceMul, Nat.reduceSub, Nat.reduceLeDiff, Nat.reduceBEq, Nat.reduceDiv, Nat.reduceMod, Int.reduceToNat, Int.reduceLT, Int.reduceLE, Int.reduceAdd, Int.reduceSub, Int.reduceMul, Int.reduceEq, Int.reduceNeg, reduceCtorEq, resV, resAll, ARes.ev, LV.flat, ite_true, ite_false, exists_eq_left', exists_eq_left, keyOf, implies_true, fillC, capOf]
      refine condC_dec (fun he => ?_) (fun he => ?_)
      · simp (disch := omega) only [f0, f4, lenT_s, ↓SXd, SXu, slBounds, ↓sop, ↓aop, ↓reduceIte, LV.cells, AOp.dst, LV.I, LV.B, LV.U, LV.S, LV.nil, Nat.reduceEqDiff, Nat.reduceAdd, Nat.reduceMul, Nat.reduceSub, Nat.reduceLeDiff, Nat.reduceBEq, Nat.reduceDiv, Nat.reduceMod, Int.reduceToNat, Int.reduceLT, Int.reduceLE, Int.reduceAdd, Int.reduceSub, Int.reduceMul, Int.reduceEq, Int.reduceNeg, reduceCtorEq, resV, resAll, ARes.ev, LV.flat, ite_true, ite_false, exists_eq_left', exists_eq_left, keyOf, implies_true, fillC, capOf]
        refine ⟨_, rfl, f0, rfl, by rw [ByteArray.size_extract]; omega, fun k hk e => ?_⟩
        rw [e, dgS_size] at h1
        omega
      · simp (disch := omega) only [f0, f4, ↓SXd, SXu, slBounds, ↓sop, ↓aop, ↓reduceIte, LV.cells, AOp.dst, LV.I, LV.B, LV.U, LV.S, LV.nil, Nat.reduceEqDiff, Nat.reduceAdd, Nat.reduceMul, Nat.reduceSub, Nat.reduceLeDiff, Nat.reduceBEq, Nat.reduceDiv, Nat.reduceMod, Int.reduceToNat, Int.reduceLT, Int.reduceLE, Int.reduceAdd, Int.reduceSub, Int.reduceMul, Int.reduceEq, Int.reduceNeg, reduceCtorEq, resV, resAll, ARes.ev, LV.flat, ite_true, ite_false, exists_eq_left', exists_eq_left, keyOf, implies_true, fillC, capOf]
        exact ⟨s, rfl, f0, f4, Nat.le_refl _, fun _ _ _ => rfl⟩
    · simp (disch := omega) only [f0, f4, lenT_s, decide_eq_false, h1, ↓SXd, SXu, slBounds, ↓sop, ↓aop, ↓reduceIte, LV.cells, AOp.dst, LV.I, LV.B, LV.U, LV.S, LV.nil, Nat.reduceEqDiff, Nat.reduceAdd, Nat.reduceMul, Nat.reduceSub, Nat.reduceLeDiff, Nat.reduceBEq, Nat.reduceDiv, Nat.reduceMod, Int.reduceToNat, Int.reduceLT, Int.reduceLE, Int.reduceAdd, Int.reduceSub, Int.reduceMul, Int.reduceEq, Int.reduceNeg, reduceCtorEq, resV, resAll, ARes.ev, LV.flat, ite_true, ite_false, exists_eq_left', exists_eq_left, keyOf, implies_true, fillC, capOf]
      exact ⟨s, rfl, f0, f4, Nat.le_refl _, fun _ _ _ => rfl⟩
  clear f0 f4 fr
  rintro fr M ⟨t, rfl, f0, f4, hts, htd⟩
  have hdg : ∀ k, k < 10 → s = dgS k → t.size = 1 ∧ ∀ i, i < t.size → (t.data.toList.getD i 0).toNat = 48 + k := fun k hk e => by
    have e1 := htd k hk e
    subst e1
    subst e
    refine ⟨rfl, fun i hi => ?_⟩
    have : i = 0 := by rw [dgS_size] at hi; omega
    subst this
    show (UInt8.ofNat (48 + k)).toNat = 48 + k
    rw [UInt8.toNat_ofNat']; omega
  have hfal : ∀ {v : LV}, (∀ k, k < 10 → s = dgS k → False) → v = .tup [.I 0, .B false] → (∀ M : Mem, M = M ∧ ∃ (n : Int) (ok : Bool), v = .tup [.I n, .B ok] ∧ ∀ k, k < 10 → s = dgS k → n = (k : Int) ∧ ok = true) := fun h e M => ⟨rfl, 0, false, e, fun k hk e => (h k hk e).elim⟩
  simp (disch := omega) only [f0, f4, lenT_s, ↓SXd, SXu, slBounds, ↓sop, ↓aop, ↓reduceIte, LV.cells, AOp.dst, LV.I, LV.B, LV.U, LV.S, LV.nil, Nat.reduceEqDiff, Nat.reduceAdd, Nat.reduceMul, Nat.reduceSub, Nat.reduceLeDiff, Nat.reduceBEq, Nat.reduceDiv, Nat.reduceMod, Int.reduceToNat, Int.reduceLT, Int.reduceLE, Int.reduceAdd, Int.reduceSub, Int.reduceMul, Int.reduceEq, Int.reduceNeg, reduceCtorEq, resV, resAll, ARes.ev, LV.flat, ite_true, ite_false, exists_eq_left', exists_eq_left, keyOf, implies_true, fillC, capOf]
  refine callK_of h_l1In ?_
  by_cases hin : (1 : Int) ≤ t.size ∧ (t.size : Int) ≤ 6
  rotate_left
  · simp (disch := omega) only [C.spec_l1Read, f0, f4, decide_eq_false, hin, ↓SXd, SXu, slBounds, ↓sop, ↓aop, ↓reduceIte, LV.cells, AOp.dst, LV.I, LV.B, LV.U, LV.S, LV.nil, Nat.reduceEqDiff, Nat.reduceAdd, Nat.reduceMul, Nat.reduceSub, Nat.reduceLeDiff, Nat.reduceBEq, Nat.reduceDiv, Nat.reduceMod, Int.reduceToNat, Int.reduceLT, Int.reduceLE, Int.reduceAdd, Int.reduceSub, Int.reduceMul, Int.reduceEq, Int.reduceNeg, reduceCtorEq, resV, resAll, ARes.ev, LV.flat, ite_true, ite_false, exists_eq_left', exists_eq_left, keyOf, implies_true, fillC, capOf]
    exact hfal (fun k hk e => hin (by have := (hdg k hk e).1; omega)) rfl _
  obtain ⟨hin1, hin2⟩ := id hin
  simp (disch := omega) only [f0, f4, decide_eq_true, hin, ↓SXd, SXu, slBounds, ↓sop, ↓aop, ↓reduceIte, LV.cells, AOp.dst, LV.I, LV.B, LV.U, LV.S, LV.nil, Nat.reduceEqDiff, Nat.reduceAdd, Nat.reduceMul, Nat.reduceSub, Nat.reduceLeDiff, Nat.reduceBEq, Nat.reduceDiv, Nat.reduceMod, Int.reduceToNat, Int.reduceLT, Int.reduceLE, Int.reduceAdd, Int.reduceSub, Int.reduceMul, Int.reduceEq, Int.reduceNeg, reduceCtorEq, resV, resAll, ARes.ev, LV.flat, ite_true, ite_false, exists_eq_left', exists_eq_left, keyOf, implies_true, fillC, capOf]
  refine ev_loop (fun m fr M' => ∃ (i : Nat) (v : Int), i + m = t.size ∧ M' = M ∧ fr 0 = .S s ∧ fr 4 = .S t ∧ fr 5 = .I v ∧ fr 6 = .I i ∧ v = numF (t.data.toList.take i) ∧ 0 ≤ v ∧ v + 1 ≤ (10 : Int) ^ i) t.size
    ⟨0, 0, by omega, rfl, f0, f4, rfl, rfl, rfl, by omega, by decide⟩ ?_
  clear f0 f4 fr
  rintro m fr M' ⟨i, v, hi, rfl, f0, f4, f5, f6, hv, hv0, hv1⟩
  have hp6 : (10 : Int) ^ i ≤ 1000000 := by
    rcases (show i = 0 ∨ i = 1 ∨ i = 2 ∨ i = 3 ∨ i = 4 ∨ i = 5 ∨ i = 6 by omega) with rfl | rfl | rfl | rfl | rfl | rfl | rfl <;> decide
  simp (disch := omega) only [f0, f4, f5, f6, lenT_s, ↓SXd, SXu, slBounds, ↓sop, ↓aop, ↓reduceIte, LV.cells, AOp.dst, LV.I, LV.B, LV.U, LV.S, LV.nil, Nat.reduceEqDiff, Nat.reduceAdd, Nat.reduceMul, Nat.reduceSub, Nat.reduceLeDiff, Nat.reduceBEq, Nat.reduceDiv, Nat.reduceMod, Int.reduceToNat, Int.reduceLT, Int.reduceLE, Int.reduceAdd, Int.reduceSub, Int.reduceMul, Int.reduceEq, Int.reduceNeg, reduceCtorEq, resV, resAll, ARes.ev, LV.flat, ite_true, ite_false, exists_eq_left', exists_eq_left, keyOf, implies_true, fillC, capOf]
  refine condC_dec (fun hlt => ?_) (fun hlt => ?_)
  · have hil : i < t.size := by omega
    have hil' : i < t.data.toList.length := hil
    have hbl : (t.data.toList.getD i 0).toNat < 256 := (t.data.toList.getD i 0).toNat_lt
    have hdi : ∀ k, k < 10 → s = dgS k → (t.data.toList.getD i 0).toNat = 48 + k := fun k hk e => (hdg k hk e).2 i hil
    have hge : t.data.toList.getD i 0 = t.data.toList[i] := by rw [List.getD_eq_getElem?_getD, List.getElem?_eq_getElem hil']; rfl
    have hnf : numF (t.data.toList.take (i + 1)) = 10 * v + ((t.data.toList.getD i 0).toNat - 48 : Int) := by
      rw [List.take_succ_eq_append_getElem hil', numF_snoc, ← hv, hge]
    obtain ⟨b, hb⟩ : ∃ b, (t.data.toList.getD i 0).toNat = b := ⟨_, rfl⟩
    rw [hb] at hbl hnf hdi
    by_cases h48 : (b : Int) < 48
    · simp (disch := omega) only [C.spec_l1Read, f0, f4, f5, f6, Int.toNat_natCast, hb, decide_eq_true, h48, ↓SXd, SXu, slBounds, ↓sop, ↓aop, ↓reduceIte, LV.cells, AOp.dst, LV.I, LV.B, LV.U, LV.S, LV.nil, Nat.reduceEqDiff, Nat.reduceAdd, Nat.reduceMul, Nat.reduceSub, Nat.reduceLeDiff, Nat.reduceBEq, Nat.reduceDiv, Nat.reduceMod, Int.reduceToNat, Int.reduceLT, Int.reduceLE, Int.reduceAdd, Int.reduceSub, Int.reduceMul, Int.reduceEq, Int.reduceNeg, reduceCtorEq, resV, resAll, ARes.ev, LV.flat, ite_true, ite_false, exists_eq_left', exists_eq_left, keyOf, implies_true, fillC, capOf]
      exact hfal (fun k hk e => by have := hdi k hk e; omega) rfl _
    · simp (disch := omega) only [C.spec_l1Read, f0, f4, f5, f6, Int.toNat_natCast, hb, decide_eq_false, h48, ↓SXd, SXu, slBounds, ↓sop, ↓aop, ↓reduceIte, LV.cells, AOp.dst, LV.I, LV.B, LV.U, LV.S, LV.nil, Nat.reduceEqDiff, Nat.reduceAdd, Nat.reduceMul, Nat.reduceSub, Nat.reduceLeDiff, Nat.reduceBEq, Nat.reduceDiv, Nat.reduceMod, Int.reduceToNat, Int.reduceLT, Int.reduceLE, Int.reduceAdd, Int.reduceSub, Int.reduceMul, Int.reduceEq, Int.reduceNeg, reduceCtorEq, resV, resAll, ARes.ev, LV.flat, ite_true, ite_false, exists_eq_left', exists_eq_left, keyOf, implies_true, fillC, capOf]
      by_cases h57 : (57 : Int) < b
      · simp (disch := omega) only [C.spec_l1Read, f0, f4, f5, f6, Int.toNat_natCast, hb, decide_eq_true, h57, ↓SXd, SXu, slBounds, ↓sop, ↓aop, ↓reduceIte, LV.cells, AOp.dst, LV.I, LV.B, LV.U, LV.S, LV.nil, Nat.reduceEqDiff, Nat.reduceAdd, Nat.reduceMul, Nat.reduceSub, Nat.reduceLeDiff, Nat.reduceBEq, Nat.reduceDiv, Nat.reduceMod, Int.reduceToNat, Int.reduceLT, Int.reduceLE, Int.reduceAdd, Int.reduceSub, Int.reduceMul, Int.reduceEq, Int.reduceNeg, reduceCtorEq, resV, resAll, ARes.ev, LV.flat, ite_true, ite_false, exists_eq_left', exists_eq_left, keyOf, implies_true, fillC, capOf]
        exact hfal (fun k hk e => by have := hdi k hk e; omega) rfl _
      · have hw : IntKind.u8.wrap ((b : Int) - 48) = (b : Int) - 48 := u8_id (by omega)
        simp (disch := omega) only [C.spec_l1Read, f0, f4, f5, f6, decide_eq_false, h57, Int.toNat_natCast, hb, hw, ↓SXd, SXu, slBounds, ↓sop, ↓aop, ↓reduceIte, LV.cells, AOp.dst, LV.I, LV.B, LV.U, LV.S, LV.nil, Nat.reduceEqDiff, Nat.reduceAdd, Nat.reduceMul, Nat.reduceSub, Nat.reduceLeDiff, Nat.reduceBEq, Nat.reduceDiv, Nat.reduceMod, Int.reduceToNat, Int.reduceLT, Int.reduceLE, Int.reduceAdd, Int.reduceSub, Int.reduceMul, Int.reduceEq, Int.reduceNeg, reduceCtorEq, resV, resAll, ARes.ev, LV.flat, ite_true, ite_false, exists_eq_left', exists_eq_left, keyOf, implies_true, fillC, capOf]
        exact ⟨m - 1, by omega, i + 1, 10 * v + ((b : Int) - 48), by omega, rfl, f0, f4, rfl, eqI (natI _), hnf.symm, by omega, by rw [Int.pow_succ]; omega⟩
  · have hit : i = t.size := by omega
    have hv2 : v = numF t.data.toList := by rw [hv, hit, ba_size, List.take_length]
    simp (disch := omega) only [f0, f4, f5, f6, lenT_s, ↓SXd, SXu, slBounds, ↓sop, ↓aop, ↓reduceIte, LV.cells, AOp.dst, LV.I, LV.B, LV.U, LV.S, LV.nil, Nat.reduceEqDiff, Nat.reduceAdd, Nat.reduceMul, Nat.reduceSub, Nat.reduceLeDiff, Nat.reduceBEq, Nat.reduceDiv, Nat.reduceMod, Int.reduceToNat, Int.reduceLT, Int.reduceLE, Int.reduceAdd, Int.reduceSub, Int.reduceMul, Int.reduceEq, Int.reduceNeg, reduceCtorEq, resV, resAll, ARes.ev, LV.flat, ite_true, ite_false, exists_eq_left', exists_eq_left, keyOf, implies_true, fillC, capOf]
    refine cond_cut (rdD M' s) ?_ ?_
    · refine condC_dec (fun hsz => ?_) (fun hsz => ?_)
      · simp (disch := omega) only [f0, f4, f5, f6, ↓SXd, SXu, slBounds, ↓sop, ↓aop, ↓reduceIte, LV.cells, AOp.dst, LV.I, LV.B, LV.U, LV.S, LV.nil, Nat.reduceEqDiff, Nat.reduceAdd, Nat.reduceMul, Nat.reduceSub, Nat.reduceLeDiff, Nat.reduceBEq, Nat.reduceDiv, Nat.reduceMod, Int.reduceToNat, Int.reduceLT, Int.reduceLE, Int.reduceAdd, Int.reduceSub, Int.reduceMul, Int.reduceEq, Int.reduceNeg, reduceCtorEq, resV, resAll, ARes.ev, LV.flat, ite_true, ite_false, exists_eq_left', exists_eq_left, keyOf, implies_true, fillC, capOf]
        refine ⟨_, rfl, f0, rfl, by omega, fun k hk e => ?_⟩
        have h1 := (hdg k hk e).1
        rw [e, dgS_size] at hsz
        omega
      · simp (disch := omega) only [f0, f4, f5, f6, ↓SXd, SXu, slBounds, ↓sop, ↓aop, ↓reduceIte, LV.cells, AOp.dst, LV.I, LV.B, LV.U, LV.S, LV.nil, Nat.reduceEqDiff, Nat.reduceAdd, Nat.reduceMul, Nat.reduceSub, Nat.reduceLeDiff, Nat.reduceBEq, Nat.reduceDiv, Nat.reduceMod, Int.reduceToNat, Int.reduceLT, Int.reduceLE, Int.reduceAdd, Int.reduceSub, Int.reduceMul, Int.reduceEq, Int.reduceNeg, reduceCtorEq, resV, resAll, ARes.ev, LV.flat, ite_true, ite_false, exists_eq_left', exists_eq_left, keyOf, implies_true, fillC, capOf]
        refine ⟨v, rfl, f0, f5, by omega, fun k hk e => ?_⟩
        rw [hv2, htd k hk e, e, numF_dg hk]
    clear f0 f4 f5 f6 fr
    rintro fr M ⟨n, rfl, f0, f5, hn, hnk⟩
    simp (disch := omega) only [f0, f5, ↓SXd, SXu, slBounds, ↓sop, ↓aop, ↓reduceIte, LV.cells, AOp.dst, LV.I, LV.B, LV.U, LV.S, LV.nil, Nat.reduceEqDiff, Nat.reduceAdd, Nat.reduceMul, Nat.reduceSub, Nat.reduceLeDiff, Nat.reduceBEq, Nat.reduceDiv, Nat.reduceMod, Int.reduceToNat, Int.reduceLT, Int.reduceLE, Int.reduceAdd, Int.reduceSub, Int.reduceMul, Int.reduceEq, Int.reduceNeg, reduceCtorEq, resV, resAll, ARes.ev, LV.flat, ite_true, ite_false, exists_eq_left', exists_eq_left, keyOf, implies_true, fillC, capOf]
    refine callR_of (r_l1NumI hn) ?_
    rintro _ N ⟨rfl, w, rfl, hw⟩
    by_cases hws : w = s
    · simp (disch := omega) only [C.spec_l1Read, f0, f5, bvs_neq, ba_beq, decide_eq_true, hws, Bool.not_true, ↓SXd, SXu, slBounds, ↓sop, ↓aop, ↓reduceIte, LV.cells, AOp.dst, LV.I, LV.B, LV.U, LV.S, LV.nil, Nat.reduceEqDiff, Nat.reduceAdd, Nat.reduceMul, Nat.reduceSub, Nat.reduceLeDiff, Nat.reduceBEq, Nat.reduceDiv, Nat.reduceMod, Int.reduceToNat, Int.reduceLT, Int.reduceLE, Int.reduceAdd, Int.reduceSub, Int.reduceMul, Int.reduceEq, Int.reduceNeg, reduceCtorEq, resV, resAll, ARes.ev, LV.flat, ite_true, ite_false, exists_eq_left', exists_eq_left, keyOf, implies_true, fillC, capOf]
      exact ⟨rfl, n, true, rfl, fun k hk e => ⟨hnk k hk e, rfl⟩⟩
    · simp (disch := omega) only [C.spec_l1Read, f0, f5, bvs_neq, ba_beq, decide_eq_false, hws, Bool.not_false, ↓SXd, SXu, slBounds, ↓sop, ↓aop, ↓reduceIte, LV.cells, AOp.dst, LV.I, LV.B, LV.U, LV.S, LV.nil, Nat.reduceEqDiff, Nat.reduceAdd, Nat.reduceMul, Nat.reduceSub, Nat.reduceLeDiff, Nat.reduceBEq, Nat.reduceDiv, Nat.reduceMod, Int.reduceToNat, Int.reduceLT, Int.reduceLE, Int.reduceAdd, Int.reduceSub, Int.reduceMul, Int.reduceEq, Int.reduceNeg, reduceCtorEq, resV, resAll, ARes.ev, LV.flat, ite_true, ite_false, exists_eq_left', exists_eq_left, keyOf, implies_true, fillC, capOf]
      refine hfal (fun k hk e => hws ?_) rfl _
      have := hnk k hk e
      rw [hw (by omega), this, e]; rfl
end Go.Ab

namespace Go.Ab
open Go
set_option maxRecDepth 20000

theorem splitL_small {c : UInt8} : ∀ {l w : List UInt8}, w ∈ splitL c l → w.length ≤ l.length
  | [], w, h => by
    simp [splitL] at h
    subst h; simp
  | b :: l, w, h => by
    rw [splitL_cons] at h
    split at h
    · rcases List.mem_cons.1 h with rfl | h
      · simp
      · have := splitL_small h
        rw [List.length_cons]; omega
    · split at h
      · rename_i e; exact (splitL_ne e).elim
      · rename_i v vs e
        rcases List.mem_cons.1 h with rfl | h
        · have : v.length ≤ l.length := splitL_small (c := c) (by rw [e]; exact List.mem_cons_self)
          simp only [List.length_cons]; omega
        · have : w.length ≤ l.length := splitL_small (c := c) (by rw [e]; exact List.mem_cons_of_mem _ h)
          rw [List.length_cons]; omega
theorem words_small {c : UInt8} {s w : ByteArray} (h : w ∈ words c s) : w.size ≤ s.size := by
  obtain ⟨l, hl, rfl⟩ := List.mem_map.1 h
  exact splitL_small hl
theorem words_ne {c : UInt8} {s : ByteArray} : ∃ w ws, words c s = w :: ws := by
  cases h : words c s with
  | nil => exact (splitL_ne (List.map_eq_nil_iff.1 h)).elim
  | cons w ws => exact ⟨w, ws, rfl⟩
theorem memK_st {M : Mem} {t j e : Nat} {old : List LV} {v : LV} {A : Mem → Prop} (ht : Live M t (.row old true e)) (hj : j < old.length)
    (hA : ∀ M', M'.length = M.length → Live M' t (.row (old.set j v) true e) → (∀ u, u ≠ t → u < M.length → M'[u]? = M[u]?) → A M') : memK (setCells M t j [v]) A := by
  rw [ht.setC, if_pos (by simp; omega), splice_1 hj]
  exact hA _ (by simp) ht.set_eq fun u hu _ => List.getElem?_set_ne (fun e => hu e.symm)
theorem memK_all {M : Mem} {t e : Nat} {old vs : List LV} {A : Mem → Prop} (ht : Live M t (.row old true e)) (hl : vs.length = old.length)
    (hA : ∀ M', M'.length = M.length → Live M' t (.row vs true e) → (∀ u, u ≠ t → u < M.length → M'[u]? = M[u]?) → A M') : memK (setCells M t 0 vs) A := by
  have e : splice old 0 vs = vs := by
    unfold splice
    rw [hl, Nat.zero_add, List.drop_length, List.take_zero]
    simp
  rw [ht.setC, if_pos (by omega), e]
  exact hA _ (by simp) ht.set_eq fun u hu _ => List.getElem?_set_ne (fun e => hu e.symm)
def heap0 : List LV := [.I 0, .I 0, .I 0, .nil]
theorem ph_fail {s : ByteArray} {M N : Mem} (h : ∀ x y z cs, HeapOK x y z cs → txH x y z cs = s → False) (hp : Pre M N) : HeapRes M (phOf s) [] (.tup [.agg [.I 0, .I 0, .I 0, .nil], .B false]) N := by
  rw [ph_none h]
  exact ⟨.nil, rfl, SlC.nil, Newer.nil, hp⟩
theorem ph_good {s : ByteArray} {M N : Mem} {x y z : Int} {cs : List Cell} {u : Nat} (h : HeapOK x y z cs) (hs : txH x y z cs = s) (hu : Live N u (.row (triL cs) true 3)) (hm : M.length ≤ u) (hp : Pre M N) : HeapRes M (phOf s) [] (.tup [.agg [.I x, .I y, .I z, .ref u 0 cs.length], .B true]) N := by
  rw [ph_some h hs]
  exact ⟨.ref u 0 cs.length, rfl, SlC.of hu, Newer.of hm, hp⟩
theorem tx_words {s w : ByteArray} {ws : List ByteArray} {x y z : Int} {cs : List Cell} (h : HeapOK x y z cs) (hs : txH x y z cs = s) (hw : words 32 s = w :: ws) : w = baOf (bytB x y z) ∧ ws = cs.map fun c => baOf (digs c) := by
  have := words_tx h
  rw [hs, hw] at this
  injection this with h1 h2
  exact ⟨h1, h2⟩
theorem tx_size {s : ByteArray} {x y z : Int} {cs : List Cell} (h : HeapOK x y z cs) (hs : txH x y z cs = s) : s.size ≤ 261 := by
  have := h.len
  rw [← hs, txH_size]; omega
theorem tx_cells {ws : List ByteArray} {x y z : Int} {cs : List Cell} (h : HeapOK x y z cs) (hw : ws = cs.map fun c => baOf (digs c)) : ws.map cellW = cs := by
  rw [hw, List.map_map]
  conv => rhs; rw [← List.map_id cs]
  exact List.map_congr_left fun c hc => cell_back (h.okC c hc)
theorem tx_three {ws : List ByteArray} {cs : List Cell} (hw : ws = cs.map fun c => baOf (digs c)) {i : Nat} (hi : i < ws.length) : (ws.getD i default).size = 3 := by
  have hm : ws.getD i default ∈ ws := by
    rw [List.getD_eq_getElem?_getD, List.getElem?_eq_getElem hi]; exact List.getElem_mem hi
  rw [hw] at hm
  obtain ⟨c, _, hc⟩ := List.mem_map.1 hm
  rw [← hw] at hc
  rw [← hc]; rfl

theorem h_sParseHeap {s : ByteArray} {M : Mem} (hs : s.size ≤ 1048576) : CallsR PG F.spec_ParseHeap [.S s] M (HeapRes M (phOf s) []) := by
  refine callsR_run K.spec_ParseHeap rfl ?_
  simp (disch := omega) only [C.spec_ParseHeap, lenT_s, ↓SXd, SXu, slBounds, ↓sop, ↓aop, ↓reduceIte, LV.cells, AOp.dst, LV.I, LV.B, LV.U, LV.S, LV.nil, Nat.reduceEqDiff, Nat.reduceAdd, Nat.reduceMul, Nat.reduceSub, Nat.reduceLeDiff, Nat.reduceBEq, Nat.reduceDiv, Nat.reduceMod, Int.reduceToNat, Int.reduceLT, Int.reduceLE, Int.reduceAdd, Int.reduceSub, Int.reduceMul, Int.reduceEq, Int.reduceNeg, reduceCtorEq, resV, resAll, ARes.ev, LV.flat, ite_true, ite_false, exists_eq_left', exists_eq_left, keyOf, implies_true, fillC, capOf]
  by_cases h300 : (300 : Int) < s.size
  · simp (disch := omega) only [C.spec_ParseHeap, decide_eq_true, h300, ↓SXd, SXu, slBounds, ↓sop, ↓aop, ↓reduceIte, LV.cells, AOp.dst, LV.I, LV.B, LV.U, LV.S, LV.nil, Nat.reduceEqDiff, Nat.reduceAdd, Nat.reduceMul, Nat.reduceSub, Nat.reduceLeDiff, Nat.reduceBEq, Nat.reduceDiv, Nat.reduceMod, Int.reduceToNat, Int.reduceLT, Int.reduceLE, Int.reduceAdd, Int.reduceSub, Int.reduceMul, Int.reduceEq, Int.reduceNeg, reduceCtorEq, resV, resAll, ARes.ev, LV.flat, ite_true, ite_false, exists_eq_left', exists_eq_left, keyOf, implies_true, fillC, capOf]
    exact ph_fail (fun x y z cs hH e => by have := tx_size hH e; omega) (Pre.app _ _)
  · simp (disch := omega) only [C.spec_ParseHeap, decide_eq_false, h300, ↓SXd, SXu, slBounds, ↓sop, ↓aop, ↓reduceIte, LV.cells, AOp.dst, LV.I, LV.B, LV.U, LV.S, LV.nil, Nat.reduceEqDiff, Nat.reduceAdd, Nat.reduceMul, Nat.reduceSub, Nat.reduceLeDiff, Nat.reduceBEq, Nat.reduceDiv, Nat.reduceMod, Int.reduceToNat, Int.reduceLT, Int.reduceLE, Int.reduceAdd, Int.reduceSub, Int.reduceMul, Int.reduceEq, Int.reduceNeg, reduceCtorEq, resV, resAll, ARes.ev, LV.flat, ite_true, ite_false, exists_eq_left', exists_eq_left, keyOf, implies_true, fillC, capOf]
    have hsp := fun {M : Mem} => h_l1Split (s := s) (c := 32) (M := M) hs
    rw [show (((32 : UInt8).toNat : Nat) : Int) = 32 from rfl] at hsp
    refine callR_of hsp ?_
    rintro _ N1 ⟨t1, rfl, a1, a2, a3⟩
    have p2 : Live N1 M.length (.row [.I 0, .I 0, .I 0, .nil] true 0) := Live.new.pre a3
    have hM1 : Pre M N1 := (Pre.app _ _).trans a3
    clear hsp a2 a3
    obtain ⟨w0, ws, hw⟩ := words_ne (c := 32) (s := s)
    have hwl : ws.length ≤ s.size := by
      have h1 := words_len (c := 32) (r := s)
      rw [hw, List.length_cons] at h1
      have h2 : s.data.toList.count 32 ≤ s.data.toList.length := List.count_le_length
      rw [ba_size]; omega
    rw [hw] at a1 ⊢
    have hg0 : getCell N1 t1 0 = some (.S w0) := by rw [a1.cell]; rfl
    have hb0 : w0.size ≤ 1048576 := Nat.le_trans (words_small (c := 32) (s := s) (by rw [hw]; exact List.mem_cons_self)) hs
    have hsp2 := fun {M : Mem} => h_l1Split (s := w0) (c := 120) (M := M) hb0
    rw [show (((120 : UInt8).toNat : Nat) : Int) = 120 from rfl] at hsp2
    simp (disch := omega) only [hg0, List.length_cons, Nat.mul_one, Nat.zero_add, ↓SXd, SXu, slBounds, ↓sop, ↓aop, ↓reduceIte, LV.cells, AOp.dst, LV.I, LV.B, LV.U, LV.S, LV.nil, Nat.reduceEqDiff, Nat.reduceAdd, Nat.reduceMul, Nat.reduceSub, Nat.reduceLeDiff, Nat.reduceBEq, Nat.reduceDiv, Nat.reduceMod, Int.reduceToNat, Int.reduceLT, Int.reduceLE, Int.reduceAdd, Int.reduceSub, Int.reduceMul, Int.reduceEq, Int.reduceNeg, reduceCtorEq, resV, resAll, ARes.ev, LV.flat, ite_true, ite_false, exists_eq_left', exists_eq_left, keyOf, implies_true, fillC, capOf]
    refine callR_of hsp2 ?_
    rintro _ N2 ⟨t2, rfl, c1, c2, c3⟩
    have a1' := a1.pre c3
    have p2' := p2.pre c3
    have hM2 := hM1.trans c3
    clear hsp2 a1 p2 hM1 c2 c3 hg0
    have hps : ∀ q ∈ words 120 w0, q.size ≤ 1048576 := fun q hq => Nat.le_trans (words_small hq) hb0
    have hbox : ∀ x y z cs, HeapOK x y z cs → txH x y z cs = s → words 120 w0 = [dgS x.toNat, dgS y.toNat, dgS z.toNat] := fun x y z cs hH e => by
      rw [(tx_words hH e hw).1]; exact words_box hH.1
    generalize words 120 w0 = ps at *
    have l1 := a1'.lt
    have l2 := p2'.lt
    have l3 := c1.lt
    simp (disch := omega) only [splice, ↓SXd, SXu, slBounds, ↓sop, ↓aop, ↓reduceIte, LV.cells, AOp.dst, LV.I, LV.B, LV.U, LV.S, LV.nil, Nat.reduceEqDiff, Nat.reduceAdd, Nat.reduceMul, Nat.reduceSub, Nat.reduceLeDiff, Nat.reduceBEq, Nat.reduceDiv, Nat.reduceMod, Int.reduceToNat, Int.reduceLT, Int.reduceLE, Int.reduceAdd, Int.reduceSub, Int.reduceMul, Int.reduceEq, Int.reduceNeg, reduceCtorEq, resV, resAll, ARes.ev, LV.flat, ite_true, ite_false, exists_eq_left', exists_eq_left, keyOf, implies_true, fillC, capOf]
    refine condC_dec (fun h3 => ?_) (fun h3 => ?_)
    rotate_left
    · simp (disch := omega) only [↓SXd, SXu, slBounds, ↓sop, ↓aop, ↓reduceIte, LV.cells, AOp.dst, LV.I, LV.B, LV.U, LV.S, LV.nil, Nat.reduceEqDiff, Nat.reduceAdd, Nat.reduceMul, Nat.reduceSub, Nat.reduceLeDiff, Nat.reduceBEq, Nat.reduceDiv, Nat.reduceMod, Int.reduceToNat, Int.reduceLT, Int.reduceLE, Int.reduceAdd, Int.reduceSub, Int.reduceMul, Int.reduceEq, Int.reduceNeg, reduceCtorEq, resV, resAll, ARes.ev, LV.flat, ite_true, ite_false, exists_eq_left', exists_eq_left, keyOf, implies_true, fillC, capOf]
      refine memK_all p2'.app rfl fun N k1 k2 k3 => ?_
      simp (disch := omega) only [k2.cells, C.spec_ParseHeap, ↓SXd, SXu, slBounds, ↓sop, ↓aop, ↓reduceIte, LV.cells, AOp.dst, LV.I, LV.B, LV.U, LV.S, LV.nil, Nat.reduceEqDiff, Nat.reduceAdd, Nat.reduceMul, Nat.reduceSub, Nat.reduceLeDiff, Nat.reduceBEq, Nat.reduceDiv, Nat.reduceMod, Int.reduceToNat, Int.reduceLT, Int.reduceLE, Int.reduceAdd, Int.reduceSub, Int.reduceMul, Int.reduceEq, Int.reduceNeg, reduceCtorEq, resV, resAll, ARes.ev, LV.flat, ite_true, ite_false, exists_eq_left', exists_eq_left, keyOf, implies_true, fillC, capOf]
      refine ph_fail (fun x y z cs hH e => ?_) (pre_step (j := 0) hM2.app' (Nat.le_refl _) k1 k3)
      rw [hbox x y z cs hH e] at h3
      exact h3 rfl
    have hl3 : ps.length = 3 := by omega
    simp (disch := omega) only [↓SXd, SXu, slBounds, ↓sop, ↓aop, ↓reduceIte, LV.cells, AOp.dst, LV.I, LV.B, LV.U, LV.S, LV.nil, Nat.reduceEqDiff, Nat.reduceAdd, Nat.reduceMul, Nat.reduceSub, Nat.reduceLeDiff, Nat.reduceBEq, Nat.reduceDiv, Nat.reduceMod, Int.reduceToNat, Int.reduceLT, Int.reduceLE, Int.reduceAdd, Int.reduceSub, Int.reduceMul, Int.reduceEq, Int.reduceNeg, reduceCtorEq, resV, resAll, ARes.ev, LV.flat, ite_true, ite_false, exists_eq_left', exists_eq_left, keyOf, implies_true, fillC, capOf]
    refine ev_loop (fun m fr M' => ∃ (i : Nat) (ns : List Int), i + m = 3 ∧ ns.length = 3 ∧ (∀ j, j < i → ∀ k, k < 10 → ps.getD j default = dgS k → ns.getD j 0 = (k : Int)) ∧ Pre N2 M' ∧ Live M' N2.length (.row (intL ns) true 0) ∧
      fr 0 = .S s ∧ fr 2 = .ptr M.length 0 ∧ fr 4 = .ref t1 0 (ws.length + 1) ∧ fr 5 = .ref t2 0 ps.length ∧ fr 6 = .ptr N2.length 0 ∧ fr 7 = .I i) 3
      ⟨0, [0, 0, 0], rfl, rfl, fun j hj => absurd hj (by omega), Pre.app _ _, Live.new, rfl, rfl, rfl, rfl, rfl, rfl⟩ ?_
    rintro m fr M' ⟨i, ns, hi, hnl, hns, hp, b6, f0, f2, f4, f5, f6, f7⟩
    simp (disch := omega) only [f0, f2, f4, f5, f6, f7, ↓SXd, SXu, slBounds, ↓sop, ↓aop, ↓reduceIte, LV.cells, AOp.dst, LV.I, LV.B, LV.U, LV.S, LV.nil, Nat.reduceEqDiff, Nat.reduceAdd, Nat.reduceMul, Nat.reduceSub, Nat.reduceLeDiff, Nat.reduceBEq, Nat.reduceDiv, Nat.reduceMod, Int.reduceToNat, Int.reduceLT, Int.reduceLE, Int.reduceAdd, Int.reduceSub, Int.reduceMul, Int.reduceEq, Int.reduceNeg, reduceCtorEq, resV, resAll, ARes.ev, LV.flat, ite_true, ite_false, exists_eq_left', exists_eq_left, keyOf, implies_true, fillC, capOf]
    refine condC_dec (fun hlt => ?_) (fun hlt => ?_)
    · have hi3 : i < ps.length := by omega
      have hgi : getCell M' t2 i = some (.S (ps.getD i default)) := by rw [(c1.pre hp).cell, strL_get hi3]
      have hmi : ps.getD i default ∈ ps := by rw [List.getD_eq_getElem?_getD, List.getElem?_eq_getElem hi3]; exact List.getElem_mem hi3
      simp (disch := omega) only [f0, f2, f4, f5, f6, f7, hgi, Nat.mul_one, Nat.zero_add, ↓SXd, SXu, slBounds, ↓sop, ↓aop, ↓reduceIte, LV.cells, AOp.dst, LV.I, LV.B, LV.U, LV.S, LV.nil, Nat.reduceEqDiff, Nat.reduceAdd, Nat.reduceMul, Nat.reduceSub, Nat.reduceLeDiff, Nat.reduceBEq, Nat.reduceDiv, Nat.reduceMod, Int.reduceToNat, Int.reduceLT, Int.reduceLE, Int.reduceAdd, Int.reduceSub, Int.reduceMul, Int.reduceEq, Int.reduceNeg, reduceCtorEq, resV, resAll, ARes.ev, LV.flat, ite_true, ite_false, exists_eq_left', exists_eq_left, keyOf, implies_true, fillC, capOf]
      refine callR_of (r_l1Read (hps _ hmi)) ?_
      rintro _ N ⟨rfl, n, ok, rfl, hok⟩
      cases ok
      · simp (disch := omega) only [f0, f2, f4, f5, f6, f7, ↓SXd, SXu, slBounds, ↓sop, ↓aop, ↓reduceIte, LV.cells, AOp.dst, LV.I, LV.B, LV.U, LV.S, LV.nil, Nat.reduceEqDiff, Nat.reduceAdd, Nat.reduceMul, Nat.reduceSub, Nat.reduceLeDiff, Nat.reduceBEq, Nat.reduceDiv, Nat.reduceMod, Int.reduceToNat, Int.reduceLT, Int.reduceLE, Int.reduceAdd, Int.reduceSub, Int.reduceMul, Int.reduceEq, Int.reduceNeg, reduceCtorEq, resV, resAll, ARes.ev, LV.flat, ite_true, ite_false, exists_eq_left', exists_eq_left, keyOf, implies_true, fillC, capOf]
        refine memK_all (p2'.pre hp) rfl fun N' k1 k2 k3 => ?_
        simp (disch := omega) only [f0, f2, f4, f5, f6, f7, k2.cells, C.spec_ParseHeap, ↓SXd, SXu, slBounds, ↓sop, ↓aop, ↓reduceIte, LV.cells, AOp.dst, LV.I, LV.B, LV.U, LV.S, LV.nil, Nat.reduceEqDiff, Nat.reduceAdd, Nat.reduceMul, Nat.reduceSub, Nat.reduceLeDiff, Nat.reduceBEq, Nat.reduceDiv, Nat.reduceMod, Int.reduceToNat, Int.reduceLT, Int.reduceLE, Int.reduceAdd, Int.reduceSub, Int.reduceMul, Int.reduceEq, Int.reduceNeg, reduceCtorEq, resV, resAll, ARes.ev, LV.flat, ite_true, ite_false, exists_eq_left', exists_eq_left, keyOf, implies_true, fillC, capOf]
        refine ph_fail (fun x y z cs hH e => ?_) (pre_step (j := 0) (hM2.trans hp) (Nat.le_refl _) k1 k3)
        obtain ⟨⟨_, _⟩, ⟨_, _⟩, ⟨_, _⟩⟩ := id hH.1
        have hps3 := hbox x y z cs hH e
        have : ∃ k, k < 10 ∧ ps.getD i default = dgS k := by
          rw [hps3]
          rcases (show i = 0 ∨ i = 1 ∨ i = 2 by omega) with rfl | rfl | rfl
          · exact ⟨x.toNat, by omega, rfl⟩
          · exact ⟨y.toNat, by omega, rfl⟩
          · exact ⟨z.toNat, by omega, rfl⟩
        obtain ⟨k, hk, ek⟩ := this
        exact absurd (hok k hk ek).2 (by decide)
      · simp (disch := omega) only [f0, f2, f4, f5, f6, f7, Nat.mul_one, Nat.zero_add, ↓SXd, SXu, slBounds, ↓sop, ↓aop, ↓reduceIte, LV.cells, AOp.dst, LV.I, LV.B, LV.U, LV.S, LV.nil, Nat.reduceEqDiff, Nat.reduceAdd, Nat.reduceMul, Nat.reduceSub, Nat.reduceLeDiff, Nat.reduceBEq, Nat.reduceDiv, Nat.reduceMod, Int.reduceToNat, Int.reduceLT, Int.reduceLE, Int.reduceAdd, Int.reduceSub, Int.reduceMul, Int.reduceEq, Int.reduceNeg, reduceCtorEq, resV, resAll, ARes.ev, LV.flat, ite_true, ite_false, exists_eq_left', exists_eq_left, keyOf, implies_true, fillC, capOf]
        refine memK_st b6 (by rw [intL_len]; omega) fun N' k1 k2 k3 => ?_
        rw [intL_set] at k2
        simp (disch := omega) only [f0, f2, f4, f5, f6, f7, ↓SXd, SXu, slBounds, ↓sop, ↓aop, ↓reduceIte, LV.cells, AOp.dst, LV.I, LV.B, LV.U, LV.S, LV.nil, Nat.reduceEqDiff, Nat.reduceAdd, Nat.reduceMul, Nat.reduceSub, Nat.reduceLeDiff, Nat.reduceBEq, Nat.reduceDiv, Nat.reduceMod, Int.reduceToNat, Int.reduceLT, Int.reduceLE, Int.reduceAdd, Int.reduceSub, Int.reduceMul, Int.reduceEq, Int.reduceNeg, reduceCtorEq, resV, resAll, ARes.ev, LV.flat, ite_true, ite_false, exists_eq_left', exists_eq_left, keyOf, implies_true, fillC, capOf]
        refine ⟨m - 1, by omega, i + 1, ns.set i n, by omega, by rw [List.length_set]; exact hnl, fun j hj k hk ek => ?_, pre_step (j := 0) hp (Nat.le_refl _) k1 k3, k2, f0, f2, f4, f5, f6, eqI (natI _)⟩
        by_cases hji : j = i
        · subst hji
          rw [List.getD_eq_getElem?_getD, List.getElem?_set_self (by omega)]
          exact (hok k hk ek).1
        · rw [List.getD_eq_getElem?_getD, List.getElem?_set_ne (fun e => hji e.symm), ← List.getD_eq_getElem?_getD]
          exact hns j (by omega) k hk ek
    have hi3 : i = 3 := by omega
    subst hi3
    obtain ⟨n0, n1, n2, rfl⟩ : ∃ n0 n1 n2, ns = [n0, n1, n2] := by
      match ns, hnl with
      | [a, b, c], _ => exact ⟨a, b, c, rfl⟩
    have hfin : ∀ x y z cs, HeapOK x y z cs → txH x y z cs = s → n0 = x ∧ n1 = y ∧ n2 = z ∧ ws.map cellW = cs := fun x y z cs hH e => by
      obtain ⟨⟨_, _⟩, ⟨_, _⟩, ⟨_, _⟩⟩ := id hH.1
      have hps3 := hbox x y z cs hH e
      have e0 : n0 = _ := hns 0 (by omega) x.toNat (by omega) (by rw [hps3]; rfl)
      have e1 : n1 = _ := hns 1 (by omega) y.toNat (by omega) (by rw [hps3]; rfl)
      have e2 : n2 = _ := hns 2 (by omega) z.toNat (by omega) (by rw [hps3]; rfl)
      exact ⟨by omega, by omega, by omega, tx_cells hH (tx_words hH e hw).2⟩
    have hthree : ∀ x y z cs, HeapOK x y z cs → txH x y z cs = s → ∀ i, i < ws.length → (ws.getD i default).size = 3 := fun x y z cs hH e i hi => tx_three (tx_words hH e hw).2 hi
    have g0 : getCell M' N2.length 0 = some (.I n0) := by rw [b6.cell]; rfl
    have g1 : getCell M' N2.length 1 = some (.I n1) := by rw [b6.cell]; rfl
    have g2 : getCell M' N2.length 2 = some (.I n2) := by rw [b6.cell]; rfl
    have a1m := a1'.pre hp
    have p2m := p2'.pre hp
    have hMm := hM2.trans hp
    clear a1' p2' hns hbox hps c1 hlt h3
    simp (disch := omega) only [f0, f2, f4, f5, f6, f7, g0, g1, g2, Nat.mul_one, Nat.zero_add, ↓SXd, SXu, slBounds, ↓sop, ↓aop, ↓reduceIte, LV.cells, AOp.dst, LV.I, LV.B, LV.U, LV.S, LV.nil, Nat.reduceEqDiff, Nat.reduceAdd, Nat.reduceMul, Nat.reduceSub, Nat.reduceLeDiff, Nat.reduceBEq, Nat.reduceDiv, Nat.reduceMod, Int.reduceToNat, Int.reduceLT, Int.reduceLE, Int.reduceAdd, Int.reduceSub, Int.reduceMul, Int.reduceEq, Int.reduceNeg, reduceCtorEq, resV, resAll, ARes.ev, LV.flat, ite_true, ite_false, exists_eq_left', exists_eq_left, keyOf, implies_true, fillC, capOf]
    refine callK_of h_l2Empty ?_
    simp (disch := omega) only [f0, f2, f4, f5, f6, f7, splice, ↓SXd, SXu, slBounds, ↓sop, ↓aop, ↓reduceIte, LV.cells, AOp.dst, LV.I, LV.B, LV.U, LV.S, LV.nil, Nat.reduceEqDiff, Nat.reduceAdd, Nat.reduceMul, Nat.reduceSub, Nat.reduceLeDiff, Nat.reduceBEq, Nat.reduceDiv, Nat.reduceMod, Int.reduceToNat, Int.reduceLT, Int.reduceLE, Int.reduceAdd, Int.reduceSub, Int.reduceMul, Int.reduceEq, Int.reduceNeg, reduceCtorEq, resV, resAll, ARes.ev, LV.flat, ite_true, ite_false, exists_eq_left', exists_eq_left, keyOf, implies_true, fillC, capOf]
    have l4 := a1m.lt
    have l5 := p2m.lt
    refine ev_loop (fun m fr K => ∃ (j u : Nat) (acc : List Cell), j + m = ws.length ∧ acc = (ws.take j).map cellW ∧ Pre M' K ∧ M'.length ≤ u ∧ u ≠ M'.length + 1 ∧ Live K u (.row (triL acc) true 3) ∧ Live K (M'.length + 1) (.row [.I n0, .I n1, .I n2, .ref u 0 acc.length] true 0) ∧
      fr 0 = .S s ∧ fr 2 = .ptr M.length 0 ∧ fr 4 = .ref t1 0 (ws.length + 1) ∧ fr 10 = .ptr (M'.length + 1) 0 ∧ fr 11 = .I ((j + 1 : Nat) : Int)) ws.length
      ⟨0, M'.length, [], by omega, rfl, Pre.app _ _, Nat.le_refl _, by omega, Live.new, Live.newj rfl, f0, f2, f4, rfl, rfl⟩ ?_
    clear f0 f2 f4 f5 f6 f7 fr
    rintro m fr K ⟨j, u, acc, hj, hacc, hpk, hu, hun, bu, b10, f0, f2, f4, f10, f11⟩
    have hal : acc.length = j := by rw [hacc, List.length_map, List.length_take]; omega
    have l6 := b10.lt
    have l7 := bu.lt
    have pk2 := p2m.pre hpk
    simp (disch := omega) only [f0, f2, f4, f10, f11, ↓SXd, SXu, slBounds, ↓sop, ↓aop, ↓reduceIte, LV.cells, AOp.dst, LV.I, LV.B, LV.U, LV.S, LV.nil, Nat.reduceEqDiff, Nat.reduceAdd, Nat.reduceMul, Nat.reduceSub, Nat.reduceLeDiff, Nat.reduceBEq, Nat.reduceDiv, Nat.reduceMod, Int.reduceToNat, Int.reduceLT, Int.reduceLE, Int.reduceAdd, Int.reduceSub, Int.reduceMul, Int.reduceEq, Int.reduceNeg, reduceCtorEq, resV, resAll, ARes.ev, LV.flat, ite_true, ite_false, exists_eq_left', exists_eq_left, keyOf, implies_true, fillC, capOf]
    refine condC_dec (fun hlt => ?_) (fun hlt => ?_)
    · have hjl : j < ws.length := by omega
      have hgj : getCell K t1 (j + 1) = some (.S (ws.getD j default)) := by
        rw [(a1m.pre hpk).cell, strL_get (by rw [List.length_cons]; omega)]; rfl
      have htk : (ws.take (j + 1)).map cellW = acc ++ [cellW (ws.getD j default)] := by
        rw [List.take_succ_eq_append_getElem hjl, List.map_append, hacc, List.getD_eq_getElem?_getD, List.getElem?_eq_getElem hjl]; rfl
      have hth := fun x y z cs hH e => hthree x y z cs hH e j hjl
      generalize ws.getD j default = w at *
      simp (disch := omega) only [f0, f2, f4, f10, f11, hgj, lenT_s, Nat.mul_one, Nat.zero_add, ↓SXd, SXu, slBounds, ↓sop, ↓aop, ↓reduceIte, LV.cells, AOp.dst, LV.I, LV.B, LV.U, LV.S, LV.nil, Nat.reduceEqDiff, Nat.reduceAdd, Nat.reduceMul, Nat.reduceSub, Nat.reduceLeDiff, Nat.reduceBEq, Nat.reduceDiv, Nat.reduceMod, Int.reduceToNat, Int.reduceLT, Int.reduceLE, Int.reduceAdd, Int.reduceSub, Int.reduceMul, Int.reduceEq, Int.reduceNeg, reduceCtorEq, resV, resAll, ARes.ev, LV.flat, ite_true, ite_false, exists_eq_left', exists_eq_left, keyOf, implies_true, fillC, capOf]
      refine condC_dec (fun h3 => ?_) (fun h3 => ?_)
      rotate_left
      · simp (disch := omega) only [f0, f2, f4, f10, f11, ↓SXd, SXu, slBounds, ↓sop, ↓aop, ↓reduceIte, LV.cells, AOp.dst, LV.I, LV.B, LV.U, LV.S, LV.nil, Nat.reduceEqDiff, Nat.reduceAdd, Nat.reduceMul, Nat.reduceSub, Nat.reduceLeDiff, Nat.reduceBEq, Nat.reduceDiv, Nat.reduceMod, Int.reduceToNat, Int.reduceLT, Int.reduceLE, Int.reduceAdd, Int.reduceSub, Int.reduceMul, Int.reduceEq, Int.reduceNeg, reduceCtorEq, resV, resAll, ARes.ev, LV.flat, ite_true, ite_false, exists_eq_left', exists_eq_left, keyOf, implies_true, fillC, capOf]
        refine memK_all pk2 rfl fun N k1 k2 k3 => ?_
        simp (disch := omega) only [f0, f2, f4, f10, f11, k2.cells, C.spec_ParseHeap, ↓SXd, SXu, slBounds, ↓sop, ↓aop, ↓reduceIte, LV.cells, AOp.dst, LV.I, LV.B, LV.U, LV.S, LV.nil, Nat.reduceEqDiff, Nat.reduceAdd, Nat.reduceMul, Nat.reduceSub, Nat.reduceLeDiff, Nat.reduceBEq, Nat.reduceDiv, Nat.reduceMod, Int.reduceToNat, Int.reduceLT, Int.reduceLE, Int.reduceAdd, Int.reduceSub, Int.reduceMul, Int.reduceEq, Int.reduceNeg, reduceCtorEq, resV, resAll, ARes.ev, LV.flat, ite_true, ite_false, exists_eq_left', exists_eq_left, keyOf, implies_true, fillC, capOf]
        refine ph_fail (fun x y z cs hH e => ?_) (pre_step (j := 0) (hMm.trans hpk) (Nat.le_refl _) k1 k3)
        have := hth x y z cs hH e
        omega
      · have hw3 : w.size = 3 := by omega
        have u0 := (w.data.toList.getD 0 0).toNat_lt
        have u1 := (w.data.toList.getD 1 0).toNat_lt
        have u2 := (w.data.toList.getD 2 0).toNat_lt
        have hc : cellW w = ⟨((w.data.toList.getD 0 0).toNat : Int) - 48, ((w.data.toList.getD 1 0).toNat : Int) - 48, ((w.data.toList.getD 2 0).toNat : Int) - 48⟩ := rfl
        rw [hc] at htk
        obtain ⟨d0, h0⟩ : ∃ d, (w.data.toList.getD 0 0).toNat = d := ⟨_, rfl⟩
        obtain ⟨d1, h1⟩ : ∃ d, (w.data.toList.getD 1 0).toNat = d := ⟨_, rfl⟩
        obtain ⟨d2, h2⟩ : ∃ d, (w.data.toList.getD 2 0).toNat = d := ⟨_, rfl⟩
        rw [h0, h1, h2] at htk
        rw [h0] at u0
        rw [h1] at u1
        rw [h2] at u2
        simp (disch := omega) only [f0, f2, f4, f10, f11, b10.cell, hgj, lenT_s, hw3, h0, h1, h2, Nat.mul_one, Nat.zero_add, splice, ↓SXd, SXu, slBounds, ↓sop, ↓aop, ↓reduceIte, LV.cells, AOp.dst, LV.I, LV.B, LV.U, LV.S, LV.nil, Nat.reduceEqDiff, Nat.reduceAdd, Nat.reduceMul, Nat.reduceSub, Nat.reduceLeDiff, Nat.reduceBEq, Nat.reduceDiv, Nat.reduceMod, Int.reduceToNat, Int.reduceLT, Int.reduceLE, Int.reduceAdd, Int.reduceSub, Int.reduceMul, Int.reduceEq, Int.reduceNeg, reduceCtorEq, resV, resAll, ARes.ev, LV.flat, ite_true, ite_false, exists_eq_left', exists_eq_left, keyOf, implies_true, fillC, capOf]
        refine appendK_cell bu (by omega) fun K1 k1 k2 k3 => ?_
        have c10 := live_step b10 (fun e => hun e.symm) k3
        have hp1 := pre_step hpk hu k1 k3
        simp (disch := omega) only [f0, f2, f4, f10, f11, ↓SXd, SXu, slBounds, ↓sop, ↓aop, ↓reduceIte, LV.cells, AOp.dst, LV.I, LV.B, LV.U, LV.S, LV.nil, Nat.reduceEqDiff, Nat.reduceAdd, Nat.reduceMul, Nat.reduceSub, Nat.reduceLeDiff, Nat.reduceBEq, Nat.reduceDiv, Nat.reduceMod, Int.reduceToNat, Int.reduceLT, Int.reduceLE, Int.reduceAdd, Int.reduceSub, Int.reduceMul, Int.reduceEq, Int.reduceNeg, reduceCtorEq, resV, resAll, ARes.ev, LV.flat, ite_true, ite_false, exists_eq_left', exists_eq_left, keyOf, implies_true, fillC, capOf]
        refine memK_st c10 (by simp) fun K2 q1 q2 q3 => ?_
        have q2' : Live K2 (M'.length + 1) (.row [.I n0, .I n1, .I n2, .ref (K.length + 1) 0 (acc ++ [(⟨(d0 : Int) - 48, (d1 : Int) - 48, (d2 : Int) - 48⟩ : Cell)]).length] true 0) := q2
        simp (disch := omega) only [f0, f2, f4, f10, f11, ↓SXd, SXu, slBounds, ↓sop, ↓aop, ↓reduceIte, LV.cells, AOp.dst, LV.I, LV.B, LV.U, LV.S, LV.nil, Nat.reduceEqDiff, Nat.reduceAdd, Nat.reduceMul, Nat.reduceSub, Nat.reduceLeDiff, Nat.reduceBEq, Nat.reduceDiv, Nat.reduceMod, Int.reduceToNat, Int.reduceLT, Int.reduceLE, Int.reduceAdd, Int.reduceSub, Int.reduceMul, Int.reduceEq, Int.reduceNeg, reduceCtorEq, resV, resAll, ARes.ev, LV.flat, ite_true, ite_false, exists_eq_left', exists_eq_left, keyOf, implies_true, fillC, capOf]
        refine ⟨m - 1, by omega, j + 1, K.length + 1, acc ++ [⟨(d0 : Int) - 48, (d1 : Int) - 48, (d2 : Int) - 48⟩], by omega, htk.symm, pre_step (j := 0) hp1 (by omega) q1 q3, by omega, by omega, live_step k2 (by omega) q3, q2', f0, f2, f4, f10, eqI (natI _)⟩
    · have hjw : j = ws.length := by omega
      subst hjw
      rw [List.take_length] at hacc
      simp (disch := omega) only [f0, f2, f4, f10, f11, b10.cells, ↓SXd, SXu, slBounds, ↓sop, ↓aop, ↓reduceIte, LV.cells, AOp.dst, LV.I, LV.B, LV.U, LV.S, LV.nil, Nat.reduceEqDiff, Nat.reduceAdd, Nat.reduceMul, Nat.reduceSub, Nat.reduceLeDiff, Nat.reduceBEq, Nat.reduceDiv, Nat.reduceMod, Int.reduceToNat, Int.reduceLT, Int.reduceLE, Int.reduceAdd, Int.reduceSub, Int.reduceMul, Int.reduceEq, Int.reduceNeg, reduceCtorEq, resV, resAll, ARes.ev, LV.flat, ite_true, ite_false, exists_eq_left', exists_eq_left, keyOf, implies_true, fillC, capOf]
      refine callK_of (h_l2Heap bu.has (by omega)) ?_
      by_cases hH : HeapOK n0 n1 n2 acc
      · simp (disch := omega) only [f0, f2, f4, f10, f11, hH, b10.cells, ↓SXd, SXu, slBounds, ↓sop, ↓aop, ↓reduceIte, LV.cells, AOp.dst, LV.I, LV.B, LV.U, LV.S, LV.nil, Nat.reduceEqDiff, Nat.reduceAdd, Nat.reduceMul, Nat.reduceSub, Nat.reduceLeDiff, Nat.reduceBEq, Nat.reduceDiv, Nat.reduceMod, Int.reduceToNat, Int.reduceLT, Int.reduceLE, Int.reduceAdd, Int.reduceSub, Int.reduceMul, Int.reduceEq, Int.reduceNeg, reduceCtorEq, resV, resAll, ARes.ev, LV.flat, ite_true, ite_false, exists_eq_left', exists_eq_left, keyOf, implies_true, fillC, capOf]
        refine callK_of (h_l2Text bu.has hH) ?_
        by_cases hts : txH n0 n1 n2 acc = s
        · simp (disch := omega) only [f0, f2, f4, f10, f11, bvs_neq, ba_beq, decide_eq_true, hts, Bool.not_true, b10.cells, ↓SXd, SXu, slBounds, ↓sop, ↓aop, ↓reduceIte, LV.cells, AOp.dst, LV.I, LV.B, LV.U, LV.S, LV.nil, Nat.reduceEqDiff, Nat.reduceAdd, Nat.reduceMul, Nat.reduceSub, Nat.reduceLeDiff, Nat.reduceBEq, Nat.reduceDiv, Nat.reduceMod, Int.reduceToNat, Int.reduceLT, Int.reduceLE, Int.reduceAdd, Int.reduceSub, Int.reduceMul, Int.reduceEq, Int.reduceNeg, reduceCtorEq, resV, resAll, ARes.ev, LV.flat, ite_true, ite_false, exists_eq_left', exists_eq_left, keyOf, implies_true, fillC, capOf]
          refine memK_all pk2 rfl fun N k1 k2 k3 => ?_
          simp (disch := omega) only [f0, f2, f4, f10, f11, k2.cells, C.spec_ParseHeap, ↓SXd, SXu, slBounds, ↓sop, ↓aop, ↓reduceIte, LV.cells, AOp.dst, LV.I, LV.B, LV.U, LV.S, LV.nil, Nat.reduceEqDiff, Nat.reduceAdd, Nat.reduceMul, Nat.reduceSub, Nat.reduceLeDiff, Nat.reduceBEq, Nat.reduceDiv, Nat.reduceMod, Int.reduceToNat, Int.reduceLT, Int.reduceLE, Int.reduceAdd, Int.reduceSub, Int.reduceMul, Int.reduceEq, Int.reduceNeg, reduceCtorEq, resV, resAll, ARes.ev, LV.flat, ite_true, ite_false, exists_eq_left', exists_eq_left, keyOf, implies_true, fillC, capOf]
          exact ph_good hH hts (live_step bu (by omega) k3) (by omega) (pre_step (j := 0) (hMm.trans hpk) (Nat.le_refl _) k1 k3)
        · simp (disch := omega) only [f0, f2, f4, f10, f11, bvs_neq, ba_beq, decide_eq_false, hts, Bool.not_false, ↓SXd, SXu, slBounds, ↓sop, ↓aop, ↓reduceIte, LV.cells, AOp.dst, LV.I, LV.B, LV.U, LV.S, LV.nil, Nat.reduceEqDiff, Nat.reduceAdd, Nat.reduceMul, Nat.reduceSub, Nat.reduceLeDiff, Nat.reduceBEq, Nat.reduceDiv, Nat.reduceMod, Int.reduceToNat, Int.reduceLT, Int.reduceLE, Int.reduceAdd, Int.reduceSub, Int.reduceMul, Int.reduceEq, Int.reduceNeg, reduceCtorEq, resV, resAll, ARes.ev, LV.flat, ite_true, ite_false, exists_eq_left', exists_eq_left, keyOf, implies_true, fillC, capOf]
          refine memK_all pk2 rfl fun N k1 k2 k3 => ?_
          simp (disch := omega) only [f0, f2, f4, f10, f11, k2.cells, C.spec_ParseHeap, ↓SXd, SXu, slBounds, ↓sop, ↓aop, ↓reduceIte, LV.cells, AOp.dst, LV.I, LV.B, LV.U, LV.S, LV.nil, Nat.reduceEqDiff, Nat.reduceAdd, Nat.reduceMul, Nat.reduceSub, Nat.reduceLeDiff, Nat.reduceBEq, Nat.reduceDiv, Nat.reduceMod, Int.reduceToNat, Int.reduceLT, Int.reduceLE, Int.reduceAdd, Int.reduceSub, Int.reduceMul, Int.reduceEq, Int.reduceNeg, reduceCtorEq, resV, resAll, ARes.ev, LV.flat, ite_true, ite_false, exists_eq_left', exists_eq_left, keyOf, implies_true, fillC, capOf]
          refine ph_fail (fun x y z cs hH e => ?_) (pre_step (j := 0) (hMm.trans hpk) (Nat.le_refl _) k1 k3)
          obtain ⟨rfl, rfl, rfl, e4⟩ := hfin x y z cs hH e
          rw [hacc, e4] at hts
          exact hts e
      · simp (disch := omega) only [f0, f2, f4, f10, f11, hH, ↓SXd, SXu, slBounds, ↓sop, ↓aop, ↓reduceIte, LV.cells, AOp.dst, LV.I, LV.B, LV.U, LV.S, LV.nil, Nat.reduceEqDiff, Nat.reduceAdd, Nat.reduceMul, Nat.reduceSub, Nat.reduceLeDiff, Nat.reduceBEq, Nat.reduceDiv, Nat.reduceMod, Int.reduceToNat, Int.reduceLT, Int.reduceLE, Int.reduceAdd, Int.reduceSub, Int.reduceMul, Int.reduceEq, Int.reduceNeg, reduceCtorEq, resV, resAll, ARes.ev, LV.flat, ite_true, ite_false, exists_eq_left', exists_eq_left, keyOf, implies_true, fillC, capOf]
        refine memK_all pk2 rfl fun N k1 k2 k3 => ?_
        simp (disch := omega) only [f0, f2, f4, f10, f11, k2.cells, C.spec_ParseHeap, ↓SXd, SXu, slBounds, ↓sop, ↓aop, ↓reduceIte, LV.cells, AOp.dst, LV.I, LV.B, LV.U, LV.S, LV.nil, Nat.reduceEqDiff, Nat.reduceAdd, Nat.reduceMul, Nat.reduceSub, Nat.reduceLeDiff, Nat.reduceBEq, Nat.reduceDiv, Nat.reduceMod, Int.reduceToNat, Int.reduceLT, Int.reduceLE, Int.reduceAdd, Int.reduceSub, Int.reduceMul, Int.reduceEq, Int.reduceNeg, reduceCtorEq, resV, resAll, ARes.ev, LV.flat, ite_true, ite_false, exists_eq_left', exists_eq_left, keyOf, implies_true, fillC, capOf]
        refine ph_fail (fun x y z cs hH' e => ?_) (pre_step (j := 0) (hMm.trans hpk) (Nat.le_refl _) k1 k3)
        obtain ⟨rfl, rfl, rfl, e4⟩ := hfin x y z cs hH' e
        rw [hacc, e4] at hH
        exact hH hH'
end Go.Ab

namespace Go.Ab.C
open Go.Ab
def impl_ParseHeap : AFn :=
 ⟨1, 76, [.cellN 2 4, .tmp 3],
 .seq (.ops [(none, .alloc 2 [(.I 0), (.I 0), (.I 0), .nil]),
 (none, .mv 3 (.c (.B false)))])
 (.seq (.ops [(none, .mv 9 (.t 0)),
 (none, .call (some 10) F.strings_Split [(.t 9), (.c (.val (.string (ByteArray.mk #[32]))))]),
 (none, .mv 4 (.t 10))])
 (.seq (.seq (.ops [(none, .mv 11 (.t 0)),
 (none, .lenT 12 (.t 11)),
 (none, .bin 13 .gtr (.t 12) (.c (.I 300))),
 (none, .mv 14 (.t 13)),
 (some (14, false), .mv 15 (.t 4)),
 (some (14, false), .idxS 16 1 (.t 15) (.c (.I 0))),
 (some (14, false), .load1 17 (.t 16)),
 (some (14, false), .lenT 18 (.t 17)),
 (some (14, false), .bin 19 .neq (.t 18) (.c (.I 5))),
 (none, .pick 20 (.t 14) (.c (.B true)) (.t 19))])
 (.cond (.t 20) (.seq (.ops [(none, .build 21 [(.I 0), (.I 0), (.I 0), .nil] []),
 (none, .store 4 (.t 2) (.t 21)),
 (none, .mv 3 (.c (.B false)))])
 (.ret))
 (.skip)))
 (.seq (.ops [(none, .mv 5 (.c (.clo F.impl_ParseHeap_1 [])))])
 (.seq (.draw [⟨(none, .mv 22 (.t 5)), [], []⟩,
 ⟨(none, .mv 23 (.t 0)), [], []⟩,
 ⟨(none, .idxT 24 (.t 23) (.c (.I 0))), [], []⟩,
 ⟨(none, .mv 26 (.t 5)), [], []⟩,
 ⟨(none, .mv 27 (.t 0)), [], []⟩,
 ⟨(none, .idxT 28 (.t 27) (.c (.I 2))), [], []⟩,
 ⟨(none, .mv 30 (.t 5)), [], []⟩,
 ⟨(none, .mv 31 (.t 0)), [], []⟩,
 ⟨(none, .idxT 32 (.t 31) (.c (.I 4))), [], []⟩,
 ⟨(none, .alloc 6 [(.I 0), (.I 0), (.I 0), .nil]), [], []⟩,
 ⟨(none, .callV (some 25) (.t 22) [(.t 24)]), [9], [3, 4, 5, 6, 7, 8]⟩,
 ⟨(none, .callV (some 29) (.t 26) [(.t 28)]), [9], [6, 7, 8]⟩,
 ⟨(none, .callV (some 33) (.t 30) [(.t 32)]), [9], []⟩,
 ⟨(none, .build 34 [(.I 0), (.I 0), (.I 0), .nil] [(0, 1, (.t 25)), (1, 1, (.t 29)), (2, 1, (.t 33))]), [], []⟩,
 ⟨(none, .store 4 (.t 6) (.t 34)), [], []⟩])
 (.seq (.seq (.ops [(none, .mv 35 (.t 4)),
 (none, .slS 36 1 (.t 35) (some (.c (.I 1))) none),
 (none, .len 37 (.t 36)),
 (none, .mv 38 (.c (.I 0)))])
 (.block 0 (.loop (.seq (.ops [(none, .bin 39 .lss (.t 38) (.t 37))])
 (.seq (.cond (.t 39) (.skip)
 (.exit 0))
 (.seq (.block 1 (.seq (.ops [(none, .idxS 40 1 (.t 36) (.t 38)),
 (none, .load1 41 (.t 40)),
 (none, .mv 8 (.t 41))])
 (.seq (.seq (.ops [(none, .mv 42 (.t 8)),
 (none, .lenT 43 (.t 42)),
 (none, .bin 44 .neq (.t 43) (.c (.I 3)))])
 (.cond (.t 44) (.seq (.ops [(none, .build 45 [(.I 0), (.I 0), (.I 0), .nil] []),
 (none, .store 4 (.t 2) (.t 45)),
 (none, .mv 3 (.c (.B false)))])
 (.ret))
 (.skip)))
 (.draw [⟨(none, .fieldAddr 46 (.t 6) 3), [], []⟩,
 ⟨(none, .load1 47 (.t 46)), [], []⟩,
 ⟨(none, .mv 48 (.t 5)), [], []⟩,
 ⟨(none, .mv 49 (.t 8)), [], []⟩,
 ⟨(none, .idxT 50 (.t 49) (.c (.I 0))), [], []⟩,
 ⟨(none, .mv 52 (.t 5)), [], []⟩,
 ⟨(none, .mv 53 (.t 8)), [], []⟩,
 ⟨(none, .idxT 54 (.t 53) (.c (.I 1))), [], []⟩,
 ⟨(none, .mv 56 (.t 5)), [], []⟩,
 ⟨(none, .mv 57 (.t 8)), [], []⟩,
 ⟨(none, .idxT 58 (.t 57) (.c (.I 2))), [], []⟩,
 ⟨(none, .callV (some 51) (.t 48) [(.t 50)]), [], [0, 1, 5, 6, 7, 8, 9, 10]⟩,
 ⟨(none, .callV (some 55) (.t 52) [(.t 54)]), [], [0, 1, 8, 9, 10]⟩,
 ⟨(none, .callV (some 59) (.t 56) [(.t 58)]), [], [0, 1]⟩,
 ⟨(none, .build 60 [(.I 0), (.I 0), (.I 0)] [(0, 1, (.t 51)), (1, 1, (.t 55)), (2, 1, (.t 59))]), [], []⟩,
 ⟨(none, .buildSl 61 1 3 [(.I 0), (.I 0), (.I 0)] [(0, 3, (.t 60))]), [], []⟩,
 ⟨(none, .append 62 3 24 (.t 47) (.t 61)), [], []⟩,
 ⟨(none, .fieldAddr 63 (.t 6) 3), [], []⟩,
 ⟨(none, .store 1 (.t 63) (.t 62)), [], []⟩]))))
 (.ops [(none, .bin 64 .add (.t 38) (.c (.I 1))),
 (none, .mv 38 (.t 64))])))))))
 (.seq (.seq (.ops [(none, .loadN 65 4 (.t 6)),
 (none, .call (some 66) F.impl_IsHeap [(.t 65)]),
 (none, .un 67 .not (.t 66)),
 (none, .mv 68 (.t 67)),
 (some (68, false), .loadN 69 4 (.t 6)),
 (some (68, false), .call (some 70) F.impl_heapText [(.t 69)]),
 (some (68, false), .mv 71 (.t 0)),
 (some (68, false), .bin 72 .neq (.t 70) (.t 71)),
 (none, .pick 73 (.t 68) (.c (.B true)) (.t 72))])
 (.cond (.t 73) (.seq (.ops [(none, .build 74 [(.I 0), (.I 0), (.I 0), .nil] []),
 (none, .store 4 (.t 2) (.t 74)),
 (none, .mv 3 (.c (.B false)))])
 (.ret))
 (.skip)))
 (.seq (.ops [(none, .loadN 75 4 (.t 6)),
 (none, .store 4 (.t 2) (.t 75)),
 (none, .mv 3 (.c (.B true)))])
 (.ret))))))))⟩
def impl_ParseHeap_1 : AFn :=
 ⟨1, 6, [.tmp 2],
 .seq (.ops [(none, .mv 2 (.c (.I 0)))])
 (.seq (.ops [(none, .mv 3 (.t 0)),
 (none, .conv 4 .i64 (.t 3)),
 (none, .bin 5 .sub (.t 4) (.c (.I 48))),
 (none, .mv 2 (.t 5))])
 (.ret))⟩
end Go.Ab.C

namespace Go.Ab.K
open Go Go.Ab
theorem impl_ParseHeap : prepF Go.Proofs.Tryd.prog F.impl_ParseHeap = some C.impl_ParseHeap := by kernel_rfl
theorem impl_ParseHeap_1 : prepF Go.Proofs.Tryd.prog F.impl_ParseHeap_1 = some C.impl_ParseHeap_1 := by kernel_rfl
end Go.Ab.K
