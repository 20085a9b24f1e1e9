/- Parts of the proof of FnTablesSaid: Co C_Cp K_Cp C_Kj K_Kj C_Xi K_Xi C_Xh K_Xh C_Xg K_Xg C_Xf K_Xf C_Xc K_Xc Xc C_Xe K_Xe Xd Xe Xf C_Xs K_Xs Xs Xg Xh C_Jq K_Jq C_Jj K_Jj Jj Jq Xi Kj Cp Ck Cq. -/
import Derived.Test.YtggnfklcgopflaaA7
import Derived.Test.YtggnfklcgopflaaA4
import Derived.Test.YtggnfklcgopflaaA10
import Derived.Test.YtggnfklcgopflaaA9
import Derived.Test.YtggnfklcgopflaaA3
import Derived.Test.YtggnfklcgopflaaProg
import Derived.KernelRfl
import Derived.Test.YtggnfklcgopflaaA8
import Derived.Test.YtggnfklcgopflaaA6
set_option linter.all false
/- Contracts: lines by their cubes, both sides. -/
namespace Go.Ab
open Go
set_option linter.unusedSimpArgs false
set_option linter.unusedVariables false
set_option maxRecDepth 20000

theorem line_cell {x y z : Int} {c e : Cell} {d : Nat} (hS : Sides x y z) (hc : c.inBox x y z) (he : e.inBox x y z) (hd : d < 3) (h1 : lineOf y z c d = lineOf y z e d) (h2 : c.at d = e.at d) : c = e := by
  obtain ⟨hx, hy, hz⟩ := hS
  obtain ⟨⟨_, _⟩, ⟨_, _⟩, ⟨_, _⟩⟩ := hc
  obtain ⟨⟨_, _⟩, ⟨_, _⟩, ⟨_, _⟩⟩ := he
  have e2 : y = 1 ∨ y = 2 ∨ y = 3 ∨ y = 4 := by omega
  have e3 : z = 1 ∨ z = 2 ∨ z = 3 ∨ z = 4 := by omega
  rw [cell_eq]
  rcases (show d = 0 ∨ d = 1 ∨ d = 2 by omega) with rfl | rfl | rfl <;> simp [Cell.at] at h2 <;> simp [lineOf] at h1 <;> rcases e2 with rfl | rfl | rfl | rfl <;> rcases e3 with rfl | rfl | rfl | rfl <;> omega
theorem lineN_le {x y z : Int} {cs : List Cell} {d i : Nat} (hH : HeapOK x y z cs) (hd : d < 3) : ((lineN y z d cs i : Nat) : Int) ≤ sideOf x y z (d : Nat) := by
  have hS := hH.1
  have sD := sideOf_in hS (d : Nat)
  have h1 : (List.map (fun c : Cell => (c.at (d : Nat)).toNat) (cs.filter (onLine y z d i))).Nodup := by
    refine List.pairwise_map.2 ((hH.nodup.filter _).imp_of_mem fun {a b} ha hb hne => ?_)
    intro e
    obtain ⟨a1, a2⟩ := List.mem_filter.1 ha
    obtain ⟨b1, b2⟩ := List.mem_filter.1 hb
    have q1 := hH.mem a1
    have q2 := hH.mem b1
    have l1 := (lyr_box hS hd q1).1
    have l2 := (lyr_box hS hd q2).1
    have m1 := lineOf_in hS q1 hd
    have m2 := lineOf_in hS q2 hd
    have a3 : (lineOf y z a d).toNat = i := of_decide_eq_true a2
    have b3 : (lineOf y z b d).toNat = i := of_decide_eq_true b2
    exact hne (line_cell hS q1 q2 hd (by omega) (by omega))
  have h2 := sub_len (l' := List.range (sideOf x y z (d : Nat)).toNat) h1 List.nodup_range fun a ha => by
    obtain ⟨c, c1, rfl⟩ := List.mem_map.1 ha
    have := (lyr_box hS hd (hH.mem (List.mem_filter.1 c1).1)).1
    exact List.mem_range.2 (by omega)
  rw [List.length_map, List.length_range, ← List.countP_eq_length_filter] at h2
  unfold lineN
  omega
theorem view_in {x y z : Int} {cs : List Cell} {d : Nat} (hH : HeapOK x y z cs) (hd : d < 3) : ∀ v ∈ viewL x y z d cs, 0 ≤ v ∧ v ≤ sideOf x y z (d : Nat) := by
  intro v hv
  rw [view_range] at hv
  obtain ⟨i, _, rfl⟩ := List.mem_map.1 hv
  exact ⟨by omega, lineN_le hH hd⟩
theorem snoc_ind {P : List Int → Prop} (h0 : P []) (h1 : ∀ V v, P V → P (V ++ [v])) (V : List Int) : P V := by
  have key : ∀ l : List Int, P l.reverse := fun l => by
    induction l with
    | nil => exact h0
    | cons v l ih => rw [List.reverse_cons]; exact h1 _ _ ih
  have := key V.reverse
  rwa [List.reverse_reverse] at this
def wStep (l : List Int) (v : Int) : List Int := l.set v.toNat (l.getD v.toNat 0 + 1)
def withF (s : Nat) (V : List Int) : List Int := V.foldl wStep (List.replicate (s + 1) 0)
theorem withF_len {s : Nat} {V : List Int} : (withF s V).length = s + 1 := by
  unfold withF
  have : ∀ (V l : List Int), (V.foldl wStep l).length = l.length := fun V => by
    induction V with
    | nil => intro l; rfl
    | cons v V ih => intro l; rw [List.foldl_cons, ih]; simp [wStep]
  rw [this]; simp
theorem withF_snoc {s : Nat} {V : List Int} {v : Int} : withF s (V ++ [v]) = (withF s V).set v.toNat ((withF s V).getD v.toNat 0 + 1) := by
  unfold withF
  rw [List.foldl_append]; rfl
theorem withF_sum {s : Nat} (V : List Int) : (∀ v ∈ V, 0 ≤ v ∧ v ≤ s) → litSum (withF s V) = (V.length : Nat) := by
  refine snoc_ind (P := fun V => (∀ v ∈ V, 0 ≤ v ∧ v ≤ s) → litSum (withF s V) = (V.length : Nat)) ?_ ?_ V
  · intro _; simp [withF, litSum_zero]
  · intro V v ih h
    have h1 := ih fun u hu => h u (by simp [hu])
    have h2 := h v (by simp)
    rw [withF_snoc, litSum_set (by rw [withF_len]; omega), h1, List.length_append]
    simp; omega
theorem withF_bound {s : Nat} (V : List Int) : ∀ a ∈ withF s V, 0 ≤ a ∧ a ≤ (V.length : Nat) := by
  refine snoc_ind (P := fun V => ∀ a ∈ withF s V, 0 ≤ a ∧ a ≤ (V.length : Nat)) ?_ ?_ V
  · intro a ha; simp [withF] at ha; omega
  · intro V v ih a ha
    rw [withF_snoc] at ha
    rw [List.length_append, List.length_singleton]
    rcases List.mem_or_eq_of_mem_set ha with h | h
    · have := ih a h; omega
    · rw [h]
      by_cases hv : v.toNat < (withF s V).length
      · have := ih _ (getD_mem' (d := 0) hv); omega
      · rw [List.getD_eq_getElem?_getD, List.getElem?_eq_none (by omega)]; simp; omega
def WithR (M : Mem) (L : List Int) (v : LV) (N : Mem) : Prop := ∃ u, v = .ref u 0 L.length ∧ Live N u (.row (intL L) true 1) ∧ M.length ≤ u ∧ Pre M N
section
variable {x y z : Int} {t : Nat} {cs : List Cell} {M : Mem} (h : Tri M t 0 cs) (hH : HeapOK x y z cs)
include h hH
theorem g_linesWith {d : Nat} (hd : d < 3) : CallsR PG F.impl_Heap_linesWith [.agg [.I x, .I y, .I z, .ref t 0 cs.length], .I d] M (WithR M (withF (sideOf x y z (d : Nat)).toNat (viewL x y z d cs))) := by
  have hS := hH.1
  have hlen := hH.len
  have sD := sideOf_in hS (d : Nat)
  have hdd : Dir (d : Nat) := by unfold Dir; omega
  have hsD := sideB_row (x := x) (y := y) (z := z) hdd
  rw [Int.toNat_natCast] at hsD
  refine callsR_run K.impl_Heap_linesWith rfl ?_
  simp (disch := omega) only [C.impl_Heap_linesWith, ↓SXd, SXu, slBounds, ↓sop, ↓aop, ↓reduceIte, LV.cells, AOp.dst, LV.I, LV.B, LV.U, LV.S, LV.nil, Nat.reduceEqDiff, Nat.reduceAdd, Nat.reduceMul, Nat.reduceSub, Nat.reduceLeDiff, Nat.reduceBEq, Nat.reduceDiv, Nat.reduceMod, Int.reduceToNat, Int.reduceLT, Int.reduceLE, Int.reduceAdd, Int.reduceSub, Int.reduceMul, Int.reduceEq, Int.reduceNeg, reduceCtorEq, resV, resAll, ARes.ev, LV.flat, ite_true, ite_false, exists_eq_left', exists_eq_left, keyOf, implies_true, fillC, capOf]
  have hpk : pick x y z (fun c => decide (c ∈ cs)) = cs := hH.pick.symm
  refine callK_of (g_box) ?_
  simp (disch := omega) only [hsD, ↓SXd, SXu, slBounds, ↓sop, ↓aop, ↓reduceIte, LV.cells, AOp.dst, LV.I, LV.B, LV.U, LV.S, LV.nil, Nat.reduceEqDiff, Nat.reduceAdd, Nat.reduceMul, Nat.reduceSub, Nat.reduceLeDiff, Nat.reduceBEq, Nat.reduceDiv, Nat.reduceMod, Int.reduceToNat, Int.reduceLT, Int.reduceLE, Int.reduceAdd, Int.reduceSub, Int.reduceMul, Int.reduceEq, Int.reduceNeg, reduceCtorEq, resV, resAll, ARes.ev, LV.flat, ite_true, ite_false, exists_eq_left', exists_eq_left, keyOf, implies_true, fillC, capOf]
  refine callK_of (g_box) ?_
  simp (disch := omega) only [↓SXd, SXu, slBounds, ↓sop, ↓aop, ↓reduceIte, LV.cells, AOp.dst, LV.I, LV.B, LV.U, LV.S, LV.nil, Nat.reduceEqDiff, Nat.reduceAdd, Nat.reduceMul, Nat.reduceSub, Nat.reduceLeDiff, Nat.reduceBEq, Nat.reduceDiv, Nat.reduceMod, Int.reduceToNat, Int.reduceLT, Int.reduceLE, Int.reduceAdd, Int.reduceSub, Int.reduceMul, Int.reduceEq, Int.reduceNeg, reduceCtorEq, resV, resAll, ARes.ev, LV.flat, ite_true, ite_false, exists_eq_left', exists_eq_left, keyOf, implies_true, fillC, capOf]
  refine callK_of (g_cubes h.app (by omega) hS (fun c hc => hH.mem hc)) ?_
  simp (disch := omega) only [↓SXd, SXu, slBounds, ↓sop, ↓aop, ↓reduceIte, LV.cells, AOp.dst, LV.I, LV.B, LV.U, LV.S, LV.nil, Nat.reduceEqDiff, Nat.reduceAdd, Nat.reduceMul, Nat.reduceSub, Nat.reduceLeDiff, Nat.reduceBEq, Nat.reduceDiv, Nat.reduceMod, Int.reduceToNat, Int.reduceLT, Int.reduceLE, Int.reduceAdd, Int.reduceSub, Int.reduceMul, Int.reduceEq, Int.reduceNeg, reduceCtorEq, resV, resAll, ARes.ev, LV.flat, ite_true, ite_false, exists_eq_left', exists_eq_left, keyOf, implies_true, fillC, capOf]
  have hgv := g_view (x := x) (y := y) (z := z) (d := d) (p := fun c => decide (c ∈ cs)) (M := M ++ [some (.row [.I x, .I y, .I z, .ref t 0 cs.length] true 0), some (.row (List.replicate (sideOf x y z (d : Nat) + 1).toNat [LV.val (.int .i64 0)]).flatten true 1)]) hS hd
  rw [hpk] at hgv
  refine callK_of hgv ?_
  have hvl := viewL_len (x := x) (y := y) (z := z) (d := d) (cs := cs)
  have hvb := view_in hH hd
  have hll := lines_le hS hd
  simp (disch := omega) only [↓SXd, SXu, slBounds, ↓sop, ↓aop, ↓reduceIte, LV.cells, AOp.dst, LV.I, LV.B, LV.U, LV.S, LV.nil, Nat.reduceEqDiff, Nat.reduceAdd, Nat.reduceMul, Nat.reduceSub, Nat.reduceLeDiff, Nat.reduceBEq, Nat.reduceDiv, Nat.reduceMod, Int.reduceToNat, Int.reduceLT, Int.reduceLE, Int.reduceAdd, Int.reduceSub, Int.reduceMul, Int.reduceEq, Int.reduceNeg, reduceCtorEq, resV, resAll, ARes.ev, LV.flat, ite_true, ite_false, exists_eq_left', exists_eq_left, keyOf, implies_true, fillC, capOf]
  have hs1 : (sideOf x y z (d : Nat) + 1).toNat = (sideOf x y z (d : Nat)).toNat + 1 := by omega
  rw [rep_ints, hs1]
  have hvb' : ∀ v ∈ viewL x y z d cs, 0 ≤ v ∧ v ≤ ((sideOf x y z (d : Nat)).toNat : Nat) := fun v hv => by have := hvb v hv; omega
  have hV16 : (viewL x y z d cs).length ≤ 16 := by omega
  generalize viewL x y z d cs = V at hvb' hV16 ⊢
  generalize (sideOf x y z (d : Nat)).toNat = S at hvb' ⊢
  refine ev_loop (fun m fr M' => ∃ k : Nat, k + m = V.length ∧ Pre M M' ∧ Live M' (M.length + 1) (.row (intL (withF S (V.take k))) true 1) ∧ Live M' (M.length + 2) (.row (intL V) true 1) ∧
    fr 5 = .ref (M.length + 1) 0 (S + 1) ∧ fr 19 = .ref (M.length + 2) 0 V.length ∧ fr 20 = .I V.length ∧ fr 21 = .I k) V.length
    ⟨0, by omega, Pre.app _ _, Live.newj (j := 1) rfl, Live.newj (j := 2) rfl, rfl, rfl, rfl, rfl⟩ ?_
  rintro m fr M' ⟨k, hk, hpre, bW, bV, f5, f19, f20, f21⟩
  simp (disch := omega) only [f5, f19, f20, f21, ↓SXd, SXu, slBounds, ↓sop, ↓aop, ↓reduceIte, LV.cells, AOp.dst, LV.I, LV.B, LV.U, LV.S, LV.nil, Nat.reduceEqDiff, Nat.reduceAdd, Nat.reduceMul, Nat.reduceSub, Nat.reduceLeDiff, Nat.reduceBEq, Nat.reduceDiv, Nat.reduceMod, Int.reduceToNat, Int.reduceLT, Int.reduceLE, Int.reduceAdd, Int.reduceSub, Int.reduceMul, Int.reduceEq, Int.reduceNeg, reduceCtorEq, resV, resAll, ARes.ev, LV.flat, ite_true, ite_false, exists_eq_left', exists_eq_left, keyOf, implies_true, fillC, capOf]
  refine condC_dec (fun hlt => ?_) (fun hlt => ?_)
  rotate_left
  · have : k = V.length := by omega
    subst this
    rw [List.take_length] at bW
    simp (disch := omega) only [f5, f19, f20, f21, ↓SXd, SXu, slBounds, ↓sop, ↓aop, ↓reduceIte, LV.cells, AOp.dst, LV.I, LV.B, LV.U, LV.S, LV.nil, Nat.reduceEqDiff, Nat.reduceAdd, Nat.reduceMul, Nat.reduceSub, Nat.reduceLeDiff, Nat.reduceBEq, Nat.reduceDiv, Nat.reduceMod, Int.reduceToNat, Int.reduceLT, Int.reduceLE, Int.reduceAdd, Int.reduceSub, Int.reduceMul, Int.reduceEq, Int.reduceNeg, reduceCtorEq, resV, resAll, ARes.ev, LV.flat, ite_true, ite_false, exists_eq_left', exists_eq_left, keyOf, implies_true, fillC, capOf]
    exact ⟨M.length + 1, by rw [withF_len], bW, by omega, hpre⟩
  have hkl : k < V.length := by omega
  have hg := Ints.get bV.has hkl
  rw [Nat.zero_add] at hg
  have hts := take_snocL 0 hkl
  have hv := hvb' _ (getD_mem' (d := 0) hkl)
  generalize V.getD k 0 = v at hg hts hv
  have hsn := withF_snoc (s := S) (V := V.take k) (v := v)
  rw [← hts] at hsn
  have hwl := withF_len (s := S) (V := V.take k)
  have hgw := Ints.get bW.has (k := v.toNat) (by omega)
  rw [Nat.zero_add] at hgw
  have hwb := withF_bound (s := S) (V.take k) _ (getD_mem' (d := 0) (show v.toNat < (withF S (V.take k)).length by omega))
  rw [List.length_take] at hwb
  generalize (withF S (V.take k)).getD v.toNat 0 = a at hgw hwb hsn
  have hvl1 : v < ((S + 1 : Nat) : Int) := by omega
  have hkl' : (k : Int) < (V.length : Nat) := by omega
  have hbVl := bV.lt
  simp (disch := omega) only [f5, f19, f20, f21, hg, hgw, hvl1, hkl', Nat.mul_one, Nat.zero_add, ↓SXd, SXu, slBounds, ↓sop, ↓aop, ↓reduceIte, LV.cells, AOp.dst, LV.I, LV.B, LV.U, LV.S, LV.nil, Nat.reduceEqDiff, Nat.reduceAdd, Nat.reduceMul, Nat.reduceSub, Nat.reduceLeDiff, Nat.reduceBEq, Nat.reduceDiv, Nat.reduceMod, Int.reduceToNat, Int.reduceLT, Int.reduceLE, Int.reduceAdd, Int.reduceSub, Int.reduceMul, Int.reduceEq, Int.reduceNeg, reduceCtorEq, resV, resAll, ARes.ev, LV.flat, ite_true, ite_false, exists_eq_left', exists_eq_left, keyOf, implies_true, fillC, capOf]
  refine memK_int bW (by omega) fun N3 k1 k2 k3 => ?_
  rw [← hsn] at k2
  simp (disch := omega) only [f5, f19, f20, f21, ↓SXd, SXu, slBounds, ↓sop, ↓aop, ↓reduceIte, LV.cells, AOp.dst, LV.I, LV.B, LV.U, LV.S, LV.nil, Nat.reduceEqDiff, Nat.reduceAdd, Nat.reduceMul, Nat.reduceSub, Nat.reduceLeDiff, Nat.reduceBEq, Nat.reduceDiv, Nat.reduceMod, Int.reduceToNat, Int.reduceLT, Int.reduceLE, Int.reduceAdd, Int.reduceSub, Int.reduceMul, Int.reduceEq, Int.reduceNeg, reduceCtorEq, resV, resAll, ARes.ev, LV.flat, ite_true, ite_false, exists_eq_left', exists_eq_left, keyOf, implies_true, fillC, capOf]
  exact ⟨m - 1, by omega, k + 1, by omega, pre_step hpre (by omega) (j := 0) k1 k3, k2, live_step bV (by omega) k3, f5, f19, f20, eqI (natI _)⟩
theorem h_l4With {d : Nat} (hd : d < 3) : CallsR PG F.spec_l4With [.agg [.I x, .I y, .I z, .ref t 0 cs.length], .I d] M (WithR M (withF (sideOf x y z (d : Nat)).toNat (viewL x y z d cs))) := by
  have hS := hH.1
  have hlen := hH.len
  have sD := sideOf_in hS (d : Nat)
  have hdd : Dir (d : Nat) := by unfold Dir; omega
  refine callsR_run K.spec_l4With rfl ?_
  simp (disch := omega) only [C.spec_l4With, ↓SXd, SXu, slBounds, ↓sop, ↓aop, ↓reduceIte, LV.cells, AOp.dst, LV.I, LV.B, LV.U, LV.S, LV.nil, Nat.reduceEqDiff, Nat.reduceAdd, Nat.reduceMul, Nat.reduceSub, Nat.reduceLeDiff, Nat.reduceBEq, Nat.reduceDiv, Nat.reduceMod, Int.reduceToNat, Int.reduceLT, Int.reduceLE, Int.reduceAdd, Int.reduceSub, Int.reduceMul, Int.reduceEq, Int.reduceNeg, reduceCtorEq, resV, resAll, ARes.ev, LV.flat, ite_true, ite_false, exists_eq_left', exists_eq_left, keyOf, implies_true, fillC, capOf]
  refine callK_of (h_l2Long hdd) ?_
  simp (disch := omega) only [↓SXd, SXu, slBounds, ↓sop, ↓aop, ↓reduceIte, LV.cells, AOp.dst, LV.I, LV.B, LV.U, LV.S, LV.nil, Nat.reduceEqDiff, Nat.reduceAdd, Nat.reduceMul, Nat.reduceSub, Nat.reduceLeDiff, Nat.reduceBEq, Nat.reduceDiv, Nat.reduceMod, Int.reduceToNat, Int.reduceLT, Int.reduceLE, Int.reduceAdd, Int.reduceSub, Int.reduceMul, Int.reduceEq, Int.reduceNeg, reduceCtorEq, resV, resAll, ARes.ev, LV.flat, ite_true, ite_false, exists_eq_left', exists_eq_left, keyOf, implies_true, fillC, capOf]
  refine callK_of (h_l2View h.app hH hd) ?_
  have hvl := viewL_len (x := x) (y := y) (z := z) (d := d) (cs := cs)
  have hvb := view_in hH hd
  have hll := lines_le hS hd
  simp (disch := omega) only [↓SXd, SXu, slBounds, ↓sop, ↓aop, ↓reduceIte, LV.cells, AOp.dst, LV.I, LV.B, LV.U, LV.S, LV.nil, Nat.reduceEqDiff, Nat.reduceAdd, Nat.reduceMul, Nat.reduceSub, Nat.reduceLeDiff, Nat.reduceBEq, Nat.reduceDiv, Nat.reduceMod, Int.reduceToNat, Int.reduceLT, Int.reduceLE, Int.reduceAdd, Int.reduceSub, Int.reduceMul, Int.reduceEq, Int.reduceNeg, reduceCtorEq, resV, resAll, ARes.ev, LV.flat, ite_true, ite_false, exists_eq_left', exists_eq_left, keyOf, implies_true, fillC, capOf]
  have hs1 : (sideOf x y z (d : Nat) + 1).toNat = (sideOf x y z (d : Nat)).toNat + 1 := by omega
  rw [rep_ints, hs1]
  have hvb' : ∀ v ∈ viewL x y z d cs, 0 ≤ v ∧ v ≤ ((sideOf x y z (d : Nat)).toNat : Nat) := fun v hv => by have := hvb v hv; omega
  have hV16 : (viewL x y z d cs).length ≤ 16 := by omega
  generalize viewL x y z d cs = V at hvb' hV16 ⊢
  generalize (sideOf x y z (d : Nat)).toNat = S at hvb' ⊢
  refine ev_loop (fun m fr M' => ∃ k : Nat, k + m = V.length ∧ Pre M M' ∧ Live M' (M.length + 1) (.row (intL (withF S (V.take k))) true 1) ∧ Live M' (M.length + 2) (.row (intL V) true 1) ∧
    fr 5 = .ref (M.length + 1) 0 (S + 1) ∧ fr 6 = .ref (M.length + 2) 0 V.length ∧ fr 7 = .I k) V.length
    ⟨0, by omega, Pre.app _ _, Live.newj (j := 1) rfl, Live.newj (j := 2) rfl, rfl, rfl, rfl⟩ ?_
  rintro m fr M' ⟨k, hk, hpre, bW, bV, f5, f6, f7⟩
  simp (disch := omega) only [f5, f6, f7, ↓SXd, SXu, slBounds, ↓sop, ↓aop, ↓reduceIte, LV.cells, AOp.dst, LV.I, LV.B, LV.U, LV.S, LV.nil, Nat.reduceEqDiff, Nat.reduceAdd, Nat.reduceMul, Nat.reduceSub, Nat.reduceLeDiff, Nat.reduceBEq, Nat.reduceDiv, Nat.reduceMod, Int.reduceToNat, Int.reduceLT, Int.reduceLE, Int.reduceAdd, Int.reduceSub, Int.reduceMul, Int.reduceEq, Int.reduceNeg, reduceCtorEq, resV, resAll, ARes.ev, LV.flat, ite_true, ite_false, exists_eq_left', exists_eq_left, keyOf, implies_true, fillC, capOf]
  refine condC_dec (fun hlt => ?_) (fun hlt => ?_)
  rotate_left
  · have : k = V.length := by omega
    subst this
    rw [List.take_length] at bW
    simp (disch := omega) only [f5, f6, f7, ↓SXd, SXu, slBounds, ↓sop, ↓aop, ↓reduceIte, LV.cells, AOp.dst, LV.I, LV.B, LV.U, LV.S, LV.nil, Nat.reduceEqDiff, Nat.reduceAdd, Nat.reduceMul, Nat.reduceSub, Nat.reduceLeDiff, Nat.reduceBEq, Nat.reduceDiv, Nat.reduceMod, Int.reduceToNat, Int.reduceLT, Int.reduceLE, Int.reduceAdd, Int.reduceSub, Int.reduceMul, Int.reduceEq, Int.reduceNeg, reduceCtorEq, resV, resAll, ARes.ev, LV.flat, ite_true, ite_false, exists_eq_left', exists_eq_left, keyOf, implies_true, fillC, capOf]
    exact ⟨M.length + 1, by rw [withF_len], bW, by omega, hpre⟩
  have hkl : k < V.length := by omega
  have hg := Ints.get bV.has hkl
  rw [Nat.zero_add] at hg
  have hts := take_snocL 0 hkl
  have hv := hvb' _ (getD_mem' (d := 0) hkl)
  generalize V.getD k 0 = v at hg hts hv
  have hsn := withF_snoc (s := S) (V := V.take k) (v := v)
  rw [← hts] at hsn
  have hwl := withF_len (s := S) (V := V.take k)
  have hgw := Ints.get bW.has (k := v.toNat) (by omega)
  rw [Nat.zero_add] at hgw
  have hwb := withF_bound (s := S) (V.take k) _ (getD_mem' (d := 0) (show v.toNat < (withF S (V.take k)).length by omega))
  rw [List.length_take] at hwb
  generalize (withF S (V.take k)).getD v.toNat 0 = a at hgw hwb hsn
  have hvl1 : v < ((S + 1 : Nat) : Int) := by omega
  have hkl' : (k : Int) < (V.length : Nat) := by omega
  have hbVl := bV.lt
  simp (disch := omega) only [f5, f6, f7, hg, hgw, hvl1, hkl', Nat.mul_one, Nat.zero_add, ↓SXd, SXu, slBounds, ↓sop, ↓aop, ↓reduceIte, LV.cells, AOp.dst, LV.I, LV.B, LV.U, LV.S, LV.nil, Nat.reduceEqDiff, Nat.reduceAdd, Nat.reduceMul, Nat.reduceSub, Nat.reduceLeDiff, Nat.reduceBEq, Nat.reduceDiv, Nat.reduceMod, Int.reduceToNat, Int.reduceLT, Int.reduceLE, Int.reduceAdd, Int.reduceSub, Int.reduceMul, Int.reduceEq, Int.reduceNeg, reduceCtorEq, resV, resAll, ARes.ev, LV.flat, ite_true, ite_false, exists_eq_left', exists_eq_left, keyOf, implies_true, fillC, capOf]
  refine memK_int bW (by omega) fun N3 k1 k2 k3 => ?_
  rw [← hsn] at k2
  simp (disch := omega) only [f5, f6, f7, ↓SXd, SXu, slBounds, ↓sop, ↓aop, ↓reduceIte, LV.cells, AOp.dst, LV.I, LV.B, LV.U, LV.S, LV.nil, Nat.reduceEqDiff, Nat.reduceAdd, Nat.reduceMul, Nat.reduceSub, Nat.reduceLeDiff, Nat.reduceBEq, Nat.reduceDiv, Nat.reduceMod, Int.reduceToNat, Int.reduceLT, Int.reduceLE, Int.reduceAdd, Int.reduceSub, Int.reduceMul, Int.reduceEq, Int.reduceNeg, reduceCtorEq, resV, resAll, ARes.ev, LV.flat, ite_true, ite_false, exists_eq_left', exists_eq_left, keyOf, implies_true, fillC, capOf]
  exact ⟨m - 1, by omega, k + 1, by omega, pre_step hpre (by omega) (j := 0) k1 k3, k2, live_step bV (by omega) k3, f5, f6, eqI (natI _)⟩
end
noncomputable def withOf (x y z : Int) (cs : List Cell) (d : Int) : List Int := by
  classical
  exact if HeapOK x y z cs ∧ Dir d then withF (sideOf x y z d).toNat (viewL x y z d.toNat cs) else []
noncomputable def fullOf (x y z : Int) (cs : List Cell) (d : Int) : Int := (withOf x y z cs d).getD (sideOf x y z d).toNat 0
section
variable {x y z d : Int} {t : Nat} {cs : List Cell} {M : Mem} (h : Tri M t 0 cs) (hn : cs.length ≤ 1000000000)
include h hn
theorem g_LinesWith : CallsR PG F.impl_LinesWith [.agg [.I x, .I y, .I z, .ref t 0 cs.length], .I d] M (IntsG M (withOf x y z cs d) (sqrB x y z cs d)) := by
  refine callsR_run K.impl_LinesWith rfl ?_
  simp (disch := omega) only [C.impl_LinesWith, ↓SXd, SXu, slBounds, ↓sop, ↓aop, ↓reduceIte, LV.cells, AOp.dst, LV.I, LV.B, LV.U, LV.S, LV.nil, Nat.reduceEqDiff, Nat.reduceAdd, Nat.reduceMul, Nat.reduceSub, Nat.reduceLeDiff, Nat.reduceBEq, Nat.reduceDiv, Nat.reduceMod, Int.reduceToNat, Int.reduceLT, Int.reduceLE, Int.reduceAdd, Int.reduceSub, Int.reduceMul, Int.reduceEq, Int.reduceNeg, reduceCtorEq, resV, resAll, ARes.ev, LV.flat, ite_true, ite_false, exists_eq_left', exists_eq_left, keyOf, implies_true, fillC, capOf]
  refine callK_of (g_IsHeap h.app hn) ?_
  simp (disch := omega) only [↓SXd, SXu, slBounds, ↓sop, ↓aop, ↓reduceIte, LV.cells, AOp.dst, LV.I, LV.B, LV.U, LV.S, LV.nil, Nat.reduceEqDiff, Nat.reduceAdd, Nat.reduceMul, Nat.reduceSub, Nat.reduceLeDiff, Nat.reduceBEq, Nat.reduceDiv, Nat.reduceMod, Int.reduceToNat, Int.reduceLT, Int.reduceLE, Int.reduceAdd, Int.reduceSub, Int.reduceMul, Int.reduceEq, Int.reduceNeg, reduceCtorEq, resV, resAll, ARes.ev, LV.flat, ite_true, ite_false, exists_eq_left', exists_eq_left, keyOf, implies_true, fillC, capOf]
  have hdd : Dir d ↔ 0 ≤ d ∧ d ≤ 2 := by unfold Dir; omega
  by_cases hH : HeapOK x y z cs
  rotate_left
  · rw [show withOf x y z cs d = [] from if_neg (fun e => hH e.1), show sqrB x y z cs d = false from decide_eq_false fun e => hH e.1]
    simp (disch := omega) only [hH, ↓SXd, SXu, slBounds, ↓sop, ↓aop, ↓reduceIte, LV.cells, AOp.dst, LV.I, LV.B, LV.U, LV.S, LV.nil, Nat.reduceEqDiff, Nat.reduceAdd, Nat.reduceMul, Nat.reduceSub, Nat.reduceLeDiff, Nat.reduceBEq, Nat.reduceDiv, Nat.reduceMod, Int.reduceToNat, Int.reduceLT, Int.reduceLE, Int.reduceAdd, Int.reduceSub, Int.reduceMul, Int.reduceEq, Int.reduceNeg, reduceCtorEq, resV, resAll, ARes.ev, LV.flat, ite_true, ite_false, exists_eq_left', exists_eq_left, keyOf, implies_true, fillC, capOf]
    exact ⟨_, rfl, .inl ⟨rfl, rfl⟩, Pre.app _ _⟩
  simp (disch := omega) only [hH, ↓SXd, SXu, slBounds, ↓sop, ↓aop, ↓reduceIte, LV.cells, AOp.dst, LV.I, LV.B, LV.U, LV.S, LV.nil, Nat.reduceEqDiff, Nat.reduceAdd, Nat.reduceMul, Nat.reduceSub, Nat.reduceLeDiff, Nat.reduceBEq, Nat.reduceDiv, Nat.reduceMod, Int.reduceToNat, Int.reduceLT, Int.reduceLE, Int.reduceAdd, Int.reduceSub, Int.reduceMul, Int.reduceEq, Int.reduceNeg, reduceCtorEq, resV, resAll, ARes.ev, LV.flat, ite_true, ite_false, exists_eq_left', exists_eq_left, keyOf, implies_true, fillC, capOf]
  refine callK_of (g_isDirectionB) ?_
  simp (disch := omega) only [↓SXd, SXu, slBounds, ↓sop, ↓aop, ↓reduceIte, LV.cells, AOp.dst, LV.I, LV.B, LV.U, LV.S, LV.nil, Nat.reduceEqDiff, Nat.reduceAdd, Nat.reduceMul, Nat.reduceSub, Nat.reduceLeDiff, Nat.reduceBEq, Nat.reduceDiv, Nat.reduceMod, Int.reduceToNat, Int.reduceLT, Int.reduceLE, Int.reduceAdd, Int.reduceSub, Int.reduceMul, Int.reduceEq, Int.reduceNeg, reduceCtorEq, resV, resAll, ARes.ev, LV.flat, ite_true, ite_false, exists_eq_left', exists_eq_left, keyOf, implies_true, fillC, capOf]
  by_cases hd : 0 ≤ d ∧ d ≤ 2
  rotate_left
  · rw [show withOf x y z cs d = [] from if_neg (fun e => hd (hdd.1 e.2)), show sqrB x y z cs d = false from decide_eq_false fun e => hd (hdd.1 e.2), decide_eq_false hd]
    simp (disch := omega) only [↓SXd, SXu, slBounds, ↓sop, ↓aop, ↓reduceIte, LV.cells, AOp.dst, LV.I, LV.B, LV.U, LV.S, LV.nil, Nat.reduceEqDiff, Nat.reduceAdd, Nat.reduceMul, Nat.reduceSub, Nat.reduceLeDiff, Nat.reduceBEq, Nat.reduceDiv, Nat.reduceMod, Int.reduceToNat, Int.reduceLT, Int.reduceLE, Int.reduceAdd, Int.reduceSub, Int.reduceMul, Int.reduceEq, Int.reduceNeg, reduceCtorEq, resV, resAll, ARes.ev, LV.flat, ite_true, ite_false, exists_eq_left', exists_eq_left, keyOf, implies_true, fillC, capOf]
    exact ⟨_, rfl, .inl ⟨rfl, rfl⟩, Pre.app _ _⟩
  rw [show withOf x y z cs d = withF (sideOf x y z d).toNat (viewL x y z d.toNat cs) from if_pos ⟨hH, hdd.2 hd⟩, show sqrB x y z cs d = true from decide_eq_true ⟨hH, hdd.2 hd⟩, decide_eq_true hd]
  obtain ⟨n, rfl⟩ : ∃ n : Nat, d = n := ⟨d.toNat, by omega⟩
  rw [Int.toNat_natCast]
  simp (disch := omega) only [↓SXd, SXu, slBounds, ↓sop, ↓aop, ↓reduceIte, LV.cells, AOp.dst, LV.I, LV.B, LV.U, LV.S, LV.nil, Nat.reduceEqDiff, Nat.reduceAdd, Nat.reduceMul, Nat.reduceSub, Nat.reduceLeDiff, Nat.reduceBEq, Nat.reduceDiv, Nat.reduceMod, Int.reduceToNat, Int.reduceLT, Int.reduceLE, Int.reduceAdd, Int.reduceSub, Int.reduceMul, Int.reduceEq, Int.reduceNeg, reduceCtorEq, resV, resAll, ARes.ev, LV.flat, ite_true, ite_false, exists_eq_left', exists_eq_left, keyOf, implies_true, fillC, capOf]
  refine callR_of (g_linesWith h.app hH (show n < 3 by omega)) ?_
  rintro _ N ⟨u, rfl, hu, hul, hp⟩
  simp (disch := omega) only [↓SXd, SXu, slBounds, ↓sop, ↓aop, ↓reduceIte, LV.cells, AOp.dst, LV.I, LV.B, LV.U, LV.S, LV.nil, Nat.reduceEqDiff, Nat.reduceAdd, Nat.reduceMul, Nat.reduceSub, Nat.reduceLeDiff, Nat.reduceBEq, Nat.reduceDiv, Nat.reduceMod, Int.reduceToNat, Int.reduceLT, Int.reduceLE, Int.reduceAdd, Int.reduceSub, Int.reduceMul, Int.reduceEq, Int.reduceNeg, reduceCtorEq, resV, resAll, ARes.ev, LV.flat, ite_true, ite_false, exists_eq_left', exists_eq_left, keyOf, implies_true, fillC, capOf]
  exact ⟨_, rfl, .inr ⟨u, 0, rfl, hu.has⟩, (Pre.app _ _).trans hp⟩
theorem h_sLinesWith : CallsR PG F.spec_LinesWith [.agg [.I x, .I y, .I z, .ref t 0 cs.length], .I d] M (IntsG M (withOf x y z cs d) (sqrB x y z cs d)) := by
  refine callsR_run K.spec_LinesWith rfl ?_
  simp (disch := omega) only [C.spec_LinesWith, ↓SXd, SXu, slBounds, ↓sop, ↓aop, ↓reduceIte, LV.cells, AOp.dst, LV.I, LV.B, LV.U, LV.S, LV.nil, Nat.reduceEqDiff, Nat.reduceAdd, Nat.reduceMul, Nat.reduceSub, Nat.reduceLeDiff, Nat.reduceBEq, Nat.reduceDiv, Nat.reduceMod, Int.reduceToNat, Int.reduceLT, Int.reduceLE, Int.reduceAdd, Int.reduceSub, Int.reduceMul, Int.reduceEq, Int.reduceNeg, reduceCtorEq, resV, resAll, ARes.ev, LV.flat, ite_true, ite_false, exists_eq_left', exists_eq_left, keyOf, implies_true, fillC, capOf]
  refine callK_of (h_l2Heap h.app hn) ?_
  simp (disch := omega) only [↓SXd, SXu, slBounds, ↓sop, ↓aop, ↓reduceIte, LV.cells, AOp.dst, LV.I, LV.B, LV.U, LV.S, LV.nil, Nat.reduceEqDiff, Nat.reduceAdd, Nat.reduceMul, Nat.reduceSub, Nat.reduceLeDiff, Nat.reduceBEq, Nat.reduceDiv, Nat.reduceMod, Int.reduceToNat, Int.reduceLT, Int.reduceLE, Int.reduceAdd, Int.reduceSub, Int.reduceMul, Int.reduceEq, Int.reduceNeg, reduceCtorEq, resV, resAll, ARes.ev, LV.flat, ite_true, ite_false, exists_eq_left', exists_eq_left, keyOf, implies_true, fillC, capOf]
  have hdd : Dir d ↔ 0 ≤ d ∧ d ≤ 2 := by unfold Dir; omega
  by_cases hH : HeapOK x y z cs
  rotate_left
  · rw [show withOf x y z cs d = [] from if_neg (fun e => hH e.1), show sqrB x y z cs d = false from decide_eq_false fun e => hH e.1]
    simp (disch := omega) only [hH, ↓SXd, SXu, slBounds, ↓sop, ↓aop, ↓reduceIte, LV.cells, AOp.dst, LV.I, LV.B, LV.U, LV.S, LV.nil, Nat.reduceEqDiff, Nat.reduceAdd, Nat.reduceMul, Nat.reduceSub, Nat.reduceLeDiff, Nat.reduceBEq, Nat.reduceDiv, Nat.reduceMod, Int.reduceToNat, Int.reduceLT, Int.reduceLE, Int.reduceAdd, Int.reduceSub, Int.reduceMul, Int.reduceEq, Int.reduceNeg, reduceCtorEq, resV, resAll, ARes.ev, LV.flat, ite_true, ite_false, exists_eq_left', exists_eq_left, keyOf, implies_true, fillC, capOf]
    exact ⟨_, rfl, .inr ⟨_, _, rfl, (Live.newj (j := 1) rfl : Live _ _ (.row (intL []) true 1)).has⟩, Pre.app _ _⟩
  simp (disch := omega) only [hH, ↓SXd, SXu, slBounds, ↓sop, ↓aop, ↓reduceIte, LV.cells, AOp.dst, LV.I, LV.B, LV.U, LV.S, LV.nil, Nat.reduceEqDiff, Nat.reduceAdd, Nat.reduceMul, Nat.reduceSub, Nat.reduceLeDiff, Nat.reduceBEq, Nat.reduceDiv, Nat.reduceMod, Int.reduceToNat, Int.reduceLT, Int.reduceLE, Int.reduceAdd, Int.reduceSub, Int.reduceMul, Int.reduceEq, Int.reduceNeg, reduceCtorEq, resV, resAll, ARes.ev, LV.flat, ite_true, ite_false, exists_eq_left', exists_eq_left, keyOf, implies_true, fillC, capOf]
  refine callK_of (h_l1In) ?_
  simp (disch := omega) only [↓SXd, SXu, slBounds, ↓sop, ↓aop, ↓reduceIte, LV.cells, AOp.dst, LV.I, LV.B, LV.U, LV.S, LV.nil, Nat.reduceEqDiff, Nat.reduceAdd, Nat.reduceMul, Nat.reduceSub, Nat.reduceLeDiff, Nat.reduceBEq, Nat.reduceDiv, Nat.reduceMod, Int.reduceToNat, Int.reduceLT, Int.reduceLE, Int.reduceAdd, Int.reduceSub, Int.reduceMul, Int.reduceEq, Int.reduceNeg, reduceCtorEq, resV, resAll, ARes.ev, LV.flat, ite_true, ite_false, exists_eq_left', exists_eq_left, keyOf, implies_true, fillC, capOf]
  by_cases hd : 0 ≤ d ∧ d ≤ 2
  rotate_left
  · rw [show withOf x y z cs d = [] from if_neg (fun e => hd (hdd.1 e.2)), show sqrB x y z cs d = false from decide_eq_false fun e => hd (hdd.1 e.2), decide_eq_false hd]
    simp (disch := omega) only [↓SXd, SXu, slBounds, ↓sop, ↓aop, ↓reduceIte, LV.cells, AOp.dst, LV.I, LV.B, LV.U, LV.S, LV.nil, Nat.reduceEqDiff, Nat.reduceAdd, Nat.reduceMul, Nat.reduceSub, Nat.reduceLeDiff, Nat.reduceBEq, Nat.reduceDiv, Nat.reduceMod, Int.reduceToNat, Int.reduceLT, Int.reduceLE, Int.reduceAdd, Int.reduceSub, Int.reduceMul, Int.reduceEq, Int.reduceNeg, reduceCtorEq, resV, resAll, ARes.ev, LV.flat, ite_true, ite_false, exists_eq_left', exists_eq_left, keyOf, implies_true, fillC, capOf]
    exact ⟨_, rfl, .inr ⟨_, _, rfl, (Live.newj (j := 1) rfl : Live _ _ (.row (intL []) true 1)).has⟩, Pre.app _ _⟩
  rw [show withOf x y z cs d = withF (sideOf x y z d).toNat (viewL x y z d.toNat cs) from if_pos ⟨hH, hdd.2 hd⟩, show sqrB x y z cs d = true from decide_eq_true ⟨hH, hdd.2 hd⟩, decide_eq_true hd]
  obtain ⟨n, rfl⟩ : ∃ n : Nat, d = n := ⟨d.toNat, by omega⟩
  rw [Int.toNat_natCast]
  simp (disch := omega) only [↓SXd, SXu, slBounds, ↓sop, ↓aop, ↓reduceIte, LV.cells, AOp.dst, LV.I, LV.B, LV.U, LV.S, LV.nil, Nat.reduceEqDiff, Nat.reduceAdd, Nat.reduceMul, Nat.reduceSub, Nat.reduceLeDiff, Nat.reduceBEq, Nat.reduceDiv, Nat.reduceMod, Int.reduceToNat, Int.reduceLT, Int.reduceLE, Int.reduceAdd, Int.reduceSub, Int.reduceMul, Int.reduceEq, Int.reduceNeg, reduceCtorEq, resV, resAll, ARes.ev, LV.flat, ite_true, ite_false, exists_eq_left', exists_eq_left, keyOf, implies_true, fillC, capOf]
  refine callR_of (h_l4With h.app hH (show n < 3 by omega)) ?_
  rintro _ N ⟨u, rfl, hu, hul, hp⟩
  simp (disch := omega) only [↓SXd, SXu, slBounds, ↓sop, ↓aop, ↓reduceIte, LV.cells, AOp.dst, LV.I, LV.B, LV.U, LV.S, LV.nil, Nat.reduceEqDiff, Nat.reduceAdd, Nat.reduceMul, Nat.reduceSub, Nat.reduceLeDiff, Nat.reduceBEq, Nat.reduceDiv, Nat.reduceMod, Int.reduceToNat, Int.reduceLT, Int.reduceLE, Int.reduceAdd, Int.reduceSub, Int.reduceMul, Int.reduceEq, Int.reduceNeg, reduceCtorEq, resV, resAll, ARes.ev, LV.flat, ite_true, ite_false, exists_eq_left', exists_eq_left, keyOf, implies_true, fillC, capOf]
  exact ⟨_, rfl, .inr ⟨u, 0, rfl, hu.has⟩, (Pre.app _ _).trans hp⟩
theorem g_FullLines : CallsR PG F.impl_FullLines [.agg [.I x, .I y, .I z, .ref t 0 cs.length], .I d] M fun v N => v = .tup [.I (fullOf x y z cs d), .B (sqrB x y z cs d)] ∧ Pre M N := by
  refine callsR_run K.impl_FullLines rfl ?_
  simp (disch := omega) only [C.impl_FullLines, ↓SXd, SXu, slBounds, ↓sop, ↓aop, ↓reduceIte, LV.cells, AOp.dst, LV.I, LV.B, LV.U, LV.S, LV.nil, Nat.reduceEqDiff, Nat.reduceAdd, Nat.reduceMul, Nat.reduceSub, Nat.reduceLeDiff, Nat.reduceBEq, Nat.reduceDiv, Nat.reduceMod, Int.reduceToNat, Int.reduceLT, Int.reduceLE, Int.reduceAdd, Int.reduceSub, Int.reduceMul, Int.reduceEq, Int.reduceNeg, reduceCtorEq, resV, resAll, ARes.ev, LV.flat, ite_true, ite_false, exists_eq_left', exists_eq_left, keyOf, implies_true, fillC, capOf]
  refine callK_of (g_IsHeap h.app hn) ?_
  simp (disch := omega) only [↓SXd, SXu, slBounds, ↓sop, ↓aop, ↓reduceIte, LV.cells, AOp.dst, LV.I, LV.B, LV.U, LV.S, LV.nil, Nat.reduceEqDiff, Nat.reduceAdd, Nat.reduceMul, Nat.reduceSub, Nat.reduceLeDiff, Nat.reduceBEq, Nat.reduceDiv, Nat.reduceMod, Int.reduceToNat, Int.reduceLT, Int.reduceLE, Int.reduceAdd, Int.reduceSub, Int.reduceMul, Int.reduceEq, Int.reduceNeg, reduceCtorEq, resV, resAll, ARes.ev, LV.flat, ite_true, ite_false, exists_eq_left', exists_eq_left, keyOf, implies_true, fillC, capOf]
  have hdd : Dir d ↔ 0 ≤ d ∧ d ≤ 2 := by unfold Dir; omega
  by_cases hH : HeapOK x y z cs
  rotate_left
  · rw [show fullOf x y z cs d = 0 by unfold fullOf; rw [show withOf x y z cs d = [] from if_neg (fun e => hH e.1)]; rfl, show sqrB x y z cs d = false from decide_eq_false fun e => hH e.1]
    simp (disch := omega) only [hH, ↓SXd, SXu, slBounds, ↓sop, ↓aop, ↓reduceIte, LV.cells, AOp.dst, LV.I, LV.B, LV.U, LV.S, LV.nil, Nat.reduceEqDiff, Nat.reduceAdd, Nat.reduceMul, Nat.reduceSub, Nat.reduceLeDiff, Nat.reduceBEq, Nat.reduceDiv, Nat.reduceMod, Int.reduceToNat, Int.reduceLT, Int.reduceLE, Int.reduceAdd, Int.reduceSub, Int.reduceMul, Int.reduceEq, Int.reduceNeg, reduceCtorEq, resV, resAll, ARes.ev, LV.flat, ite_true, ite_false, exists_eq_left', exists_eq_left, keyOf, implies_true, fillC, capOf]
    exact ⟨rfl, Pre.app _ _⟩
  simp (disch := omega) only [hH, ↓SXd, SXu, slBounds, ↓sop, ↓aop, ↓reduceIte, LV.cells, AOp.dst, LV.I, LV.B, LV.U, LV.S, LV.nil, Nat.reduceEqDiff, Nat.reduceAdd, Nat.reduceMul, Nat.reduceSub, Nat.reduceLeDiff, Nat.reduceBEq, Nat.reduceDiv, Nat.reduceMod, Int.reduceToNat, Int.reduceLT, Int.reduceLE, Int.reduceAdd, Int.reduceSub, Int.reduceMul, Int.reduceEq, Int.reduceNeg, reduceCtorEq, resV, resAll, ARes.ev, LV.flat, ite_true, ite_false, exists_eq_left', exists_eq_left, keyOf, implies_true, fillC, capOf]
  refine callK_of (g_isDirectionB) ?_
  simp (disch := omega) only [↓SXd, SXu, slBounds, ↓sop, ↓aop, ↓reduceIte, LV.cells, AOp.dst, LV.I, LV.B, LV.U, LV.S, LV.nil, Nat.reduceEqDiff, Nat.reduceAdd, Nat.reduceMul, Nat.reduceSub, Nat.reduceLeDiff, Nat.reduceBEq, Nat.reduceDiv, Nat.reduceMod, Int.reduceToNat, Int.reduceLT, Int.reduceLE, Int.reduceAdd, Int.reduceSub, Int.reduceMul, Int.reduceEq, Int.reduceNeg, reduceCtorEq, resV, resAll, ARes.ev, LV.flat, ite_true, ite_false, exists_eq_left', exists_eq_left, keyOf, implies_true, fillC, capOf]
  by_cases hd : 0 ≤ d ∧ d ≤ 2
  rotate_left
  · rw [show fullOf x y z cs d = 0 by unfold fullOf; rw [show withOf x y z cs d = [] from if_neg (fun e => hd (hdd.1 e.2))]; rfl, show sqrB x y z cs d = false from decide_eq_false fun e => hd (hdd.1 e.2), decide_eq_false hd]
    simp (disch := omega) only [↓SXd, SXu, slBounds, ↓sop, ↓aop, ↓reduceIte, LV.cells, AOp.dst, LV.I, LV.B, LV.U, LV.S, LV.nil, Nat.reduceEqDiff, Nat.reduceAdd, Nat.reduceMul, Nat.reduceSub, Nat.reduceLeDiff, Nat.reduceBEq, Nat.reduceDiv, Nat.reduceMod, Int.reduceToNat, Int.reduceLT, Int.reduceLE, Int.reduceAdd, Int.reduceSub, Int.reduceMul, Int.reduceEq, Int.reduceNeg, reduceCtorEq, resV, resAll, ARes.ev, LV.flat, ite_true, ite_false, exists_eq_left', exists_eq_left, keyOf, implies_true, fillC, capOf]
    exact ⟨rfl, Pre.app _ _⟩
  unfold fullOf
  rw [show withOf x y z cs d = withF (sideOf x y z d).toNat (viewL x y z d.toNat cs) from if_pos ⟨hH, hdd.2 hd⟩, show sqrB x y z cs d = true from decide_eq_true ⟨hH, hdd.2 hd⟩, decide_eq_true hd]
  obtain ⟨n, rfl⟩ : ∃ n : Nat, d = n := ⟨d.toNat, by omega⟩
  rw [Int.toNat_natCast]
  simp (disch := omega) only [↓SXd, SXu, slBounds, ↓sop, ↓aop, ↓reduceIte, LV.cells, AOp.dst, LV.I, LV.B, LV.U, LV.S, LV.nil, Nat.reduceEqDiff, Nat.reduceAdd, Nat.reduceMul, Nat.reduceSub, Nat.reduceLeDiff, Nat.reduceBEq, Nat.reduceDiv, Nat.reduceMod, Int.reduceToNat, Int.reduceLT, Int.reduceLE, Int.reduceAdd, Int.reduceSub, Int.reduceMul, Int.reduceEq, Int.reduceNeg, reduceCtorEq, resV, resAll, ARes.ev, LV.flat, ite_true, ite_false, exists_eq_left', exists_eq_left, keyOf, implies_true, fillC, capOf]
  refine callR_of (g_linesWith h.app hH (show n < 3 by omega)) ?_
  rintro _ N ⟨u, rfl, hu, hul, hp⟩
  have hwl := withF_len (s := (sideOf x y z (n : Nat)).toNat) (V := viewL x y z n cs)
  have sD := sideOf_in hH.1 (n : Nat)
  have hgu := Ints.get hu.has (k := (sideOf x y z (n : Nat)).toNat) (by omega)
  rw [Nat.zero_add] at hgu
  have hdn : Dir (n : Nat) := by unfold Dir; omega
  have hsD := sideB_row (x := x) (y := y) (z := z) hdn
  rw [Int.toNat_natCast] at hsD
  have hlt : sideOf x y z (n : Nat) < ((withF (sideOf x y z (n : Nat)).toNat (viewL x y z n cs)).length : Nat) := by omega
  simp (disch := omega) only [↓SXd, SXu, slBounds, ↓sop, ↓aop, ↓reduceIte, LV.cells, AOp.dst, LV.I, LV.B, LV.U, LV.S, LV.nil, Nat.reduceEqDiff, Nat.reduceAdd, Nat.reduceMul, Nat.reduceSub, Nat.reduceLeDiff, Nat.reduceBEq, Nat.reduceDiv, Nat.reduceMod, Int.reduceToNat, Int.reduceLT, Int.reduceLE, Int.reduceAdd, Int.reduceSub, Int.reduceMul, Int.reduceEq, Int.reduceNeg, reduceCtorEq, resV, resAll, ARes.ev, LV.flat, ite_true, ite_false, exists_eq_left', exists_eq_left, keyOf, implies_true, fillC, capOf]
  refine ⟨fun b hb => by subst hb; exact (Live.new.pre hp : Live N M.length _), ?_⟩
  refine callK_of g_box ?_
  simp (disch := omega) only [hsD, hlt, hgu, Nat.mul_one, Nat.zero_add, ↓SXd, SXu, slBounds, ↓sop, ↓aop, ↓reduceIte, LV.cells, AOp.dst, LV.I, LV.B, LV.U, LV.S, LV.nil, Nat.reduceEqDiff, Nat.reduceAdd, Nat.reduceMul, Nat.reduceSub, Nat.reduceLeDiff, Nat.reduceBEq, Nat.reduceDiv, Nat.reduceMod, Int.reduceToNat, Int.reduceLT, Int.reduceLE, Int.reduceAdd, Int.reduceSub, Int.reduceMul, Int.reduceEq, Int.reduceNeg, reduceCtorEq, resV, resAll, ARes.ev, LV.flat, ite_true, ite_false, exists_eq_left', exists_eq_left, keyOf, implies_true, fillC, capOf]
  exact ⟨rfl, (Pre.app _ _).trans hp⟩
theorem h_sFullLines : CallsR PG F.spec_FullLines [.agg [.I x, .I y, .I z, .ref t 0 cs.length], .I d] M fun v N => v = .tup [.I (fullOf x y z cs d), .B (sqrB x y z cs d)] ∧ Pre M N := by
  refine callsR_run K.spec_FullLines rfl ?_
  simp (disch := omega) only [C.spec_FullLines, ↓SXd, SXu, slBounds, ↓sop, ↓aop, ↓reduceIte, LV.cells, AOp.dst, LV.I, LV.B, LV.U, LV.S, LV.nil, Nat.reduceEqDiff, Nat.reduceAdd, Nat.reduceMul, Nat.reduceSub, Nat.reduceLeDiff, Nat.reduceBEq, Nat.reduceDiv, Nat.reduceMod, Int.reduceToNat, Int.reduceLT, Int.reduceLE, Int.reduceAdd, Int.reduceSub, Int.reduceMul, Int.reduceEq, Int.reduceNeg, reduceCtorEq, resV, resAll, ARes.ev, LV.flat, ite_true, ite_false, exists_eq_left', exists_eq_left, keyOf, implies_true, fillC, capOf]
  refine callK_of (h_l2Heap h.app hn) ?_
  simp (disch := omega) only [↓SXd, SXu, slBounds, ↓sop, ↓aop, ↓reduceIte, LV.cells, AOp.dst, LV.I, LV.B, LV.U, LV.S, LV.nil, Nat.reduceEqDiff, Nat.reduceAdd, Nat.reduceMul, Nat.reduceSub, Nat.reduceLeDiff, Nat.reduceBEq, Nat.reduceDiv, Nat.reduceMod, Int.reduceToNat, Int.reduceLT, Int.reduceLE, Int.reduceAdd, Int.reduceSub, Int.reduceMul, Int.reduceEq, Int.reduceNeg, reduceCtorEq, resV, resAll, ARes.ev, LV.flat, ite_true, ite_false, exists_eq_left', exists_eq_left, keyOf, implies_true, fillC, capOf]
  have hdd : Dir d ↔ 0 ≤ d ∧ d ≤ 2 := by unfold Dir; omega
  by_cases hH : HeapOK x y z cs
  rotate_left
  · rw [show fullOf x y z cs d = 0 by unfold fullOf; rw [show withOf x y z cs d = [] from if_neg (fun e => hH e.1)]; rfl, show sqrB x y z cs d = false from decide_eq_false fun e => hH e.1]
    simp (disch := omega) only [hH, ↓SXd, SXu, slBounds, ↓sop, ↓aop, ↓reduceIte, LV.cells, AOp.dst, LV.I, LV.B, LV.U, LV.S, LV.nil, Nat.reduceEqDiff, Nat.reduceAdd, Nat.reduceMul, Nat.reduceSub, Nat.reduceLeDiff, Nat.reduceBEq, Nat.reduceDiv, Nat.reduceMod, Int.reduceToNat, Int.reduceLT, Int.reduceLE, Int.reduceAdd, Int.reduceSub, Int.reduceMul, Int.reduceEq, Int.reduceNeg, reduceCtorEq, resV, resAll, ARes.ev, LV.flat, ite_true, ite_false, exists_eq_left', exists_eq_left, keyOf, implies_true, fillC, capOf]
    exact ⟨rfl, Pre.app _ _⟩
  simp (disch := omega) only [hH, ↓SXd, SXu, slBounds, ↓sop, ↓aop, ↓reduceIte, LV.cells, AOp.dst, LV.I, LV.B, LV.U, LV.S, LV.nil, Nat.reduceEqDiff, Nat.reduceAdd, Nat.reduceMul, Nat.reduceSub, Nat.reduceLeDiff, Nat.reduceBEq, Nat.reduceDiv, Nat.reduceMod, Int.reduceToNat, Int.reduceLT, Int.reduceLE, Int.reduceAdd, Int.reduceSub, Int.reduceMul, Int.reduceEq, Int.reduceNeg, reduceCtorEq, resV, resAll, ARes.ev, LV.flat, ite_true, ite_false, exists_eq_left', exists_eq_left, keyOf, implies_true, fillC, capOf]
  refine callK_of (h_l1In) ?_
  simp (disch := omega) only [↓SXd, SXu, slBounds, ↓sop, ↓aop, ↓reduceIte, LV.cells, AOp.dst, LV.I, LV.B, LV.U, LV.S, LV.nil, Nat.reduceEqDiff, Nat.reduceAdd, Nat.reduceMul, Nat.reduceSub, Nat.reduceLeDiff, Nat.reduceBEq, Nat.reduceDiv, Nat.reduceMod, Int.reduceToNat, Int.reduceLT, Int.reduceLE, Int.reduceAdd, Int.reduceSub, Int.reduceMul, Int.reduceEq, Int.reduceNeg, reduceCtorEq, resV, resAll, ARes.ev, LV.flat, ite_true, ite_false, exists_eq_left', exists_eq_left, keyOf, implies_true, fillC, capOf]
  by_cases hd : 0 ≤ d ∧ d ≤ 2
  rotate_left
  · rw [show fullOf x y z cs d = 0 by unfold fullOf; rw [show withOf x y z cs d = [] from if_neg (fun e => hd (hdd.1 e.2))]; rfl, show sqrB x y z cs d = false from decide_eq_false fun e => hd (hdd.1 e.2), decide_eq_false hd]
    simp (disch := omega) only [↓SXd, SXu, slBounds, ↓sop, ↓aop, ↓reduceIte, LV.cells, AOp.dst, LV.I, LV.B, LV.U, LV.S, LV.nil, Nat.reduceEqDiff, Nat.reduceAdd, Nat.reduceMul, Nat.reduceSub, Nat.reduceLeDiff, Nat.reduceBEq, Nat.reduceDiv, Nat.reduceMod, Int.reduceToNat, Int.reduceLT, Int.reduceLE, Int.reduceAdd, Int.reduceSub, Int.reduceMul, Int.reduceEq, Int.reduceNeg, reduceCtorEq, resV, resAll, ARes.ev, LV.flat, ite_true, ite_false, exists_eq_left', exists_eq_left, keyOf, implies_true, fillC, capOf]
    exact ⟨rfl, Pre.app _ _⟩
  unfold fullOf
  rw [show withOf x y z cs d = withF (sideOf x y z d).toNat (viewL x y z d.toNat cs) from if_pos ⟨hH, hdd.2 hd⟩, show sqrB x y z cs d = true from decide_eq_true ⟨hH, hdd.2 hd⟩, decide_eq_true hd]
  obtain ⟨n, rfl⟩ : ∃ n : Nat, d = n := ⟨d.toNat, by omega⟩
  rw [Int.toNat_natCast]
  simp (disch := omega) only [↓SXd, SXu, slBounds, ↓sop, ↓aop, ↓reduceIte, LV.cells, AOp.dst, LV.I, LV.B, LV.U, LV.S, LV.nil, Nat.reduceEqDiff, Nat.reduceAdd, Nat.reduceMul, Nat.reduceSub, Nat.reduceLeDiff, Nat.reduceBEq, Nat.reduceDiv, Nat.reduceMod, Int.reduceToNat, Int.reduceLT, Int.reduceLE, Int.reduceAdd, Int.reduceSub, Int.reduceMul, Int.reduceEq, Int.reduceNeg, reduceCtorEq, resV, resAll, ARes.ev, LV.flat, ite_true, ite_false, exists_eq_left', exists_eq_left, keyOf, implies_true, fillC, capOf]
  refine callR_of (h_l4With h.app hH (show n < 3 by omega)) ?_
  rintro _ N ⟨u, rfl, hu, hul, hp⟩
  have hwl := withF_len (s := (sideOf x y z (n : Nat)).toNat) (V := viewL x y z n cs)
  have sD := sideOf_in hH.1 (n : Nat)
  have hgu := Ints.get hu.has (k := (sideOf x y z (n : Nat)).toNat) (by omega)
  rw [Nat.zero_add] at hgu
  have hdn : Dir (n : Nat) := by unfold Dir; omega
  have hsD := sideB_row (x := x) (y := y) (z := z) hdn
  rw [Int.toNat_natCast] at hsD
  have hlt : sideOf x y z (n : Nat) < ((withF (sideOf x y z (n : Nat)).toNat (viewL x y z n cs)).length : Nat) := by omega
  simp (disch := omega) only [↓SXd, SXu, slBounds, ↓sop, ↓aop, ↓reduceIte, LV.cells, AOp.dst, LV.I, LV.B, LV.U, LV.S, LV.nil, Nat.reduceEqDiff, Nat.reduceAdd, Nat.reduceMul, Nat.reduceSub, Nat.reduceLeDiff, Nat.reduceBEq, Nat.reduceDiv, Nat.reduceMod, Int.reduceToNat, Int.reduceLT, Int.reduceLE, Int.reduceAdd, Int.reduceSub, Int.reduceMul, Int.reduceEq, Int.reduceNeg, reduceCtorEq, resV, resAll, ARes.ev, LV.flat, ite_true, ite_false, exists_eq_left', exists_eq_left, keyOf, implies_true, fillC, capOf]
  refine ⟨fun b hb => by subst hb; exact (Live.new.pre hp : Live N M.length _), ?_⟩
  refine callK_of (h_l2Long hdn) ?_
  simp (disch := omega) only [hsD, hlt, hgu, Nat.mul_one, Nat.zero_add, ↓SXd, SXu, slBounds, ↓sop, ↓aop, ↓reduceIte, LV.cells, AOp.dst, LV.I, LV.B, LV.U, LV.S, LV.nil, Nat.reduceEqDiff, Nat.reduceAdd, Nat.reduceMul, Nat.reduceSub, Nat.reduceLeDiff, Nat.reduceBEq, Nat.reduceDiv, Nat.reduceMod, Int.reduceToNat, Int.reduceLT, Int.reduceLE, Int.reduceAdd, Int.reduceSub, Int.reduceMul, Int.reduceEq, Int.reduceNeg, reduceCtorEq, resV, resAll, ARes.ev, LV.flat, ite_true, ite_false, exists_eq_left', exists_eq_left, keyOf, implies_true, fillC, capOf]
  exact ⟨rfl, (Pre.app _ _).trans hp⟩
end
end Go.Ab

/- The abstract code of some functions (written by a program of mine from the translation, by way of prepF). -/
namespace Go.Ab.C
open Go.Ab
def spec_l1Cur_sums : AFn :=
 ⟨1, 81, [.tmp 2, .tmp 3],
 .seq (.ops [(none, .mv 2 (.c .nil)),
 (none, .mv 3 (.c .nil))])
 (.seq (.ops [(none, .mv 9 (.t 0)),
 (none, .mv 10 (.t 0)),
 (none, .buildSl 11 4 1 [(.I 0), (.I 0), (.I 0), (.I 0)] [(0, 1, (.c (.I 3))), (1, 1, (.c (.I 2))), (2, 1, (.c (.I 4))), (3, 1, (.c (.I 1)))]),
 (none, .call (some 12) F.spec_l1Cur_among [(.t 10), (.t 11)]),
 (none, .mv 13 (.t 0)),
 (none, .buildSl 14 4 1 [(.I 0), (.I 0), (.I 0), (.I 0)] [(0, 1, (.c (.I 3))), (1, 1, (.c (.I 2))), (2, 1, (.c (.I 4))), (3, 1, (.c (.I 1)))]),
 (none, .call (some 15) F.spec_l1Cur_among [(.t 13), (.t 14)]),
 (none, .call (some 16) F.spec_l1Cur_someHeap [(.t 9), (.t 12), (.t 15), (.c (.I 1))]),
 (none, .alloc 4 [(.I 0), (.I 0), (.I 0), .nil]),
 (none, .store 4 (.t 4) (.t 16))])
 (.seq (.ops [(none, .loadN 18 4 (.t 4)),
 (none, .call (some 19) F.spec_l2Layer [(.t 18), (.c (.I 2)), (.c (.I 0))]),
 (none, .call (some 20) F.spec_l4Sums [(.t 19)]),
 (none, .mv 17 (.t 20)),
 (none, .extract 21 (.t 17) 0),
 (none, .extract 22 (.t 17) 1),
 (none, .mv 5 (.t 21)),
 (none, .mv 6 (.t 22))])
 (.seq (.seq (.ops [(none, .mv 23 (.t 0)),
 (none, .call (some 24) F.spec_l1Cur_one [(.t 23), (.c (.I 3))])])
 (.cond (.t 24) (.seq (.ops [(none, .mv 25 (.t 0)),
 (none, .mv 26 (.t 5)),
 (none, .len 27 (.t 26)),
 (none, .call (some 28) F.spec_l1Cur_pick [(.t 25), (.t 27)]),
 (none, .mv 7 (.t 28))])
 (.seq (.draw [⟨(none, .mv 29 (.t 5)), [], []⟩,
 ⟨(none, .mv 30 (.t 7)), [], []⟩,
 ⟨(none, .mv 31 (.t 5)), [], []⟩,
 ⟨(none, .mv 32 (.t 7)), [], []⟩,
 ⟨(none, .idxS 33 1 (.t 31) (.t 32)), [], []⟩,
 ⟨(none, .load1 34 (.t 33)), [], []⟩,
 ⟨(none, .mv 35 (.t 0)), [], []⟩,
 ⟨(none, .buildSl 36 2 1 [(.I 0), (.I 0)] [(0, 1, (.c (.I 1))), (1, 1, (.c (.I (-1))))]), [], []⟩,
 ⟨(none, .call (some 37) F.spec_l1Cur_among [(.t 35), (.t 36)]), [], [0, 1, 2, 3, 4, 5]⟩,
 ⟨(none, .bin 38 .add (.t 34) (.t 37)), [], []⟩,
 ⟨(none, .call (some 39) F.spec_l1Most [(.c (.I 0)), (.t 38)]), [], [0, 1]⟩,
 ⟨(none, .idxS 40 1 (.t 29) (.t 30)), [], []⟩,
 ⟨(none, .store 1 (.t 40) (.t 39)), [], []⟩])
 (.seq (.ops [(none, .mv 41 (.t 0)),
 (none, .call (some 42) F.spec_l1Cur_one [(.t 41), (.c (.I 2))])])
 (.cond (.t 42) (.seq (.ops [(none, .mv 43 (.t 0)),
 (none, .mv 44 (.t 6)),
 (none, .len 45 (.t 44)),
 (none, .call (some 46) F.spec_l1Cur_pick [(.t 43), (.t 45)]),
 (none, .mv 8 (.t 46))])
 (.draw [⟨(none, .mv 47 (.t 6)), [], []⟩,
 ⟨(none, .mv 48 (.t 8)), [], []⟩,
 ⟨(none, .mv 49 (.t 6)), [], []⟩,
 ⟨(none, .mv 50 (.t 8)), [], []⟩,
 ⟨(none, .idxS 51 1 (.t 49) (.t 50)), [], []⟩,
 ⟨(none, .load1 52 (.t 51)), [], []⟩,
 ⟨(none, .mv 53 (.t 0)), [], []⟩,
 ⟨(none, .buildSl 54 2 1 [(.I 0), (.I 0)] [(0, 1, (.c (.I 1))), (1, 1, (.c (.I (-1))))]), [], []⟩,
 ⟨(none, .call (some 55) F.spec_l1Cur_among [(.t 53), (.t 54)]), [], [0, 1, 2, 3, 4, 5]⟩,
 ⟨(none, .bin 56 .add (.t 52) (.t 55)), [], []⟩,
 ⟨(none, .call (some 57) F.spec_l1Most [(.c (.I 0)), (.t 56)]), [], [0, 1]⟩,
 ⟨(none, .idxS 58 1 (.t 47) (.t 48)), [], []⟩,
 ⟨(none, .store 1 (.t 58) (.t 57)), [], []⟩]))
 (.skip)))))
 (.skip)))
 (.seq (.seq (.ops [(none, .mv 59 (.t 0)),
 (none, .call (some 60) F.spec_l1Cur_pick [(.t 59), (.c (.I 40))])])
 (.block 0 (.seq (.ops [(none, .bin 62 .eql (.t 60) (.c (.I 0))),
 (none, .mv 61 (.t 62))])
 (.cond (.t 61) (.ops [(none, .mv 63 (.t 5)),
 (none, .mv 64 (.t 0)),
 (none, .buildSl 65 3 1 [(.I 0), (.I 0), (.I 0)] [(0, 1, (.c (.I (-1)))), (1, 1, (.c (.I 5))), (2, 1, (.c (.I 4611686018427387904)))]),
 (none, .call (some 66) F.spec_l1Cur_among [(.t 64), (.t 65)]),
 (none, .idxS 67 1 (.t 63) (.c (.I 0))),
 (none, .store 1 (.t 67) (.t 66))])
 (.seq (.ops [(none, .bin 69 .eql (.t 60) (.c (.I 1))),
 (none, .mv 68 (.t 69))])
 (.cond (.t 68) (.ops [(none, .buildSl 70 0 1 [] []),
 (none, .mv 5 (.t 70))])
 (.seq (.ops [(none, .bin 72 .eql (.t 60) (.c (.I 2))),
 (none, .mv 71 (.t 72))])
 (.cond (.t 71) (.block 1 (.loop (.seq (.seq (.ops [(none, .mv 73 (.t 6)),
 (none, .len 74 (.t 73)),
 (none, .bin 75 .lss (.t 74) (.c (.I 5)))])
 (.cond (.t 75) (.skip)
 (.exit 1)))
 (.block 2 (.ops [(none, .mv 76 (.t 6)),
 (none, .buildSl 77 1 1 [(.I 0)] [(0, 1, (.c (.I 0)))]),
 (none, .append 78 1 8 (.t 76) (.t 77)),
 (none, .mv 6 (.t 78))])))))
 (.skip)))))))))
 (.seq (.ops [(none, .mv 79 (.t 5)),
 (none, .mv 80 (.t 6)),
 (none, .mv 2 (.t 79)),
 (none, .mv 3 (.t 80))])
 (.ret))))))⟩
def spec_DrawFirstTable : AFn :=
 ⟨1, 8, [.tmp 2, .tmp 3],
 .seq (.ops [(none, .mv 2 (.c .nil)),
 (none, .mv 3 (.c .nil))])
 (.seq (.ops [(none, .mv 4 (.t 0)),
 (none, .call (some 5) F.spec_DrawCountTables [(.t 4)]),
 (none, .extract 6 (.t 5) 0),
 (none, .extract 7 (.t 5) 1),
 (none, .mv 2 (.t 6)),
 (none, .mv 3 (.t 7))])
 (.ret))⟩
def spec_DrawCountTables : AFn :=
 ⟨1, 12, [.tmp 2, .tmp 3],
 .seq (.ops [(none, .mv 2 (.c .nil)),
 (none, .mv 3 (.c .nil))])
 (.seq (.ops [(none, .mv 5 (.t 0)),
 (none, .build 6 [.nil, (.I 0), (.U 0)] [(0, 1, (.t 5))]),
 (none, .box 7 (.t 6)),
 (none, .mv 4 (.t 7))])
 (.seq (.ops [(none, .mv 8 (.t 4)),
 (none, .call (some 9) F.spec_l1Cur_sums [(.t 8)]),
 (none, .extract 10 (.t 9) 0),
 (none, .extract 11 (.t 9) 1),
 (none, .mv 2 (.t 10)),
 (none, .mv 3 (.t 11))])
 (.ret)))⟩
def spec_DrawLinesWith : AFn :=
 ⟨1, 8, [.cellN 2 4, .tmp 3],
 .seq (.ops [(none, .alloc 2 [(.I 0), (.I 0), (.I 0), .nil]),
 (none, .mv 3 (.c (.I 0)))])
 (.seq (.ops [(none, .mv 4 (.t 0)),
 (none, .call (some 5) F.spec_DrawViewOf [(.t 4)]),
 (none, .extract 6 (.t 5) 0),
 (none, .extract 7 (.t 5) 1),
 (none, .store 4 (.t 2) (.t 6)),
 (none, .mv 3 (.t 7))])
 (.ret))⟩
end Go.Ab.C

/- That the program has this code. -/
namespace Go.Ab.K
open Go Go.Ab
theorem spec_l1Cur_sums : prepF Go.Proofs.Try.prog F.spec_l1Cur_sums = some C.spec_l1Cur_sums := by kernel_rfl
theorem spec_DrawFirstTable : prepF Go.Proofs.Try.prog F.spec_DrawFirstTable = some C.spec_DrawFirstTable := by kernel_rfl
theorem spec_DrawCountTables : prepF Go.Proofs.Try.prog F.spec_DrawCountTables = some C.spec_DrawCountTables := by kernel_rfl
theorem spec_DrawLinesWith : prepF Go.Proofs.Try.prog F.spec_DrawLinesWith = some C.spec_DrawLinesWith := by kernel_rfl
end Go.Ab.K

/- The abstract code of some functions (written by a program of mine from the translation, by way of prepF). -/
namespace Go.Ab.C
open Go.Ab
end Go.Ab.C

/- That the program has this code. -/
namespace Go.Ab.K
open Go Go.Ab
end Go.Ab.K

/- The abstract code of some functions (written by a program of mine from the translation, by way of prepF). -/
namespace Go.Ab.C
open Go.Ab
end Go.Ab.C

/- That the program has this code. -/
namespace Go.Ab.K
open Go Go.Ab
end Go.Ab.K

/- The abstract code of some functions (written by a program of mine from the translation, by way of prepF). -/
namespace Go.Ab.C
open Go.Ab
end Go.Ab.C

/- That the program has this code. -/
namespace Go.Ab.K
open Go Go.Ab
end Go.Ab.K

/- The abstract code of some functions (written by a program of mine from the translation, by way of prepF). -/
namespace Go.Ab.C
open Go.Ab
end Go.Ab.C

/- That the program has this code. -/
namespace Go.Ab.K
open Go Go.Ab
end Go.Ab.K

/- The abstract code of some functions (written by a program of mine from the translation, by way of prepF). -/
namespace Go.Ab.C
open Go.Ab
end Go.Ab.C

/- That the program has this code. -/
namespace Go.Ab.K
open Go Go.Ab
end Go.Ab.K

/- The abstract code of some functions (written by a program of mine from the translation, by way of prepF). -/
namespace Go.Ab.C
open Go.Ab
end Go.Ab.C

/- That the program has this code. -/
namespace Go.Ab.K
open Go Go.Ab
end Go.Ab.K

/- Contracts: turned heaps of the program, lines of staircases, corners, orders. -/
namespace Go.Ab
open Go
set_option linter.unusedSimpArgs false
set_option linter.unusedVariables false
set_option maxRecDepth 20000

end Go.Ab

/- The abstract code of some functions (written by a program of mine from the translation, by way of prepF). -/
namespace Go.Ab.C
open Go.Ab
end Go.Ab.C

/- That the program has this code. -/
namespace Go.Ab.K
open Go Go.Ab
end Go.Ab.K

/- Plain words: the least staircase with all cubes of a set, the greatest one within it, hollows. -/
namespace Go.Ab
open Go
set_option linter.unusedSimpArgs false
set_option linter.unusedVariables false

/-- All cells below a cell of a set. -/
noncomputable def dnB (x y z : Int) (p : Cell → Bool) (d : Cell) : Bool := (pick x y z p).any fun c => decide (undC d c)
/-- The cells of a set all of whose cells below are in the set. -/
noncomputable def upB (x y z : Int) (p : Cell → Bool) (c : Cell) : Bool := (cellsOf x y z).all fun d => !decide (undC d c) || p d
/-- A cell with which the set is still a staircase. -/
noncomputable def hollC (x y z : Int) (p : Cell → Bool) (c : Cell) : Bool := !p c && decide (StairP x y z fun d => p d || decide (d = c))
section
variable {x y z : Int} (hS : Sides x y z)
include hS
end
end Go.Ab

/- Contracts: staircases, corners, lines and orders of the reference. -/
namespace Go.Ab
open Go
set_option linter.unusedSimpArgs false
set_option linter.unusedVariables false
set_option maxRecDepth 20000

/-- The corners of a staircase. -/
noncomputable def cornL (x y z : Int) (cs : List Cell) : List Cell := cs.filter (cornC x y z fun d => decide (d ∈ cs))
noncomputable def orsB (x y z : Int) (cs : List Cell) : Bool := strB x y z cs && decide (cs.length ≤ 9)
noncomputable def orsN (x y z : Int) (cs : List Cell) : Nat := if orsB x y z cs = true then orN x y z cs.length (fun d => decide (d ∈ cs)) else 0
end Go.Ab

/- Contracts: staircases, corners, lines and orders of the program. -/
namespace Go.Ab
open Go
set_option linter.unusedSimpArgs false
set_option linter.unusedVariables false
set_option maxRecDepth 20000

/-- What the map says is true. -/
def MemoO (x y z : Int) (L : List (BitVec 64 × Int)) : Prop := (∃ q ∈ L, q.1 = 0#64) ∧ ∀ q ∈ L, ∀ p : Cell → Bool, q.1 = bs x y z p → q.2 = (orN x y z (pick x y z p).length p : Nat)

noncomputable def linV (x y z : Int) (cs : List Cell) : Nat := if strB x y z cs = true then linesN ⟨x, y, z, cs⟩ else 0
end Go.Ab

/- The abstract code of some functions (written by a program of mine from the translation, by way of prepF). -/
namespace Go.Ab.C
open Go.Ab
end Go.Ab.C

/- That the program has this code. -/
namespace Go.Ab.K
open Go Go.Ab
end Go.Ab.K

/- Contracts: whether two heaps are the same, the reference's side. -/
namespace Go.Ab
open Go
set_option linter.unusedSimpArgs false
set_option linter.unusedVariables false
set_option maxRecDepth 20000

end Go.Ab

/- Contracts: exchanged heaps, lines, hollows, least staircases of the reference. -/
namespace Go.Ab
open Go
set_option linter.unusedSimpArgs false
set_option linter.unusedVariables false
set_option maxRecDepth 20000

end Go.Ab

/- Contracts: hollows and least staircases of the reference. -/
namespace Go.Ab
open Go
set_option linter.unusedSimpArgs false
set_option linter.unusedVariables false
set_option maxRecDepth 20000

/-- The hollows of a staircase. -/
noncomputable def hollL (x y z : Int) (cs : List Cell) : List Cell := pick x y z (hollC x y z fun d => decide (d ∈ cs))
noncomputable def leastOf (x y z : Int) (cs : List Cell) : Hp := ⟨x, y, z, pick x y z (dnB x y z fun d => decide (d ∈ cs))⟩
end Go.Ab

/- The abstract code of some functions (written by a program of mine from the translation, by way of prepF). -/
namespace Go.Ab.C
open Go.Ab
end Go.Ab.C

/- That the program has this code. -/
namespace Go.Ab.K
open Go Go.Ab
end Go.Ab.K

/- The abstract code of some functions (written by a program of mine from the translation, by way of prepF). -/
namespace Go.Ab.C
open Go.Ab
def spec_l1Cur_direction : AFn :=
 ⟨1, 10, [.tmp 2],
 .seq (.ops [(none, .mv 2 (.c (.I 0)))])
 (.seq (.seq (.ops [(none, .mv 3 (.t 0)),
 (none, .call (some 4) F.spec_l1Cur_one [(.t 3), (.c (.I 30))])])
 (.cond (.t 4) (.seq (.ops [(none, .mv 5 (.t 0)),
 (none, .buildSl 6 3 1 [(.I 0), (.I 0), (.I 0)] [(0, 1, (.c (.I (-1)))), (1, 1, (.c (.I 3))), (2, 1, (.c (.I 4611686018427387904)))]),
 (none, .call (some 7) F.spec_l1Cur_among [(.t 5), (.t 6)]),
 (none, .mv 2 (.t 7))])
 (.ret))
 (.skip)))
 (.seq (.ops [(none, .mv 8 (.t 0)),
 (none, .call (some 9) F.spec_l1Cur_pick [(.t 8), (.c (.I 3))]),
 (none, .mv 2 (.t 9))])
 (.ret)))⟩
def spec_DrawViewOf : AFn :=
 ⟨1, 12, [.cellN 2 4, .tmp 3],
 .seq (.ops [(none, .alloc 2 [(.I 0), (.I 0), (.I 0), .nil]),
 (none, .mv 3 (.c (.I 0)))])
 (.seq (.ops [(none, .mv 5 (.t 0)),
 (none, .build 6 [.nil, (.I 0), (.U 0)] [(0, 1, (.t 5))]),
 (none, .box 7 (.t 6)),
 (none, .mv 4 (.t 7))])
 (.seq (.ops [(none, .mv 8 (.t 4)),
 (none, .call (some 9) F.spec_l1Cur_heap [(.t 8)]),
 (none, .mv 10 (.t 4)),
 (none, .call (some 11) F.spec_l1Cur_direction [(.t 10)]),
 (none, .store 4 (.t 2) (.t 9)),
 (none, .mv 3 (.t 11))])
 (.ret)))⟩
end Go.Ab.C

/- That the program has this code. -/
namespace Go.Ab.K
open Go Go.Ab
theorem spec_l1Cur_direction : prepF Go.Proofs.Try.prog F.spec_l1Cur_direction = some C.spec_l1Cur_direction := by kernel_rfl
theorem spec_DrawViewOf : prepF Go.Proofs.Try.prog F.spec_DrawViewOf = some C.spec_DrawViewOf := by kernel_rfl
end Go.Ab.K

/- Contracts: what the law of heaps' forms draws. -/
namespace Go.Ab
open Go
set_option linter.unusedSimpArgs false
set_option linter.unusedVariables false
set_option maxRecDepth 20000

theorem d_direction {p t o a : Nat} {bs : List Nat} {M : Mem} (h : CurAt M p t o bs a) (ha : a ≤ 999900) : CallsR PG F.spec_l1Cur_direction [.ptr p 0] M fun v N => (∃ b : Int, v = .I b) ∧ DrawN M p t o bs (a + 4) N := by
  refine callsR_run K.spec_l1Cur_direction rfl ?_
  simp (disch := omega) only [C.spec_l1Cur_direction, ↓SXd, SXu, slBounds, ↓sop, ↓aop, ↓reduceIte, LV.cells, AOp.dst, LV.I, LV.B, LV.U, LV.S, LV.nil, Nat.reduceEqDiff, Nat.reduceAdd, Nat.reduceMul, Nat.reduceSub, Nat.reduceLeDiff, Nat.reduceBEq, Nat.reduceDiv, Nat.reduceMod, Int.reduceToNat, Int.reduceLT, Int.reduceLE, Int.reduceAdd, Int.reduceSub, Int.reduceMul, Int.reduceEq, Int.reduceNeg, reduceCtorEq, resV, resAll, ARes.ev, LV.flat, ite_true, ite_false, exists_eq_left', exists_eq_left, keyOf, implies_true, fillC, capOf]
  refine callR_of (d_one h (by omega)) ?_
  rintro _ N1 ⟨⟨b, rfl⟩, hd1⟩
  cases b
  · simp (disch := omega) only [↓SXd, SXu, slBounds, ↓sop, ↓aop, ↓reduceIte, LV.cells, AOp.dst, LV.I, LV.B, LV.U, LV.S, LV.nil, Nat.reduceEqDiff, Nat.reduceAdd, Nat.reduceMul, Nat.reduceSub, Nat.reduceLeDiff, Nat.reduceBEq, Nat.reduceDiv, Nat.reduceMod, Int.reduceToNat, Int.reduceLT, Int.reduceLE, Int.reduceAdd, Int.reduceSub, Int.reduceMul, Int.reduceEq, Int.reduceNeg, reduceCtorEq, resV, resAll, ARes.ev, LV.flat, ite_true, ite_false, exists_eq_left', exists_eq_left, keyOf, implies_true, fillC, capOf]
    refine callR_of (d_pick hd1.1 (by omega)) ?_
    rintro _ N2 ⟨⟨b, rfl, _⟩, hd2⟩
    simp (disch := omega) only [↓SXd, SXu, slBounds, ↓sop, ↓aop, ↓reduceIte, LV.cells, AOp.dst, LV.I, LV.B, LV.U, LV.S, LV.nil, Nat.reduceEqDiff, Nat.reduceAdd, Nat.reduceMul, Nat.reduceSub, Nat.reduceLeDiff, Nat.reduceBEq, Nat.reduceDiv, Nat.reduceMod, Int.reduceToNat, Int.reduceLT, Int.reduceLE, Int.reduceAdd, Int.reduceSub, Int.reduceMul, Int.reduceEq, Int.reduceNeg, reduceCtorEq, resV, resAll, ARes.ev, LV.flat, ite_true, ite_false, exists_eq_left', exists_eq_left, keyOf, implies_true, fillC, capOf]
    exact ⟨⟨_, rfl⟩, hd1.trans hd2⟩
  · simp (disch := omega) only [splice, ↓SXd, SXu, slBounds, ↓sop, ↓aop, ↓reduceIte, LV.cells, AOp.dst, LV.I, LV.B, LV.U, LV.S, LV.nil, Nat.reduceEqDiff, Nat.reduceAdd, Nat.reduceMul, Nat.reduceSub, Nat.reduceLeDiff, Nat.reduceBEq, Nat.reduceDiv, Nat.reduceMod, Int.reduceToNat, Int.reduceLT, Int.reduceLE, Int.reduceAdd, Int.reduceSub, Int.reduceMul, Int.reduceEq, Int.reduceNeg, reduceCtorEq, resV, resAll, ARes.ev, LV.flat, ite_true, ite_false, exists_eq_left', exists_eq_left, keyOf, implies_true, fillC, capOf]
    refine callR_of (d_amongNew (xs := [-1, 3, 4611686018427387904]) hd1.1 (by omega) (by simp) (by simp)) ?_
    rintro _ N2 ⟨⟨b, rfl, _⟩, hd2⟩
    simp (disch := omega) only [↓SXd, SXu, slBounds, ↓sop, ↓aop, ↓reduceIte, LV.cells, AOp.dst, LV.I, LV.B, LV.U, LV.S, LV.nil, Nat.reduceEqDiff, Nat.reduceAdd, Nat.reduceMul, Nat.reduceSub, Nat.reduceLeDiff, Nat.reduceBEq, Nat.reduceDiv, Nat.reduceMod, Int.reduceToNat, Int.reduceLT, Int.reduceLE, Int.reduceAdd, Int.reduceSub, Int.reduceMul, Int.reduceEq, Int.reduceNeg, reduceCtorEq, resV, resAll, ARes.ev, LV.flat, ite_true, ite_false, exists_eq_left', exists_eq_left, keyOf, implies_true, fillC, capOf]
    exact ⟨⟨_, rfl⟩, hd1.trans hd2⟩
section
variable {t o : Nat} {bs : List Nat} {M : Mem} (hB : Bytes M t o bs) (h255 : ∀ b ∈ bs, b ≤ 255) (hl : bs.length ≤ 1000000000)
include hB h255 hl
theorem d_DrawViewOf : CallsR PG F.spec_DrawViewOf [.ref t o bs.length] M fun v N => (∃ (hv : LV) (k : Int), v = .tup [hv, .I k] ∧ HeapE M hv N) ∧ Pre M N := by
  have htM := hB.lt
  refine callsR_run K.spec_DrawViewOf rfl ?_
  simp (disch := omega) only [C.spec_DrawViewOf, splice, ↓SXd, SXu, slBounds, ↓sop, ↓aop, ↓reduceIte, LV.cells, AOp.dst, LV.I, LV.B, LV.U, LV.S, LV.nil, Nat.reduceEqDiff, Nat.reduceAdd, Nat.reduceMul, Nat.reduceSub, Nat.reduceLeDiff, Nat.reduceBEq, Nat.reduceDiv, Nat.reduceMod, Int.reduceToNat, Int.reduceLT, Int.reduceLE, Int.reduceAdd, Int.reduceSub, Int.reduceMul, Int.reduceEq, Int.reduceNeg, reduceCtorEq, resV, resAll, ARes.ev, LV.flat, ite_true, ite_false, exists_eq_left', exists_eq_left, keyOf, implies_true, fillC, capOf]
  have hc := CurAt.new2 (b := some (.row [.I 0, .I 0, .I 0, .nil] true 0)) hB h255 hl
  refine callR_of (d_heapE hc (by omega)) ?_
  rintro _ N1 ⟨⟨x, y, z, cs, u, rfl, hu, hul, hcl⟩, hd1⟩
  rw [List.length_append] at hul
  simp only [List.length_cons, List.length_nil] at hul
  have b2 : Live N1 M.length (.row [.I 0, .I 0, .I 0, .nil] true 0) := hd1.live Live.new (by omega)
  have hP1 : Pre M N1 := hd1.pre (Pre.app _ _) (by omega)
  simp (disch := omega) only [splice, ↓SXd, SXu, slBounds, ↓sop, ↓aop, ↓reduceIte, LV.cells, AOp.dst, LV.I, LV.B, LV.U, LV.S, LV.nil, Nat.reduceEqDiff, Nat.reduceAdd, Nat.reduceMul, Nat.reduceSub, Nat.reduceLeDiff, Nat.reduceBEq, Nat.reduceDiv, Nat.reduceMod, Int.reduceToNat, Int.reduceLT, Int.reduceLE, Int.reduceAdd, Int.reduceSub, Int.reduceMul, Int.reduceEq, Int.reduceNeg, reduceCtorEq, resV, resAll, ARes.ev, LV.flat, ite_true, ite_false, exists_eq_left', exists_eq_left, keyOf, implies_true, fillC, capOf]
  refine callR_of (d_direction hd1.1 (by omega)) ?_
  rintro _ N4 ⟨⟨k, rfl⟩, hD⟩
  have e2 : Live N4 M.length (.row [.I 0, .I 0, .I 0, .nil] true 0) := hD.live b2 (by omega)
  have eu : Live N4 u (.row (triL cs) true 3) := hD.live hu (by omega)
  have hP4 : Pre M N4 := hD.pre hP1 (by omega)
  have e2l := e2.lt
  simp (disch := omega) only [↓SXd, SXu, slBounds, ↓sop, ↓aop, ↓reduceIte, LV.cells, AOp.dst, LV.I, LV.B, LV.U, LV.S, LV.nil, Nat.reduceEqDiff, Nat.reduceAdd, Nat.reduceMul, Nat.reduceSub, Nat.reduceLeDiff, Nat.reduceBEq, Nat.reduceDiv, Nat.reduceMod, Int.reduceToNat, Int.reduceLT, Int.reduceLE, Int.reduceAdd, Int.reduceSub, Int.reduceMul, Int.reduceEq, Int.reduceNeg, reduceCtorEq, resV, resAll, ARes.ev, LV.flat, ite_true, ite_false, exists_eq_left', exists_eq_left, keyOf, implies_true, fillC, capOf]
  refine memK_box e2 (by simp) fun N5 i1 i2 i3 => ?_
  simp (disch := omega) only [i2.cells, ↓SXd, SXu, slBounds, ↓sop, ↓aop, ↓reduceIte, LV.cells, AOp.dst, LV.I, LV.B, LV.U, LV.S, LV.nil, Nat.reduceEqDiff, Nat.reduceAdd, Nat.reduceMul, Nat.reduceSub, Nat.reduceLeDiff, Nat.reduceBEq, Nat.reduceDiv, Nat.reduceMod, Int.reduceToNat, Int.reduceLT, Int.reduceLE, Int.reduceAdd, Int.reduceSub, Int.reduceMul, Int.reduceEq, Int.reduceNeg, reduceCtorEq, resV, resAll, ARes.ev, LV.flat, ite_true, ite_false, exists_eq_left', exists_eq_left, keyOf, implies_true, fillC, capOf]
  exact ⟨⟨_, k, rfl, x, y, z, cs, u, rfl, live_step eu (by omega) i3, by omega, hcl⟩, pre_step hP4 (by omega) (j := 0) i1 i3⟩
end
end Go.Ab

/- Contracts: the shadows that a law draws. -/
namespace Go.Ab
open Go
set_option linter.unusedSimpArgs false
set_option linter.unusedVariables false
set_option maxRecDepth 20000

/-- A heap whose cells lie in a block of their own. -/
def HeapL (v : LV) (N : Mem) : Prop := ∃ (x y z : Int) (cs : List Cell) (u : Nat), v = .agg [.I x, .I y, .I z, .ref u 0 cs.length] ∧ Live N u (.row (triL cs) true 3) ∧ cs.length ≤ 65
/-- A drawn shadow: its lists lie in new blocks. -/
def ShdL (M : Mem) (v : LV) (N : Mem) : Prop := ∃ (x y z : Int) (tp fr sd : List Int) (a b c : Nat), v = .agg [.I x, .I y, .I z, .ref a 0 tp.length, .ref b 0 fr.length, .ref c 0 sd.length] ∧
  Live N a (.row (intL tp) true 1) ∧ Live N b (.row (intL fr) true 1) ∧ Live N c (.row (intL sd) true 1) ∧ M.length ≤ a ∧ M.length ≤ b ∧ M.length ≤ c ∧ tp.length ≤ 17 ∧ fr.length ≤ 17 ∧ sd.length ≤ 17
section
variable {t o : Nat} {bs : List Nat} {M : Mem} (hB : Bytes M t o bs) (h255 : ∀ b ∈ bs, b ≤ 255) (hl : bs.length ≤ 1000000000)
include hB h255 hl
end
end Go.Ab

/- Contracts: staircases that the laws draw. -/
namespace Go.Ab
open Go
set_option linter.unusedSimpArgs false
set_option linter.unusedVariables false
set_option maxRecDepth 20000

section
variable {t o : Nat} {bs : List Nat} {M : Mem} (hB : Bytes M t o bs) (h255 : ∀ b ∈ bs, b ≤ 255) (hl : bs.length ≤ 1000000000)
include hB h255 hl
end
end Go.Ab

/- Contracts: what the law of the numbers of staircases draws. -/
namespace Go.Ab
open Go
set_option linter.unusedSimpArgs false
set_option linter.unusedVariables false
set_option maxRecDepth 20000

section
variable {t o : Nat} {bs : List Nat} {M : Mem} (hB : Bytes M t o bs) (h255 : ∀ b ∈ bs, b ≤ 255) (hl : bs.length ≤ 1000000000)
include hB h255 hl
end
end Go.Ab

/- Contracts: what the law of tables draws. -/
namespace Go.Ab
open Go
set_option linter.unusedSimpArgs false
set_option linter.unusedVariables false
set_option maxRecDepth 20000

theorem DrawN.keepT {M N N' : Mem} {p t o a w : Nat} {bs : List Nat} (h : DrawN M p t o bs a N) (hp : p < M.length) (ht : t < M.length) (hw : M.length ≤ w) (hl : N.length ≤ N'.length) (hk : ∀ q, q ≠ w → q < N.length → N'[q]? = N[q]?) : DrawN M p t o bs a N' := by
  obtain ⟨⟨⟨i, s, h1, h2⟩, h3, h4⟩, h5, h6⟩ := h
  exact ⟨⟨⟨i, s, h1, Live.at h2 (hk _ (by omega) h2.lt)⟩, Has.at' h3 (hk _ (by omega) h3.lt), h4⟩, by omega, fun q q1 q2 => by rw [hk q (by omega) (by omega)]; exact h6 q q1 q2⟩
/-- Two lists of numbers that have been drawn. -/
def TwoL (M : Mem) (v : LV) (N : Mem) : Prop := ∃ (R D : List Int) (tr tc : Nat), v = .tup [.ref tr 0 R.length, .ref tc 0 D.length] ∧ Live N tr (.row (intL R) true 1) ∧ Live N tc (.row (intL D) true 1) ∧ R.length ≤ 4 ∧ D.length ≤ 5
section
variable {p t o a : Nat} {bs : List Nat} {M : Mem}
theorem d_sums (h : CurAt M p t o bs a) (ha : a ≤ 900000) : CallsR PG F.spec_l1Cur_sums [.ptr p 0] M fun v N => TwoL M v N ∧ DrawN M p t o bs (a + 200) N := by
  obtain ⟨⟨_, _, _, hpl'⟩, _⟩ := id h
  have hpl := hpl'.lt
  refine callsR_run K.spec_l1Cur_sums rfl ?_
  simp (disch := omega) only [C.spec_l1Cur_sums, ↓SXd, SXu, slBounds, ↓sop, ↓aop, ↓reduceIte, LV.cells, AOp.dst, LV.I, LV.B, LV.U, LV.S, LV.nil, Nat.reduceEqDiff, Nat.reduceAdd, Nat.reduceMul, Nat.reduceSub, Nat.reduceLeDiff, Nat.reduceBEq, Nat.reduceDiv, Nat.reduceMod, Int.reduceToNat, Int.reduceLT, Int.reduceLE, Int.reduceAdd, Int.reduceSub, Int.reduceMul, Int.reduceEq, Int.reduceNeg, reduceCtorEq, resV, resAll, ARes.ev, LV.flat, ite_true, ite_false, exists_eq_left', exists_eq_left, keyOf, implies_true, fillC, capOf]
  refine callR_of (d_amongNew (xs := [3, 2, 4, 1]) h (by omega) (by simp) (by simp)) ?_
  rintro _ N1 ⟨⟨x, rfl, hx⟩, hd1⟩
  simp (disch := omega) only [↓SXd, SXu, slBounds, ↓sop, ↓aop, ↓reduceIte, LV.cells, AOp.dst, LV.I, LV.B, LV.U, LV.S, LV.nil, Nat.reduceEqDiff, Nat.reduceAdd, Nat.reduceMul, Nat.reduceSub, Nat.reduceLeDiff, Nat.reduceBEq, Nat.reduceDiv, Nat.reduceMod, Int.reduceToNat, Int.reduceLT, Int.reduceLE, Int.reduceAdd, Int.reduceSub, Int.reduceMul, Int.reduceEq, Int.reduceNeg, reduceCtorEq, resV, resAll, ARes.ev, LV.flat, ite_true, ite_false, exists_eq_left', exists_eq_left, keyOf, implies_true, fillC, capOf]
  refine callR_of (d_amongNew (xs := [3, 2, 4, 1]) hd1.1 (by omega) (by simp) (by simp)) ?_
  rintro _ N2 ⟨⟨y, rfl, hy⟩, hd2⟩
  have hxy : Sides x y 1 := by
    simp at hx hy
    unfold Sides; omega
  simp (disch := omega) only [↓SXd, SXu, slBounds, ↓sop, ↓aop, ↓reduceIte, LV.cells, AOp.dst, LV.I, LV.B, LV.U, LV.S, LV.nil, Nat.reduceEqDiff, Nat.reduceAdd, Nat.reduceMul, Nat.reduceSub, Nat.reduceLeDiff, Nat.reduceBEq, Nat.reduceDiv, Nat.reduceMod, Int.reduceToNat, Int.reduceLT, Int.reduceLE, Int.reduceAdd, Int.reduceSub, Int.reduceMul, Int.reduceEq, Int.reduceNeg, reduceCtorEq, resV, resAll, ARes.ev, LV.flat, ite_true, ite_false, exists_eq_left', exists_eq_left, keyOf, implies_true, fillC, capOf]
  refine callR_of (d_someHeapK hd2.1 (by omega)) ?_
  rintro _ N3 ⟨⟨cs, u, rfl, hu, huM, hul, hH⟩, hd3⟩
  have hH := hH hxy
  have hcu := hd3.1
  have hdA := (hd1.trans hd2).trans hd3
  simp (disch := omega) only [splice, ↓SXd, SXu, slBounds, ↓sop, ↓aop, ↓reduceIte, LV.cells, AOp.dst, LV.I, LV.B, LV.U, LV.S, LV.nil, Nat.reduceEqDiff, Nat.reduceAdd, Nat.reduceMul, Nat.reduceSub, Nat.reduceLeDiff, Nat.reduceBEq, Nat.reduceDiv, Nat.reduceMod, Int.reduceToNat, Int.reduceLT, Int.reduceLE, Int.reduceAdd, Int.reduceSub, Int.reduceMul, Int.reduceEq, Int.reduceNeg, reduceCtorEq, resV, resAll, ARes.ev, LV.flat, ite_true, ite_false, exists_eq_left', exists_eq_left, keyOf, implies_true, fillC, capOf]
  have huZ : Tri (N3 ++ [some (.row [.I x, .I y, .I 1, .ref u 0 cs.length] true 0)]) u 0 cs := Has.app hu.has
  have hpZ : Pre N3 (N3 ++ [some (.row [.I x, .I y, .I 1, .ref u 0 cs.length] true 0)]) := Pre.app _ _
  generalize N3 ++ [some (Blk.row [.I x, .I y, .I 1, .ref u 0 cs.length] true 0)] = Z at huZ hpZ ⊢
  have hbt : t < M.length := h.2.1.lt
  refine callR_of (h_l2Layer (d := 2) (k := 0) huZ hH (by omega) ⟨by omega, by simp [sideOf]⟩) ?_
  rintro _ N4 ⟨tl, rfl, hTV, hp4⟩
  change TabV N4 (.ref tl 0 (layT x y 1 2 cs 0).length) (layT x y 1 2 cs 0) at hTV
  change putK _ _ _ (.ref tl 0 (layT x y 1 2 cs 0).length) _
  have hLl := layT_len (x := x) (y := y) (z := 1) (d := 2) (cs := cs) (k := 0)
  have hL01 := layT_01 (x := x) (y := y) (z := 1) (d := 2) (cs := cs) (k := 0)
  have sA := sideOf_in hxy (dirA 2)
  have sB := sideOf_in hxy (dirB 2)
  have hln : 1 ≤ layN x y 1 2 ∧ layN x y 1 2 ≤ 4 := by unfold layN; omega
  simp (disch := omega) only [↓SXd, SXu, slBounds, ↓sop, ↓aop, ↓reduceIte, LV.cells, AOp.dst, LV.I, LV.B, LV.U, LV.S, LV.nil, Nat.reduceEqDiff, Nat.reduceAdd, Nat.reduceMul, Nat.reduceSub, Nat.reduceLeDiff, Nat.reduceBEq, Nat.reduceDiv, Nat.reduceMod, Int.reduceToNat, Int.reduceLT, Int.reduceLE, Int.reduceAdd, Int.reduceSub, Int.reduceMul, Int.reduceEq, Int.reduceNeg, reduceCtorEq, resV, resAll, ARes.ev, LV.flat, ite_true, ite_false, exists_eq_left', exists_eq_left, keyOf, implies_true, fillC, capOf]
  refine callR_of (h_l4Sums hTV hL01 (by omega) (by omega) hln.2) ?_
  rintro _ N5 ⟨ur, uc, rfl, hp5, bR, bC, hne, hur, huc⟩
  have hRb : ∀ r ∈ (layT x y 1 2 cs 0).map litSum, 0 ≤ r ∧ r ≤ 4 := fun r hr => by
    obtain ⟨row, r1, rfl⟩ := List.mem_map.1 hr
    have r2 := hL01 row r1
    have r3 := litSum_bits r2.2
    omega
  have hCb : ∀ r ∈ colsE (layN x y 1 2) (layT x y 1 2 cs 0), 0 ≤ r ∧ r ≤ 4 := fun r hr => by
    have r3 := colsE_bound hL01 r hr
    omega
  have hRl : ((layT x y 1 2 cs 0).map litSum).length = (layT x y 1 2 cs 0).length := List.length_map _
  have hCl := colsE_len (n := layN x y 1 2) (T := layT x y 1 2 cs 0)
  rw [← hRl]
  generalize (layT x y 1 2 cs 0).map litSum = R at bR hRb hRl ⊢
  rw [← hCl]
  generalize colsE (layN x y 1 2) (layT x y 1 2 cs 0) = D at bC hCb hCl ⊢
  have hR4 : 1 ≤ R.length ∧ R.length ≤ 4 := by omega
  have hD4 : 1 ≤ D.length ∧ D.length ≤ 4 := by omega
  have hp35 := (hpZ.trans hp4).trans hp5
  have hdB : DrawN M p t o bs (a + 150) N5 := hdA.keep hpl hbt (by omega) hp35.1 fun q hq => hp35.2 q (Nat.lt_of_lt_of_le hq hdA.2.1)
  have hMN := hdA.2.1
  have hMN4 := (hpZ.trans hp4).1
  have hur' : M.length ≤ ur := by omega
  have huc' : M.length ≤ uc := by omega
  clear hRl hCl hln hLl hL01 hTV sA sB hp35 hp4 hp5 huZ hpZ hur huc hMN hMN4 hu hdA hd3 hd2 hd1
  simp (disch := omega) only [↓SXd, SXu, slBounds, ↓sop, ↓aop, ↓reduceIte, LV.cells, AOp.dst, LV.I, LV.B, LV.U, LV.S, LV.nil, Nat.reduceEqDiff, Nat.reduceAdd, Nat.reduceMul, Nat.reduceSub, Nat.reduceLeDiff, Nat.reduceBEq, Nat.reduceDiv, Nat.reduceMod, Int.reduceToNat, Int.reduceLT, Int.reduceLE, Int.reduceAdd, Int.reduceSub, Int.reduceMul, Int.reduceEq, Int.reduceNeg, reduceCtorEq, resV, resAll, ARes.ev, LV.flat, ite_true, ite_false, exists_eq_left', exists_eq_left, keyOf, implies_true, fillC, capOf]
  refine callR_of (d_one hdB.1 (by omega)) ?_
  rintro _ N6 ⟨⟨b, rfl⟩, hd6⟩
  have bR := hd6.live bR (by omega)
  have bC := hd6.live bC (by omega)
  have hdC := hdB.trans hd6
  clear hd6 hdB
  simp (disch := omega) only [↓SXd, SXu, slBounds, ↓sop, ↓aop, ↓reduceIte, LV.cells, AOp.dst, LV.I, LV.B, LV.U, LV.S, LV.nil, Nat.reduceEqDiff, Nat.reduceAdd, Nat.reduceMul, Nat.reduceSub, Nat.reduceLeDiff, Nat.reduceBEq, Nat.reduceDiv, Nat.reduceMod, Int.reduceToNat, Int.reduceLT, Int.reduceLE, Int.reduceAdd, Int.reduceSub, Int.reduceMul, Int.reduceEq, Int.reduceNeg, reduceCtorEq, resV, resAll, ARes.ev, LV.flat, ite_true, ite_false, exists_eq_left', exists_eq_left, keyOf, implies_true, fillC, capOf]
  refine cond_cut (fun fr N => ∃ (R D : List Int) (tr tc : Nat), Live N tr (.row (intL R) true 1) ∧ Live N tc (.row (intL D) true 1) ∧ (M.length ≤ tr ∧ M.length ≤ tc ∧ tr ≠ tc) ∧ (1 ≤ R.length ∧ R.length ≤ 4) ∧ (1 ≤ D.length ∧ D.length ≤ 4) ∧ DrawN M p t o bs (a + 170) N ∧ fr 0 = .ptr p 0 ∧ fr 5 = .ref tr 0 R.length ∧ fr 6 = .ref tc 0 D.length) ?_ ?_
  · cases b
    · simp (disch := omega) only [↓SXd, SXu, slBounds, ↓sop, ↓aop, ↓reduceIte, LV.cells, AOp.dst, LV.I, LV.B, LV.U, LV.S, LV.nil, Nat.reduceEqDiff, Nat.reduceAdd, Nat.reduceMul, Nat.reduceSub, Nat.reduceLeDiff, Nat.reduceBEq, Nat.reduceDiv, Nat.reduceMod, Int.reduceToNat, Int.reduceLT, Int.reduceLE, Int.reduceAdd, Int.reduceSub, Int.reduceMul, Int.reduceEq, Int.reduceNeg, reduceCtorEq, resV, resAll, ARes.ev, LV.flat, ite_true, ite_false, exists_eq_left', exists_eq_left, keyOf, implies_true, fillC, capOf]
      exact ⟨R, D, ur, uc, bR, bC, ⟨hur', huc', hne⟩, hR4, hD4, hdC.up (by omega), rfl, rfl⟩
    · simp (disch := omega) only [↓SXd, SXu, slBounds, ↓sop, ↓aop, ↓reduceIte, LV.cells, AOp.dst, LV.I, LV.B, LV.U, LV.S, LV.nil, Nat.reduceEqDiff, Nat.reduceAdd, Nat.reduceMul, Nat.reduceSub, Nat.reduceLeDiff, Nat.reduceBEq, Nat.reduceDiv, Nat.reduceMod, Int.reduceToNat, Int.reduceLT, Int.reduceLE, Int.reduceAdd, Int.reduceSub, Int.reduceMul, Int.reduceEq, Int.reduceNeg, reduceCtorEq, resV, resAll, ARes.ev, LV.flat, ite_true, ite_false, exists_eq_left', exists_eq_left, keyOf, implies_true, fillC, capOf]
      refine callR_of (d_pick hdC.1 (by omega)) ?_
      rintro _ N7 ⟨⟨i, rfl, hi⟩, hd7⟩
      have bR := hd7.live bR (by omega)
      have bC := hd7.live bC (by omega)
      have hdD := hdC.trans hd7
      clear hd7 hdC
      have hil : i < R.length := by omega
      have hgi := Ints.get bR.has hil
      rw [Nat.zero_add] at hgi
      have hbi := hRb _ (getD_mem' (d := 0) hil)
      have hil' : (i : Int) < (R.length : Nat) := by omega
      simp (disch := omega) only [hgi, hil', Nat.mul_one, Nat.zero_add, ↓SXd, SXu, slBounds, ↓sop, ↓aop, ↓reduceIte, LV.cells, AOp.dst, LV.I, LV.B, LV.U, LV.S, LV.nil, Nat.reduceEqDiff, Nat.reduceAdd, Nat.reduceMul, Nat.reduceSub, Nat.reduceLeDiff, Nat.reduceBEq, Nat.reduceDiv, Nat.reduceMod, Int.reduceToNat, Int.reduceLT, Int.reduceLE, Int.reduceAdd, Int.reduceSub, Int.reduceMul, Int.reduceEq, Int.reduceNeg, reduceCtorEq, resV, resAll, ARes.ev, LV.flat, ite_true, ite_false, exists_eq_left', exists_eq_left, keyOf, implies_true, fillC, capOf]
      refine callR_of (d_amongNew (xs := [1, -1]) hdD.1 (by omega) (by simp) (by simp)) ?_
      rintro _ N8 ⟨⟨v, rfl, hv⟩, hd8⟩
      have hv2 : -1 ≤ v ∧ v ≤ 1 := by simp at hv; omega
      have bR8 := hd8.live bR (by omega)
      have bC8 := hd8.live bC (by omega)
      have hdE := hdD.trans hd8
      simp (disch := omega) only [↓SXd, SXu, slBounds, ↓sop, ↓aop, ↓reduceIte, LV.cells, AOp.dst, LV.I, LV.B, LV.U, LV.S, LV.nil, Nat.reduceEqDiff, Nat.reduceAdd, Nat.reduceMul, Nat.reduceSub, Nat.reduceLeDiff, Nat.reduceBEq, Nat.reduceDiv, Nat.reduceMod, Int.reduceToNat, Int.reduceLT, Int.reduceLE, Int.reduceAdd, Int.reduceSub, Int.reduceMul, Int.reduceEq, Int.reduceNeg, reduceCtorEq, resV, resAll, ARes.ev, LV.flat, ite_true, ite_false, exists_eq_left', exists_eq_left, keyOf, implies_true, fillC, capOf]
      have hurl := bR.lt
      refine ⟨fun b hb => by rw [List.getElem?_append_left hurl] at hb; exact hd8.stay hurl (by omega) b hb, ?_⟩
      refine callK_of h_l1Most ?_
      simp (disch := omega) only [hil', Nat.mul_one, Nat.zero_add, ↓SXd, SXu, slBounds, ↓sop, ↓aop, ↓reduceIte, LV.cells, AOp.dst, LV.I, LV.B, LV.U, LV.S, LV.nil, Nat.reduceEqDiff, Nat.reduceAdd, Nat.reduceMul, Nat.reduceSub, Nat.reduceLeDiff, Nat.reduceBEq, Nat.reduceDiv, Nat.reduceMod, Int.reduceToNat, Int.reduceLT, Int.reduceLE, Int.reduceAdd, Int.reduceSub, Int.reduceMul, Int.reduceEq, Int.reduceNeg, reduceCtorEq, resV, resAll, ARes.ev, LV.flat, ite_true, ite_false, exists_eq_left', exists_eq_left, keyOf, implies_true, fillC, capOf]
      refine memK_int bR8 hil fun N9 k1 k2 k3 => ?_
      have bC9 := live_step bC8 (fun e => hne e.symm) k3
      have hdF : DrawN M p t o bs (a + 158) N9 := (hdE.keepT hpl hbt hur' (by omega) k3).up (by omega)
      have hRl2 : (R.set i (max 0 (R.getD i 0 + v))).length = R.length := List.length_set ..
      generalize R.set i (max 0 (R.getD i 0 + v)) = R2 at k2 hRl2
      rw [← hRl2]
      rw [← hRl2] at hR4
      clear hdE bC8 bR8 hd8 hdD hgi hbi hil hil' k3 hi hRb
      simp (disch := omega) only [↓SXd, SXu, slBounds, ↓sop, ↓aop, ↓reduceIte, LV.cells, AOp.dst, LV.I, LV.B, LV.U, LV.S, LV.nil, Nat.reduceEqDiff, Nat.reduceAdd, Nat.reduceMul, Nat.reduceSub, Nat.reduceLeDiff, Nat.reduceBEq, Nat.reduceDiv, Nat.reduceMod, Int.reduceToNat, Int.reduceLT, Int.reduceLE, Int.reduceAdd, Int.reduceSub, Int.reduceMul, Int.reduceEq, Int.reduceNeg, reduceCtorEq, resV, resAll, ARes.ev, LV.flat, ite_true, ite_false, exists_eq_left', exists_eq_left, keyOf, implies_true, fillC, capOf]
      refine callR_of (d_one hdF.1 (by omega)) ?_
      rintro _ N10 ⟨⟨b, rfl⟩, hd10⟩
      have bR := hd10.live k2 (by omega)
      have bC := hd10.live bC9 (by omega)
      have hdG := hdF.trans hd10
      clear hd10 hdF k2 bC9
      cases b
      · simp (disch := omega) only [↓SXd, SXu, slBounds, ↓sop, ↓aop, ↓reduceIte, LV.cells, AOp.dst, LV.I, LV.B, LV.U, LV.S, LV.nil, Nat.reduceEqDiff, Nat.reduceAdd, Nat.reduceMul, Nat.reduceSub, Nat.reduceLeDiff, Nat.reduceBEq, Nat.reduceDiv, Nat.reduceMod, Int.reduceToNat, Int.reduceLT, Int.reduceLE, Int.reduceAdd, Int.reduceSub, Int.reduceMul, Int.reduceEq, Int.reduceNeg, reduceCtorEq, resV, resAll, ARes.ev, LV.flat, ite_true, ite_false, exists_eq_left', exists_eq_left, keyOf, implies_true, fillC, capOf]
        exact ⟨R2, D, ur, uc, bR, bC, ⟨hur', huc', hne⟩, hR4, hD4, hdG.up (by omega), rfl, rfl⟩
      · simp (disch := omega) only [↓SXd, SXu, slBounds, ↓sop, ↓aop, ↓reduceIte, LV.cells, AOp.dst, LV.I, LV.B, LV.U, LV.S, LV.nil, Nat.reduceEqDiff, Nat.reduceAdd, Nat.reduceMul, Nat.reduceSub, Nat.reduceLeDiff, Nat.reduceBEq, Nat.reduceDiv, Nat.reduceMod, Int.reduceToNat, Int.reduceLT, Int.reduceLE, Int.reduceAdd, Int.reduceSub, Int.reduceMul, Int.reduceEq, Int.reduceNeg, reduceCtorEq, resV, resAll, ARes.ev, LV.flat, ite_true, ite_false, exists_eq_left', exists_eq_left, keyOf, implies_true, fillC, capOf]
        refine callR_of (d_pick hdG.1 (by omega)) ?_
        rintro _ N11 ⟨⟨i, rfl, hi⟩, hd11⟩
        have bR := hd11.live bR (by omega)
        have bC := hd11.live bC (by omega)
        have hdH := hdG.trans hd11
        clear hd11 hdG
        have hil : i < D.length := by omega
        have hgi := Ints.get bC.has hil
        rw [Nat.zero_add] at hgi
        have hbi := hCb _ (getD_mem' (d := 0) hil)
        have hil' : (i : Int) < (D.length : Nat) := by omega
        simp (disch := omega) only [hgi, hil', Nat.mul_one, Nat.zero_add, ↓SXd, SXu, slBounds, ↓sop, ↓aop, ↓reduceIte, LV.cells, AOp.dst, LV.I, LV.B, LV.U, LV.S, LV.nil, Nat.reduceEqDiff, Nat.reduceAdd, Nat.reduceMul, Nat.reduceSub, Nat.reduceLeDiff, Nat.reduceBEq, Nat.reduceDiv, Nat.reduceMod, Int.reduceToNat, Int.reduceLT, Int.reduceLE, Int.reduceAdd, Int.reduceSub, Int.reduceMul, Int.reduceEq, Int.reduceNeg, reduceCtorEq, resV, resAll, ARes.ev, LV.flat, ite_true, ite_false, exists_eq_left', exists_eq_left, keyOf, implies_true, fillC, capOf]
        refine callR_of (d_amongNew (xs := [1, -1]) hdH.1 (by omega) (by simp) (by simp)) ?_
        rintro _ N12 ⟨⟨v, rfl, hv⟩, hd12⟩
        have hv2 : -1 ≤ v ∧ v ≤ 1 := by simp at hv; omega
        have bR8 := hd12.live bR (by omega)
        have bC8 := hd12.live bC (by omega)
        have hdE := hdH.trans hd12
        simp (disch := omega) only [↓SXd, SXu, slBounds, ↓sop, ↓aop, ↓reduceIte, LV.cells, AOp.dst, LV.I, LV.B, LV.U, LV.S, LV.nil, Nat.reduceEqDiff, Nat.reduceAdd, Nat.reduceMul, Nat.reduceSub, Nat.reduceLeDiff, Nat.reduceBEq, Nat.reduceDiv, Nat.reduceMod, Int.reduceToNat, Int.reduceLT, Int.reduceLE, Int.reduceAdd, Int.reduceSub, Int.reduceMul, Int.reduceEq, Int.reduceNeg, reduceCtorEq, resV, resAll, ARes.ev, LV.flat, ite_true, ite_false, exists_eq_left', exists_eq_left, keyOf, implies_true, fillC, capOf]
        have hurl := bC.lt
        refine ⟨fun b hb => by rw [List.getElem?_append_left hurl] at hb; exact hd12.stay hurl (by omega) b hb, ?_⟩
        refine callK_of h_l1Most ?_
        simp (disch := omega) only [hil', Nat.mul_one, Nat.zero_add, ↓SXd, SXu, slBounds, ↓sop, ↓aop, ↓reduceIte, LV.cells, AOp.dst, LV.I, LV.B, LV.U, LV.S, LV.nil, Nat.reduceEqDiff, Nat.reduceAdd, Nat.reduceMul, Nat.reduceSub, Nat.reduceLeDiff, Nat.reduceBEq, Nat.reduceDiv, Nat.reduceMod, Int.reduceToNat, Int.reduceLT, Int.reduceLE, Int.reduceAdd, Int.reduceSub, Int.reduceMul, Int.reduceEq, Int.reduceNeg, reduceCtorEq, resV, resAll, ARes.ev, LV.flat, ite_true, ite_false, exists_eq_left', exists_eq_left, keyOf, implies_true, fillC, capOf]
        refine memK_int bC8 hil fun N13 k1 k2 k3 => ?_
        have bR9 := live_step bR8 hne k3
        have hdF : DrawN M p t o bs (a + 166) N13 := (hdE.keepT hpl hbt huc' (by omega) k3).up (by omega)
        have hDl2 : (D.set i (max 0 (D.getD i 0 + v))).length = D.length := List.length_set ..
        generalize D.set i (max 0 (D.getD i 0 + v)) = D2 at k2 hDl2
        rw [← hDl2]
        rw [← hDl2] at hD4
        simp (disch := omega) only [↓SXd, SXu, slBounds, ↓sop, ↓aop, ↓reduceIte, LV.cells, AOp.dst, LV.I, LV.B, LV.U, LV.S, LV.nil, Nat.reduceEqDiff, Nat.reduceAdd, Nat.reduceMul, Nat.reduceSub, Nat.reduceLeDiff, Nat.reduceBEq, Nat.reduceDiv, Nat.reduceMod, Int.reduceToNat, Int.reduceLT, Int.reduceLE, Int.reduceAdd, Int.reduceSub, Int.reduceMul, Int.reduceEq, Int.reduceNeg, reduceCtorEq, resV, resAll, ARes.ev, LV.flat, ite_true, ite_false, exists_eq_left', exists_eq_left, keyOf, implies_true, fillC, capOf]
        exact ⟨R2, D2, ur, uc, bR9, k2, ⟨hur', huc', hne⟩, hR4, hD4, hdF.up (by omega), rfl, rfl⟩
  · clear hdC bR bC hR4 hD4 hRb hCb hur' huc' hne
    rintro fr N ⟨R, D, tr, tc, bR, bC, ⟨htr, htc, hne⟩, hR4, hD4, hd, f0, f5, f6⟩
    simp (disch := omega) only [f0, f5, f6, ↓SXd, SXu, slBounds, ↓sop, ↓aop, ↓reduceIte, LV.cells, AOp.dst, LV.I, LV.B, LV.U, LV.S, LV.nil, Nat.reduceEqDiff, Nat.reduceAdd, Nat.reduceMul, Nat.reduceSub, Nat.reduceLeDiff, Nat.reduceBEq, Nat.reduceDiv, Nat.reduceMod, Int.reduceToNat, Int.reduceLT, Int.reduceLE, Int.reduceAdd, Int.reduceSub, Int.reduceMul, Int.reduceEq, Int.reduceNeg, reduceCtorEq, resV, resAll, ARes.ev, LV.flat, ite_true, ite_false, exists_eq_left', exists_eq_left, keyOf, implies_true, fillC, capOf]
    refine callR_of (d_pick hd.1 (by omega)) ?_
    rintro _ N2 ⟨⟨q, rfl, hq⟩, hd2⟩
    have bR := hd2.live bR (by omega)
    have bC := hd2.live bC (by omega)
    have hdA := hd.trans hd2
    clear hd hd2
    simp (disch := omega) only [f0, f5, f6, ↓SXd, SXu, slBounds, ↓sop, ↓aop, ↓reduceIte, LV.cells, AOp.dst, LV.I, LV.B, LV.U, LV.S, LV.nil, Nat.reduceEqDiff, Nat.reduceAdd, Nat.reduceMul, Nat.reduceSub, Nat.reduceLeDiff, Nat.reduceBEq, Nat.reduceDiv, Nat.reduceMod, Int.reduceToNat, Int.reduceLT, Int.reduceLE, Int.reduceAdd, Int.reduceSub, Int.reduceMul, Int.reduceEq, Int.reduceNeg, reduceCtorEq, resV, resAll, ARes.ev, LV.flat, ite_true, ite_false, exists_eq_left', exists_eq_left, keyOf, implies_true, fillC, capOf]
    refine condC_dec (fun h0 => ?_) (fun h0 => ?_)
    · simp (disch := omega) only [f0, f5, f6, ↓SXd, SXu, slBounds, ↓sop, ↓aop, ↓reduceIte, LV.cells, AOp.dst, LV.I, LV.B, LV.U, LV.S, LV.nil, Nat.reduceEqDiff, Nat.reduceAdd, Nat.reduceMul, Nat.reduceSub, Nat.reduceLeDiff, Nat.reduceBEq, Nat.reduceDiv, Nat.reduceMod, Int.reduceToNat, Int.reduceLT, Int.reduceLE, Int.reduceAdd, Int.reduceSub, Int.reduceMul, Int.reduceEq, Int.reduceNeg, reduceCtorEq, resV, resAll, ARes.ev, LV.flat, ite_true, ite_false, exists_eq_left', exists_eq_left, keyOf, implies_true, fillC, capOf]
      refine callR_of (d_amongNew (xs := [-1, 5, 4611686018427387904]) hdA.1 (by omega) (by simp) (by simp)) ?_
      rintro _ N3 ⟨⟨v, rfl, hv⟩, hd3⟩
      have bR3 := hd3.live bR (by omega)
      have bC3 := hd3.live bC (by omega)
      have hdB := hdA.trans hd3
      have h0l : (0 : Int) < (R.length : Nat) := by omega
      simp (disch := omega) only [f0, f5, f6, h0l, ↓SXd, SXu, slBounds, ↓sop, ↓aop, ↓reduceIte, LV.cells, AOp.dst, LV.I, LV.B, LV.U, LV.S, LV.nil, Nat.reduceEqDiff, Nat.reduceAdd, Nat.reduceMul, Nat.reduceSub, Nat.reduceLeDiff, Nat.reduceBEq, Nat.reduceDiv, Nat.reduceMod, Int.reduceToNat, Int.reduceLT, Int.reduceLE, Int.reduceAdd, Int.reduceSub, Int.reduceMul, Int.reduceEq, Int.reduceNeg, reduceCtorEq, resV, resAll, ARes.ev, LV.flat, ite_true, ite_false, exists_eq_left', exists_eq_left, keyOf, implies_true, fillC, capOf]
      refine memK_int bR3 (by omega) fun N4 k1 k2 k3 => ?_
      have bC4 := live_step bC3 (fun e => hne e.symm) k3
      have hdC := hdB.keepT hpl hbt htr (by omega) k3
      simp (disch := omega) only [f0, f5, f6, ↓SXd, SXu, slBounds, ↓sop, ↓aop, ↓reduceIte, LV.cells, AOp.dst, LV.I, LV.B, LV.U, LV.S, LV.nil, Nat.reduceEqDiff, Nat.reduceAdd, Nat.reduceMul, Nat.reduceSub, Nat.reduceLeDiff, Nat.reduceBEq, Nat.reduceDiv, Nat.reduceMod, Int.reduceToNat, Int.reduceLT, Int.reduceLE, Int.reduceAdd, Int.reduceSub, Int.reduceMul, Int.reduceEq, Int.reduceNeg, reduceCtorEq, resV, resAll, ARes.ev, LV.flat, ite_true, ite_false, exists_eq_left', exists_eq_left, keyOf, implies_true, fillC, capOf]
      exact ⟨⟨R.set 0 v, D, tr, tc, by rw [List.length_set], k2, bC4, by rw [List.length_set]; omega, by omega⟩, hdC.up (by omega)⟩
    simp (disch := omega) only [f0, f5, f6, ↓SXd, SXu, slBounds, ↓sop, ↓aop, ↓reduceIte, LV.cells, AOp.dst, LV.I, LV.B, LV.U, LV.S, LV.nil, Nat.reduceEqDiff, Nat.reduceAdd, Nat.reduceMul, Nat.reduceSub, Nat.reduceLeDiff, Nat.reduceBEq, Nat.reduceDiv, Nat.reduceMod, Int.reduceToNat, Int.reduceLT, Int.reduceLE, Int.reduceAdd, Int.reduceSub, Int.reduceMul, Int.reduceEq, Int.reduceNeg, reduceCtorEq, resV, resAll, ARes.ev, LV.flat, ite_true, ite_false, exists_eq_left', exists_eq_left, keyOf, implies_true, fillC, capOf]
    refine condC_dec (fun h1 => ?_) (fun h1 => ?_)
    · simp (disch := omega) only [f0, f5, f6, ↓SXd, SXu, slBounds, ↓sop, ↓aop, ↓reduceIte, LV.cells, AOp.dst, LV.I, LV.B, LV.U, LV.S, LV.nil, Nat.reduceEqDiff, Nat.reduceAdd, Nat.reduceMul, Nat.reduceSub, Nat.reduceLeDiff, Nat.reduceBEq, Nat.reduceDiv, Nat.reduceMod, Int.reduceToNat, Int.reduceLT, Int.reduceLE, Int.reduceAdd, Int.reduceSub, Int.reduceMul, Int.reduceEq, Int.reduceNeg, reduceCtorEq, resV, resAll, ARes.ev, LV.flat, ite_true, ite_false, exists_eq_left', exists_eq_left, keyOf, implies_true, fillC, capOf]
      exact ⟨⟨[], D, _, tc, rfl, Live.new, bC.app, by simp, by omega⟩, (hdA.keep hpl hbt (Nat.le_refl _) (by simp) fun q hq => by rw [List.getElem?_append_left (Nat.lt_of_lt_of_le hq hdA.2.1)]).up (by omega)⟩
    simp (disch := omega) only [f0, f5, f6, ↓SXd, SXu, slBounds, ↓sop, ↓aop, ↓reduceIte, LV.cells, AOp.dst, LV.I, LV.B, LV.U, LV.S, LV.nil, Nat.reduceEqDiff, Nat.reduceAdd, Nat.reduceMul, Nat.reduceSub, Nat.reduceLeDiff, Nat.reduceBEq, Nat.reduceDiv, Nat.reduceMod, Int.reduceToNat, Int.reduceLT, Int.reduceLE, Int.reduceAdd, Int.reduceSub, Int.reduceMul, Int.reduceEq, Int.reduceNeg, reduceCtorEq, resV, resAll, ARes.ev, LV.flat, ite_true, ite_false, exists_eq_left', exists_eq_left, keyOf, implies_true, fillC, capOf]
    refine condC_dec (fun h2 => ?_) (fun h2 => ?_)
    · simp (disch := omega) only [f0, f5, f6, ↓SXd, SXu, slBounds, ↓sop, ↓aop, ↓reduceIte, LV.cells, AOp.dst, LV.I, LV.B, LV.U, LV.S, LV.nil, Nat.reduceEqDiff, Nat.reduceAdd, Nat.reduceMul, Nat.reduceSub, Nat.reduceLeDiff, Nat.reduceBEq, Nat.reduceDiv, Nat.reduceMod, Int.reduceToNat, Int.reduceLT, Int.reduceLE, Int.reduceAdd, Int.reduceSub, Int.reduceMul, Int.reduceEq, Int.reduceNeg, reduceCtorEq, resV, resAll, ARes.ev, LV.flat, ite_true, ite_false, exists_eq_left', exists_eq_left, keyOf, implies_true, fillC, capOf]
      refine ev_loop (fun m fr N => ∃ (E : List Int) (u : Nat), E.length + m = 5 ∧ DrawN M p t o bs (a + 172) N ∧ Live N tr (.row (intL R) true 1) ∧ Live N u (.row (intL E) true 1) ∧ M.length ≤ u ∧ tr ≠ u ∧ fr 5 = .ref tr 0 R.length ∧ fr 6 = .ref u 0 E.length) (5 - D.length)
        ⟨D, tc, by omega, hdA.up (by omega), bR, bC, htc, hne, f5, f6⟩ ?_
      clear f0 f5 f6 bR bC hdA hne htc
      rintro m fr N ⟨E, u, hm, hdA, bR, bC, htc, hne, f5, f6⟩
      simp (disch := omega) only [f5, f6, ↓SXd, SXu, slBounds, ↓sop, ↓aop, ↓reduceIte, LV.cells, AOp.dst, LV.I, LV.B, LV.U, LV.S, LV.nil, Nat.reduceEqDiff, Nat.reduceAdd, Nat.reduceMul, Nat.reduceSub, Nat.reduceLeDiff, Nat.reduceBEq, Nat.reduceDiv, Nat.reduceMod, Int.reduceToNat, Int.reduceLT, Int.reduceLE, Int.reduceAdd, Int.reduceSub, Int.reduceMul, Int.reduceEq, Int.reduceNeg, reduceCtorEq, resV, resAll, ARes.ev, LV.flat, ite_true, ite_false, exists_eq_left', exists_eq_left, keyOf, implies_true, fillC, capOf]
      refine condC_dec (fun hlt => ?_) (fun hlt => ?_)
      · simp (disch := omega) only [f5, f6, ↓SXd, SXu, slBounds, ↓sop, ↓aop, ↓reduceIte, LV.cells, AOp.dst, LV.I, LV.B, LV.U, LV.S, LV.nil, Nat.reduceEqDiff, Nat.reduceAdd, Nat.reduceMul, Nat.reduceSub, Nat.reduceLeDiff, Nat.reduceBEq, Nat.reduceDiv, Nat.reduceMod, Int.reduceToNat, Int.reduceLT, Int.reduceLE, Int.reduceAdd, Int.reduceSub, Int.reduceMul, Int.reduceEq, Int.reduceNeg, reduceCtorEq, resV, resAll, ARes.ev, LV.flat, ite_true, ite_false, exists_eq_left', exists_eq_left, keyOf, implies_true, fillC, capOf]
        refine appendK_int bC (by omega) fun N3 l1 l2 l3 => ?_
        have hNl := bR.lt
        have hMN := hdA.2.1
        simp (disch := omega) only [f5, f6, ↓SXd, SXu, slBounds, ↓sop, ↓aop, ↓reduceIte, LV.cells, AOp.dst, LV.I, LV.B, LV.U, LV.S, LV.nil, Nat.reduceEqDiff, Nat.reduceAdd, Nat.reduceMul, Nat.reduceSub, Nat.reduceLeDiff, Nat.reduceBEq, Nat.reduceDiv, Nat.reduceMod, Int.reduceToNat, Int.reduceLT, Int.reduceLE, Int.reduceAdd, Int.reduceSub, Int.reduceMul, Int.reduceEq, Int.reduceNeg, reduceCtorEq, resV, resAll, ARes.ev, LV.flat, ite_true, ite_false, exists_eq_left', exists_eq_left, keyOf, implies_true, fillC, capOf]
        exact ⟨m - 1, by omega, E ++ [0], N.length + 1, by simp; omega, hdA.keepT hpl hbt htc (by omega) l3, live_step bR hne l3, l2, by omega, by omega, f5, by rw [List.length_append]; rfl⟩
      · simp (disch := omega) only [f5, f6, ↓SXd, SXu, slBounds, ↓sop, ↓aop, ↓reduceIte, LV.cells, AOp.dst, LV.I, LV.B, LV.U, LV.S, LV.nil, Nat.reduceEqDiff, Nat.reduceAdd, Nat.reduceMul, Nat.reduceSub, Nat.reduceLeDiff, Nat.reduceBEq, Nat.reduceDiv, Nat.reduceMod, Int.reduceToNat, Int.reduceLT, Int.reduceLE, Int.reduceAdd, Int.reduceSub, Int.reduceMul, Int.reduceEq, Int.reduceNeg, reduceCtorEq, resV, resAll, ARes.ev, LV.flat, ite_true, ite_false, exists_eq_left', exists_eq_left, keyOf, implies_true, fillC, capOf]
        exact ⟨⟨R, E, tr, u, rfl, bR, bC, by omega, by omega⟩, hdA.up (by omega)⟩
    · simp (disch := omega) only [f0, f5, f6, ↓SXd, SXu, slBounds, ↓sop, ↓aop, ↓reduceIte, LV.cells, AOp.dst, LV.I, LV.B, LV.U, LV.S, LV.nil, Nat.reduceEqDiff, Nat.reduceAdd, Nat.reduceMul, Nat.reduceSub, Nat.reduceLeDiff, Nat.reduceBEq, Nat.reduceDiv, Nat.reduceMod, Int.reduceToNat, Int.reduceLT, Int.reduceLE, Int.reduceAdd, Int.reduceSub, Int.reduceMul, Int.reduceEq, Int.reduceNeg, reduceCtorEq, resV, resAll, ARes.ev, LV.flat, ite_true, ite_false, exists_eq_left', exists_eq_left, keyOf, implies_true, fillC, capOf]
      exact ⟨⟨R, D, tr, tc, rfl, bR, bC, by omega, by omega⟩, hdA.up (by omega)⟩
end
section
variable {t o : Nat} {bs : List Nat} {M : Mem} (hB : Bytes M t o bs) (h255 : ∀ b ∈ bs, b ≤ 255) (hl : bs.length ≤ 1000000000)
include hB h255 hl
theorem d_DrawFirstTable : CallsR PG F.spec_DrawFirstTable [.ref t o bs.length] M fun v N => TwoL M v N ∧ Pre M N := by
  have htM := hB.lt
  have key : CallsR PG F.spec_DrawCountTables [.ref t o bs.length] M fun v N => TwoL M v N ∧ Pre M N := by
    refine callsR_run K.spec_DrawCountTables rfl ?_
    simp (disch := omega) only [C.spec_DrawCountTables, splice, ↓SXd, SXu, slBounds, ↓sop, ↓aop, ↓reduceIte, LV.cells, AOp.dst, LV.I, LV.B, LV.U, LV.S, LV.nil, Nat.reduceEqDiff, Nat.reduceAdd, Nat.reduceMul, Nat.reduceSub, Nat.reduceLeDiff, Nat.reduceBEq, Nat.reduceDiv, Nat.reduceMod, Int.reduceToNat, Int.reduceLT, Int.reduceLE, Int.reduceAdd, Int.reduceSub, Int.reduceMul, Int.reduceEq, Int.reduceNeg, reduceCtorEq, resV, resAll, ARes.ev, LV.flat, ite_true, ite_false, exists_eq_left', exists_eq_left, keyOf, implies_true, fillC, capOf]
    have hc := CurAt.new hB h255 hl
    have hPP : Pre M (M ++ [some (.row [.ref t o bs.length, .I 0, .val (.int .u64 0)] true 0)]) := Pre.app _ _
    generalize M ++ [some (Blk.row [.ref t o bs.length, .I 0, .val (.int .u64 0)] true 0)] = N0 at hc hPP ⊢
    refine callR_of (d_sums hc (by omega)) ?_
    rintro _ N1 ⟨⟨R, D, tr, tc, rfl, h1, h2, h3, h4⟩, hd1⟩
    simp (disch := omega) only [↓SXd, SXu, slBounds, ↓sop, ↓aop, ↓reduceIte, LV.cells, AOp.dst, LV.I, LV.B, LV.U, LV.S, LV.nil, Nat.reduceEqDiff, Nat.reduceAdd, Nat.reduceMul, Nat.reduceSub, Nat.reduceLeDiff, Nat.reduceBEq, Nat.reduceDiv, Nat.reduceMod, Int.reduceToNat, Int.reduceLT, Int.reduceLE, Int.reduceAdd, Int.reduceSub, Int.reduceMul, Int.reduceEq, Int.reduceNeg, reduceCtorEq, resV, resAll, ARes.ev, LV.flat, ite_true, ite_false, exists_eq_left', exists_eq_left, keyOf, implies_true, fillC, capOf]
    exact ⟨⟨R, D, tr, tc, rfl, h1, h2, h3, h4⟩, hd1.pre hPP (Nat.le_refl _)⟩
  refine callsR_run K.spec_DrawFirstTable rfl ?_
  simp (disch := omega) only [C.spec_DrawFirstTable, ↓SXd, SXu, slBounds, ↓sop, ↓aop, ↓reduceIte, LV.cells, AOp.dst, LV.I, LV.B, LV.U, LV.S, LV.nil, Nat.reduceEqDiff, Nat.reduceAdd, Nat.reduceMul, Nat.reduceSub, Nat.reduceLeDiff, Nat.reduceBEq, Nat.reduceDiv, Nat.reduceMod, Int.reduceToNat, Int.reduceLT, Int.reduceLE, Int.reduceAdd, Int.reduceSub, Int.reduceMul, Int.reduceEq, Int.reduceNeg, reduceCtorEq, resV, resAll, ARes.ev, LV.flat, ite_true, ite_false, exists_eq_left', exists_eq_left, keyOf, implies_true, fillC, capOf]
  refine callR_of key ?_
  rintro _ N ⟨⟨R, D, tr, tc, rfl, h1, h2, h3, h4⟩, hp⟩
  simp (disch := omega) only [↓SXd, SXu, slBounds, ↓sop, ↓aop, ↓reduceIte, LV.cells, AOp.dst, LV.I, LV.B, LV.U, LV.S, LV.nil, Nat.reduceEqDiff, Nat.reduceAdd, Nat.reduceMul, Nat.reduceSub, Nat.reduceLeDiff, Nat.reduceBEq, Nat.reduceDiv, Nat.reduceMod, Int.reduceToNat, Int.reduceLT, Int.reduceLE, Int.reduceAdd, Int.reduceSub, Int.reduceMul, Int.reduceEq, Int.reduceNeg, reduceCtorEq, resV, resAll, ARes.ev, LV.flat, ite_true, ite_false, exists_eq_left', exists_eq_left, keyOf, implies_true, fillC, capOf]
  exact ⟨⟨R, D, tr, tc, rfl, h1, h2, h3, h4⟩, hp⟩
theorem d_DrawLinesWith : CallsR PG F.spec_DrawLinesWith [.ref t o bs.length] M fun v N => (∃ (hv : LV) (k : Int), v = .tup [hv, .I k] ∧ HeapE M hv N) ∧ Pre M N := by
  have htM := hB.lt
  refine callsR_run K.spec_DrawLinesWith rfl ?_
  simp (disch := omega) only [C.spec_DrawLinesWith, splice, ↓SXd, SXu, slBounds, ↓sop, ↓aop, ↓reduceIte, LV.cells, AOp.dst, LV.I, LV.B, LV.U, LV.S, LV.nil, Nat.reduceEqDiff, Nat.reduceAdd, Nat.reduceMul, Nat.reduceSub, Nat.reduceLeDiff, Nat.reduceBEq, Nat.reduceDiv, Nat.reduceMod, Int.reduceToNat, Int.reduceLT, Int.reduceLE, Int.reduceAdd, Int.reduceSub, Int.reduceMul, Int.reduceEq, Int.reduceNeg, reduceCtorEq, resV, resAll, ARes.ev, LV.flat, ite_true, ite_false, exists_eq_left', exists_eq_left, keyOf, implies_true, fillC, capOf]
  refine callR_of (d_DrawViewOf hB.app h255 hl) ?_
  rintro _ N1 ⟨⟨_, k, rfl, x, y, z, cs, u, rfl, hu, hul, hcl⟩, hp1⟩
  have b2 : Live N1 M.length (.row [.I 0, .I 0, .I 0, .nil] true 0) := Live.new.pre hp1
  simp only [List.length_append, List.length_singleton] at hul
  simp (disch := omega) only [↓SXd, SXu, slBounds, ↓sop, ↓aop, ↓reduceIte, LV.cells, AOp.dst, LV.I, LV.B, LV.U, LV.S, LV.nil, Nat.reduceEqDiff, Nat.reduceAdd, Nat.reduceMul, Nat.reduceSub, Nat.reduceLeDiff, Nat.reduceBEq, Nat.reduceDiv, Nat.reduceMod, Int.reduceToNat, Int.reduceLT, Int.reduceLE, Int.reduceAdd, Int.reduceSub, Int.reduceMul, Int.reduceEq, Int.reduceNeg, reduceCtorEq, resV, resAll, ARes.ev, LV.flat, ite_true, ite_false, exists_eq_left', exists_eq_left, keyOf, implies_true, fillC, capOf]
  refine memK_box b2 (by simp) fun N5 i1 i2 i3 => ?_
  simp (disch := omega) only [i2.cells, ↓SXd, SXu, slBounds, ↓sop, ↓aop, ↓reduceIte, LV.cells, AOp.dst, LV.I, LV.B, LV.U, LV.S, LV.nil, Nat.reduceEqDiff, Nat.reduceAdd, Nat.reduceMul, Nat.reduceSub, Nat.reduceLeDiff, Nat.reduceBEq, Nat.reduceDiv, Nat.reduceMod, Int.reduceToNat, Int.reduceLT, Int.reduceLE, Int.reduceAdd, Int.reduceSub, Int.reduceMul, Int.reduceEq, Int.reduceNeg, reduceCtorEq, resV, resAll, ARes.ev, LV.flat, ite_true, ite_false, exists_eq_left', exists_eq_left, keyOf, implies_true, fillC, capOf]
  exact ⟨⟨_, k, rfl, x, y, z, cs, u, rfl, live_step hu (by omega) i3, by omega, hcl⟩, pre_step ((Pre.app _ _).trans hp1) (by omega) (j := 0) i1 i3⟩
end
end Go.Ab

/- Plain words: when there is a table with given sums. -/
namespace Go.Ab
open Go
set_option linter.unusedSimpArgs false
set_option linter.unusedVariables false

def sN : Nat → (Nat → Int) → Int
  | 0, _ => 0
  | n + 1, f => sN n f + f n
theorem sN_lit (f : Nat → Int) : ∀ n, litSum ((List.range n).map f) = sN n f
  | 0 => rfl
  | n + 1 => by rw [List.range_succ, List.map_append, List.map_cons, List.map_nil, litSum_snoc, sN_lit f n]; rfl
theorem sN_congr {f g : Nat → Int} : ∀ {n}, (∀ j, j < n → f j = g j) → sN n f = sN n g
  | 0, _ => rfl
  | n + 1, h => by simp only [sN]; rw [sN_congr (n := n) fun j hj => h j (by omega), h n (by omega)]
theorem sN_le {f g : Nat → Int} : ∀ {n}, (∀ j, j < n → f j ≤ g j) → sN n f ≤ sN n g
  | 0, _ => Int.le_refl _
  | n + 1, h => by
    have h1 := sN_le (n := n) fun j hj => h j (by omega)
    have h2 := h n (by omega)
    simp only [sN]; omega
theorem sN_sub {f g : Nat → Int} : ∀ n, sN n (fun j => f j - g j) = sN n f - sN n g
  | 0 => rfl
  | n + 1 => by simp only [sN]; rw [sN_sub n]; omega
theorem sN_add {f g : Nat → Int} : ∀ n, sN n (fun j => f j + g j) = sN n f + sN n g
  | 0 => rfl
  | n + 1 => by simp only [sN]; rw [sN_add n]; omega
theorem sN_zero : ∀ n, sN n (fun _ => 0) = 0
  | 0 => rfl
  | n + 1 => by simp only [sN]; rw [sN_zero n]; rfl
theorem sN_one {k : Nat} : ∀ n, sN n (fun j => if j = k then (1 : Int) else 0) = if k < n then 1 else 0
  | 0 => rfl
  | n + 1 => by
    simp only [sN]
    rw [sN_one n]
    by_cases h1 : k < n
    · rw [if_pos h1, if_neg (show ¬ n = k by omega), if_pos (show k < n + 1 by omega)]; rfl
    · by_cases h2 : n = k
      · rw [if_neg h1, if_pos h2, if_pos (show k < n + 1 by omega)]; rfl
      · rw [if_neg h1, if_neg h2, if_neg (show ¬ k < n + 1 by omega)]; rfl
theorem sN_eq0 {f : Nat → Int} : ∀ {n}, (∀ j, j < n → 0 ≤ f j) → sN n f = 0 → ∀ j, j < n → f j = 0
  | 0, _, _, j, hj => by omega
  | n + 1, h, h0, j, hj => by
    have h1 : 0 ≤ sN n f := by rw [← sN_zero n]; exact sN_le fun j hj => h j (by omega)
    have h2 := h n (by omega)
    simp only [sN] at h0
    rcases Nat.lt_or_ge j n with hj2 | hj2
    · exact sN_eq0 (n := n) (fun j hj => h j (by omega)) (by omega) j hj2
    · rw [show j = n by omega]; omega
/-- The rows that a number names by its bits. -/
def selM : List Int → Nat → List Int
  | [], _ => []
  | r :: rs, m => (if m % 2 = 1 then [r] else []) ++ selM rs (m / 2)
theorem selM_even (r : Int) (rs : List Int) (m : Nat) : selM (r :: rs) (2 * m) = selM rs m := by
  simp only [selM]
  rw [if_neg (by omega), show 2 * m / 2 = m by omega, List.nil_append]
theorem selM_odd (r : Int) (rs : List Int) (m : Nat) : selM (r :: rs) (2 * m + 1) = r :: selM rs m := by
  simp only [selM]
  rw [if_pos (by omega), show (2 * m + 1) / 2 = m by omega]; rfl
theorem selM_zero : ∀ rs : List Int, selM rs 0 = []
  | [] => rfl
  | r :: rs => by rw [show (0 : Nat) = 2 * 0 from rfl, selM_even, selM_zero rs]
theorem selM_snoc (r : Int) : ∀ (rs : List Int) (m : Nat), selM (rs ++ [r]) m = selM rs m ++ if m / 2 ^ rs.length % 2 = 1 then [r] else []
  | [], m => by simp [selM]
  | a :: rs, m => by
    simp only [List.cons_append, selM, List.length_cons]
    have e : m / 2 / 2 ^ rs.length = m / 2 ^ (rs.length + 1) := by rw [Nat.div_div_eq_div_mul, Nat.pow_succ, Nat.mul_comm]
    rw [selM_snoc r rs (m / 2), List.append_assoc]
    simp only [e]
theorem selM_mod : ∀ (rs : List Int) (m : Nat), selM rs (m % 2 ^ rs.length) = selM rs m
  | [], m => rfl
  | a :: rs, m => by
    simp only [selM, List.length_cons]
    have h1 : m % 2 ^ (rs.length + 1) % 2 = m % 2 := Nat.mod_mod_of_dvd _ ⟨2 ^ rs.length, by rw [Nat.pow_succ, Nat.mul_comm]⟩
    have h2 : m % 2 ^ (rs.length + 1) / 2 = m / 2 % 2 ^ rs.length := by
      rw [Nat.pow_succ, Nat.mul_comm, Nat.mod_mul_right_div_self]
    simp only [h1, h2]
    rw [selM_mod rs]
def GRC (n : Nat) (rs : List Int) (c : Nat → Int) : Prop := litSum rs = sN n c ∧ ∀ m : Nat, litSum (selM rs m) ≤ sN n fun j => min (c j) ((selM rs m).length : Nat)
/-- So many of the greatest columns. -/
theorem greedy_ex (n : Nat) (c : Nat → Int) : ∀ r : Nat, r ≤ n → ∃ p : Nat → Bool, sN n (fun j => if p j then 1 else 0) = r ∧ ∀ j k, j < n → k < n → p j = true → p k = false → c k ≤ c j
  | 0, _ => ⟨fun _ => false, by simp [sN_zero], fun j k _ _ h => by cases h⟩
  | r + 1, h => by
    obtain ⟨p, h1, h2⟩ := greedy_ex n c r (by omega)
    -- the greatest column that is free
    have hex : ∃ k, k < n ∧ p k = false := by
      refine Classical.byContradiction fun hno => ?_
      have : sN n (fun j => if p j then (1 : Int) else 0) = sN n (fun _ => 1) := sN_congr fun j hj => by
        cases hp : p j with
        | true => rfl
        | false => exact absurd ⟨j, hj, hp⟩ hno
      have h3 : ∀ n, sN n (fun _ => 1) = n := fun n => by
        induction n with
        | zero => rfl
        | succ n ih => simp only [sN]; rw [ih]; omega
      rw [this, h3] at h1
      omega
    have hmax : ∀ m, m ≤ n → (∃ k, k < m ∧ p k = false) → ∃ k, k < m ∧ p k = false ∧ ∀ i, i < m → p i = false → c i ≤ c k := by
      intro m
      induction m with
      | zero => rintro _ ⟨k, hk, _⟩; omega
      | succ m ih =>
        rintro hm ⟨k, hk, hp⟩
        by_cases hq : ∃ k, k < m ∧ p k = false
        · obtain ⟨k1, a1, a2, a3⟩ := ih (by omega) hq
          by_cases hpm : p m = false ∧ c k1 < c m
          · refine ⟨m, by omega, hpm.1, fun i hi hpi => ?_⟩
            rcases Nat.lt_or_ge i m with h | h
            · have := a3 i h hpi; omega
            · rw [show i = m by omega]; exact Int.le_refl _
          · refine ⟨k1, by omega, a2, fun i hi hpi => ?_⟩
            rcases Nat.lt_or_ge i m with h | h
            · exact a3 i h hpi
            · have e : i = m := by omega
              subst e
              exact Int.not_lt.1 fun hlt => hpm ⟨hpi, hlt⟩
        · have hkm : k = m := by
            rcases Nat.lt_or_ge k m with h | h
            · exact absurd ⟨k, h, hp⟩ hq
            · omega
          subst hkm
          refine ⟨k, by omega, hp, fun i hi hpi => ?_⟩
          rcases Nat.lt_or_ge i k with h | h
          · exact absurd ⟨i, h, hpi⟩ hq
          · rw [show i = k by omega]; exact Int.le_refl _
    obtain ⟨k, hk, hpk, hkm⟩ := hmax n (Nat.le_refl _) hex
    refine ⟨fun j => p j || decide (j = k), ?_, fun j i hj hi hpj hpi => ?_⟩
    · have : sN n (fun j => if (p j || decide (j = k)) then (1 : Int) else 0) = sN n (fun j => (if p j then 1 else 0) + if j = k then 1 else 0) := sN_congr fun j hj => by
        by_cases e : j = k
        · subst e; simp [hpk]
        · simp [e]
      rw [this, sN_add, sN_one, if_pos hk, h1]; omega
    · rw [Bool.or_eq_false_iff] at hpi
      rcases (by simpa using hpj : p j = true ∨ j = k) with h | h
      · exact h2 j i hj hi h hpi.1
      · rw [h]; exact hkm i hi hpi.1
/-- A row with chosen columns. -/
def rowCh (n : Nat) (p : Nat → Bool) : List Int := (List.range n).map fun j => if p j then 1 else 0
theorem rowsL_mem2 {l : List Int} (h : ∀ a ∈ l, a = 0 ∨ a = 1) : l ∈ rowsL l.length (litSum l) := by
  induction l with
  | nil => simp [rowsL, litSum]
  | cons a l ih =>
    have h1 := ih fun b hb => h b (List.mem_cons_of_mem a hb)
    have h2 : 0 ≤ litSum l := (litSum_bound fun b hb => by rcases h b (List.mem_cons_of_mem a hb) with h | h <;> omega).1
    simp only [litSum, List.length_cons]
    rw [rowsL_succ]
    rcases h a (by simp) with rfl | rfl
    · rw [Int.zero_add, if_pos h2]
      exact List.mem_append_left _ (List.mem_map.2 ⟨l, h1, rfl⟩)
    · rw [if_pos (show 1 ≤ 1 + litSum l by omega), show 1 + litSum l - 1 = litSum l by omega]
      exact List.mem_append_right _ (List.mem_map.2 ⟨l, h1, rfl⟩)
theorem subR_fun {n : Nat} {c : Nat → Int} {p : Nat → Bool} : subR ((List.range n).map c) (rowCh n p) = (List.range n).map fun j => c j - if p j then 1 else 0 := by
  refine List.ext_getElem (by simp [subR, rowCh]) fun j h1 h2 => ?_
  simp [subR, rowCh]
/-- Where the condition holds, there is a table. -/
theorem gr_some {n : Nat} : ∀ {rs : List Int} {c : Nat → Int}, (∀ j, j < n → 0 ≤ c j) → (∀ r ∈ rs, 0 ≤ r ∧ r ≤ n) → GRC n rs c → tabsL rs ((List.range n).map c) ≠ []
  | [], c, hc, _, h => by
    have h0 : sN n c = 0 := h.1.symm
    have : ((List.range n).map c).all (fun v => decide (v = 0)) = true := by
      rw [List.all_eq_true]
      intro v hv
      obtain ⟨j, hj, rfl⟩ := List.mem_map.1 hv
      exact decide_eq_true (sN_eq0 hc h0 j (List.mem_range.1 hj))
    unfold tabsL
    rw [if_pos this]; simp
  | r :: rs, c, hc, hr, h => by
    obtain ⟨hsum, hmask⟩ := h
    obtain ⟨hr0, hrn⟩ := hr r (by simp)
    obtain ⟨rn, hrn'⟩ : ∃ rn : Nat, r = rn := ⟨r.toNat, by omega⟩
    obtain ⟨p, hp, hg⟩ := greedy_ex n c rn (by omega)
    -- each chosen column has room
    have hpos : ∀ j, j < n → p j = true → 1 ≤ c j := by
      intro j hj hpj
      refine Classical.byContradiction fun hlt => ?_
      have hz : c j = 0 := by have := hc j hj; omega
      have h1 := hmask 1
      rw [show (1 : Nat) = 2 * 0 + 1 from rfl, selM_odd, selM_zero] at h1
      simp only [litSum, List.length_singleton] at h1
      have h2 : sN n (fun i => min (c i) ((1 : Nat) : Int)) ≤ sN n (fun i => (if p i then (1 : Int) else 0) - if i = j then 1 else 0) := sN_le fun i hi => by
        by_cases e : i = j
        · subst e; rw [hz, hpj, if_pos rfl, if_pos rfl]; decide
        · cases hpi : p i with
          | true => simp [e]; omega
          | false =>
            have := hg j i hj hi hpj hpi
            have := hc i hi
            simp [e]; omega
      rw [sN_sub, sN_one, if_pos hj, hp] at h2
      omega
    have hrow : rowCh n p ∈ rowsL n r := by
      have h1 := rowsL_mem2 (l := rowCh n p) fun a ha => by
        obtain ⟨j, _, rfl⟩ := List.mem_map.1 ha
        cases p j <;> simp
      have h2 : (rowCh n p).length = n := by simp [rowCh]
      have h3 : litSum (rowCh n p) = r := by unfold rowCh; rw [sN_lit, hp, hrn']
      rw [h2, h3] at h1; exact h1
    have hc' : ∀ j, j < n → 0 ≤ c j - if p j then 1 else 0 := fun j hj => by
      cases hpj : p j with
      | true => have := hpos j hj hpj; simp; omega
      | false => have := hc j hj; simp; omega
    have hnext : GRC n rs fun j => c j - if p j then 1 else 0 := by
      refine ⟨?_, fun m => ?_⟩
      · rw [sN_sub, hp]
        simp only [litSum] at hsum
        omega
      · by_cases hall : ∀ j, j < n → p j = true → ((selM rs m).length : Int) < c j
        · have h1 := hmask (2 * m)
          rw [selM_even] at h1
          refine Int.le_trans h1 (sN_le fun j hj => ?_)
          cases hpj : p j with
          | true => have := hall j hj hpj; simp; omega
          | false => simp only [hpj, Bool.false_eq_true, if_false, Int.sub_zero]; exact Int.le_refl _
        · have ⟨j0, hj0, hp0, hc0⟩ : ∃ j, j < n ∧ p j = true ∧ c j ≤ ((selM rs m).length : Int) := Classical.byContradiction fun hno => hall fun j hj hpj => Int.not_le.1 fun hle => hno ⟨j, hj, hpj, hle⟩
          have h1 := hmask (2 * m + 1)
          rw [selM_odd] at h1
          simp only [litSum, List.length_cons] at h1
          have h2 : sN n (fun j => min (c j) (((selM rs m).length + 1 : Nat) : Int)) ≤ sN n (fun j => min (c j - if p j then 1 else 0) ((selM rs m).length : Nat) + if p j then 1 else 0) := sN_le fun j hj => by
            cases hpj : p j with
            | true => simp; omega
            | false =>
              have := hg j0 j hj0 hj hp0 hpj
              simp; omega
          rw [sN_add, hp] at h2
          show _ ≤ sN n fun j => min (c j - if p j = true then 1 else 0) ((selM rs m).length : Nat)
          omega
    have ih := gr_some hc' (fun q hq => hr q (List.mem_cons_of_mem r hq)) hnext
    intro he
    simp only [tabsL] at he
    rw [List.flatMap_eq_nil_iff] at he
    have h1 := he (rowCh n p) (by rw [List.length_map, List.length_range]; exact hrow)
    rw [subR_fun] at h1
    have hok : okR ((List.range n).map c) (rowCh n p) = true := by
      unfold okR
      rw [List.all_eq_true]
      intro v hv
      have : v ∈ subR ((List.range n).map c) (rowCh n p) := hv
      rw [subR_fun] at this
      obtain ⟨j, hj, rfl⟩ := List.mem_map.1 this
      exact decide_eq_true (hc' j (List.mem_range.1 hj))
    rw [if_pos hok, List.map_eq_nil_iff] at h1
    exact ih h1
theorem rowsL_sum : ∀ {n : Nat} {s : Int} {r : List Int}, r ∈ rowsL n s → litSum r = s
  | 0, s, r, h => by
    unfold rowsL at h
    split at h
    · rename_i h0
      simp at h; rw [h, h0]; rfl
    · simp at h
  | n + 1, s, r, h => by
    rw [rowsL_succ] at h
    rcases List.mem_append.1 h with h | h
    · split at h
      · obtain ⟨r', h1, rfl⟩ := List.mem_map.1 h
        have := rowsL_sum h1
        simp only [litSum]; omega
      · simp at h
    · split at h
      · obtain ⟨r', h1, rfl⟩ := List.mem_map.1 h
        have := rowsL_sum h1
        simp only [litSum]; omega
      · simp at h
/-- Where there is a table, the condition holds. -/
theorem gr_cond {n : Nat} : ∀ {rs : List Int} {c : Nat → Int}, tabsL rs ((List.range n).map c) ≠ [] → GRC n rs c
  | [], c, h => by
    have hz : ∀ j, j < n → c j = 0 := fun j hj => by
      refine Classical.byContradiction fun hne => h ?_
      unfold tabsL
      rw [if_neg]
      intro e
      rw [List.all_eq_true] at e
      exact hne (of_decide_eq_true (e (c j) (List.mem_map.2 ⟨j, List.mem_range.2 hj, rfl⟩)))
    refine ⟨?_, fun m => ?_⟩
    · rw [sN_congr hz, sN_zero]; rfl
    · rw [sN_congr (g := fun _ => 0) fun j hj => by rw [hz j hj]; simp [selM], sN_zero]
      simp [selM, litSum]
  | r :: rs, c, h => by
    obtain ⟨T, hT⟩ := List.exists_mem_of_ne_nil _ h
    simp only [tabsL] at hT
    obtain ⟨row, hrow, hT⟩ := List.mem_flatMap.1 hT
    rw [List.length_map, List.length_range] at hrow
    split at hT
    · obtain ⟨T', hT', rfl⟩ := List.mem_map.1 hT
      have hl := rowsL_len hrow
      have hb := rowsL_bit hrow
      obtain ⟨p, hp⟩ : ∃ p : Nat → Bool, row = rowCh n p := by
        refine ⟨fun j => decide (row.getD j 0 = 1), List.ext_getElem (by simp [rowCh, hl]) fun j h1 h2 => ?_⟩
        have := hb _ (List.getElem_mem h1)
        simp only [rowCh, List.getElem_map, List.getElem_range, List.getD_eq_getElem?_getD, List.getElem?_eq_getElem h1, Option.getD_some]
        rcases this with e | e <;> simp [e]
      have hsum := rowsL_sum hrow
      rw [hp] at hT' hsum
      rw [subR_fun] at hT'
      have ih := gr_cond (n := n) (rs := rs) (List.ne_nil_of_mem hT')
      obtain ⟨i1, i2⟩ := ih
      unfold rowCh at hsum
      rw [sN_lit] at hsum
      rw [sN_sub, hsum] at i1
      refine ⟨by simp only [litSum]; omega, fun m => ?_⟩
      rcases Nat.mod_two_eq_zero_or_one m with hm | hm
      · obtain ⟨q, rfl⟩ : ∃ q, m = 2 * q := ⟨m / 2, by omega⟩
        rw [selM_even]
        refine Int.le_trans (i2 q) (sN_le fun j hj => ?_)
        show min (c j - if p j = true then 1 else 0) _ ≤ _
        cases hpj : p j <;> simp [hpj] <;> omega
      · obtain ⟨q, rfl⟩ : ∃ q, m = 2 * q + 1 := ⟨m / 2, by omega⟩
        rw [selM_odd]
        have h1 := i2 q
        have h2 : sN n (fun j => min (c j - if p j = true then 1 else 0) ((selM rs q).length : Nat) + if p j = true then 1 else 0) ≤ sN n (fun j => min (c j) (((selM rs q).length + 1 : Nat) : Int)) := sN_le fun j hj => by
          cases hpj : p j with
          | true => simp [hpj]; omega
          | false => simp [hpj]; omega
        rw [sN_add, hsum] at h2
        simp only [litSum, List.length_cons]
        change _ ≤ sN n (fun j => min (c j - if p j = true then 1 else 0) _) at h1
        omega
    · simp at hT
end Go.Ab

/- Facts for the law of tables. -/
namespace Go.Ab
open Go
set_option linter.unusedSimpArgs false
set_option linter.unusedVariables false

theorem subR_inj {A B row : List Int} (hA : A.length = row.length) (hB : B.length = row.length) (h : subR A row = subR B row) : A = B := by
  refine List.ext_getElem (by omega) fun j h1 h2 => ?_
  have h3 : (subR A row)[j]? = (subR B row)[j]? := by rw [h]
  unfold subR at h3
  rw [List.getElem?_eq_getElem (by simp; omega), List.getElem?_eq_getElem (by simp; omega)] at h3
  simp only [List.getElem_zipWith, Option.some.injEq] at h3
  omega
theorem tabsL_sums {n : Nat} : ∀ {rs cols : List Int} {T : List (List Int)}, cols.length = n → T ∈ tabsL rs cols → T.map litSum = rs ∧ colsE n T = cols
  | [], cols, T, hn, h => by
    unfold tabsL at h
    split at h
    · rename_i hz
      rw [List.mem_singleton.1 h]
      refine ⟨rfl, List.ext_getElem (by simp [colsE, hn]) fun j h1 h2 => ?_⟩
      rw [List.all_eq_true] at hz
      have := of_decide_eq_true (hz _ (List.getElem_mem h2))
      simp [colsE, litSum, this]
    · simp at h
  | r :: rs, cols, T, hn, h => by
    unfold tabsL at h
    obtain ⟨row, h1, h2⟩ := List.mem_flatMap.1 h
    split at h2
    · obtain ⟨T', h3, rfl⟩ := List.mem_map.1 h2
      have hl := rowsL_len h1
      obtain ⟨i1, i2⟩ := tabsL_sums (n := n) (by rw [subR_len hl, hn]) h3
      refine ⟨by rw [List.map_cons, i1, rowsL_sum h1], ?_⟩
      have h4 := colsE_cons (n := n) (T := T') (row := row) (by rw [hl, hn])
      exact subR_inj (row := row) (by rw [colsE_len, hl, hn]) hl.symm (h4.trans i2)
    · simp at h2
theorem list_fun (D : List Int) : D = (List.range D.length).map fun j => D.getD j 0 := by
  refine List.ext_getElem (by simp) fun j h1 h2 => ?_
  simp [List.getElem?_eq_getElem h1]
/-- What all functions answer for two lists, in one. -/
theorem tab_facts (R D : List Int) : ∃ (T : List (List Int)) (S e : Bool) (n : Nat), (tabsO R D).getD 0 [] = T ∧ decide (SumsOK R D) = S ∧ decide (tabsO R D ≠ []) = e ∧ (tabsO R D).length = n ∧ n ≤ 65536 ∧ T.length ≤ 1000 ∧ (∀ l ∈ T, l.length ≤ 1000) ∧ e = (S && decide ((0 : Int) < (n : Nat))) ∧
    (e = true → T.map litSum = R ∧ colsE D.length T = D ∧ Tab01 D.length T ∧ T.length = R.length) ∧ (S = true → SumsOK R D ∧ (e = true ↔ GRC D.length R fun j => D.getD j 0)) := by
  refine ⟨_, _, _, _, rfl, rfl, rfl, rfl, ?_⟩
  unfold tabsO
  by_cases h : SumsOK R D
  · rw [if_pos h, decide_eq_true h]
    have hcnt := sums_count h
    have hgr : tabsL R D ≠ [] ↔ GRC D.length R fun j => D.getD j 0 := by
      have e1 := list_fun D
      constructor
      · intro hne
        rw [e1] at hne
        have := gr_cond hne
        simpa using this
      · intro hg
        have := gr_some (n := D.length) (rs := R) (c := fun j => D.getD j 0) (fun j hj => (h.2.2.2 _ (getD_mem' hj)).1) (fun r hr => h.2.2.1 r hr) hg
        rw [← e1] at this
        exact this
    have hne : decide (tabsL R D ≠ []) = (true && decide ((0 : Int) < ((tabsL R D).length : Nat))) := by
      cases tabsL R D with
      | nil => rfl
      | cons T Ts => simp
    have hmm : ∀ T ∈ tabsL R D, T.map litSum = R ∧ colsE D.length T = D ∧ Tab01 D.length T ∧ T.length = R.length := fun T hT => by
      have h1 := tabsL_sums (n := D.length) rfl hT
      have h2 := tabsL_mem (n := D.length) rfl hT
      exact ⟨h1.1, h1.2, h2.2, h2.1⟩
    have hb : ((tabsL R D).getD 0 []).length ≤ 1000 ∧ ∀ l ∈ (tabsL R D).getD 0 [], l.length ≤ 1000 := by
      cases hc : tabsL R D with
      | nil => simp
      | cons T Ts =>
        have := hmm T (by rw [hc]; simp)
        refine ⟨?_, fun l hl => ?_⟩
        · show T.length ≤ 1000
          have := h.1; omega
        · have h3 := (this.2.2.1 l hl).1
          have := h.2.1; omega
    refine ⟨hcnt, hb.1, hb.2, hne, fun he => ?_, fun _ => ⟨h, by rw [decide_eq_true_iff]; exact hgr⟩⟩
    exact hmm _ (getD_mem' (List.length_pos_iff.2 (of_decide_eq_true he)))
  · rw [if_neg h, decide_eq_false h]
    exact ⟨by simp, by simp, by simp, by simp, fun he => by simp at he, fun hs => by cases hs⟩
theorem selM_mem {a : Int} : ∀ {rs : List Int} {m : Nat}, a ∈ selM rs m → a ∈ rs
  | [], m, h => by simp [selM] at h
  | r :: rs, m, h => by
    simp only [selM] at h
    rcases List.mem_append.1 h with h | h
    · split at h
      · rw [List.mem_singleton.1 h]; simp
      · simp at h
    · exact List.mem_cons_of_mem _ (selM_mem h)
theorem selM_len : ∀ (rs : List Int) (m : Nat), (selM rs m).length ≤ rs.length
  | [], m => by simp [selM]
  | r :: rs, m => by
    have := selM_len rs (m / 2)
    simp only [selM, List.length_append, List.length_cons]
    split <;> simp <;> omega
theorem litSum_four : ∀ {l : List Int}, (∀ a ∈ l, 0 ≤ a ∧ a ≤ 4) → 0 ≤ litSum l ∧ litSum l ≤ 4 * (l.length : Nat)
  | [], _ => by simp [litSum]
  | a :: l, h => by
    have h1 := litSum_four fun b hb => h b (List.mem_cons_of_mem a hb)
    have h2 := h a (by simp)
    simp only [litSum, List.length_cons]
    omega
theorem fits_iff {R D : List Int} (h : SumsOK R D) : (litSum R = litSum D ∧ ∀ k : Nat, 1 ≤ k → k < R.length + 1 → ∀ m : Nat, m < 2 ^ R.length → (selM R m).length = k → litSum (selM R m) ≤ sN D.length fun j => min (D.getD j 0) (k : Nat)) ↔ GRC D.length R fun j => D.getD j 0 := by
  have hs : litSum D = sN D.length fun j => D.getD j 0 := by
    have := congrArg litSum (list_fun D)
    rw [sN_lit] at this; exact this
  constructor
  · rintro ⟨h1, h2⟩
    refine ⟨h1.trans hs, fun m => ?_⟩
    rw [← selM_mod R m]
    have hlt : m % 2 ^ R.length < 2 ^ R.length := Nat.mod_lt _ (Nat.pos_of_ne_zero (by simp))
    have hle := selM_len R (m % 2 ^ R.length)
    rcases Nat.eq_zero_or_pos (selM R (m % 2 ^ R.length)).length with h0 | h0
    · rw [List.eq_nil_of_length_eq_zero h0]
      have : sN D.length (fun _ => 0) ≤ sN D.length fun j => min (D.getD j 0) ((([] : List Int).length : Nat) : Int) := sN_le fun j hj => by
        have := (h.2.2.2 _ (getD_mem' (d := 0) hj)).1
        simp only [List.length_nil]; omega
      rw [sN_zero] at this
      exact this
    · exact h2 _ h0 (by omega) _ hlt rfl
  · rintro ⟨h1, h2⟩
    refine ⟨h1.trans hs.symm, fun k _ _ m _ hk => ?_⟩
    have := h2 m
    rw [hk] at this; exact this
theorem sN_four {n : Nat} {f : Nat → Int} : (∀ j, j < n → 0 ≤ f j ∧ f j ≤ 4) → 0 ≤ sN n f ∧ sN n f ≤ 4 * (n : Nat) := by
  induction n with
  | zero => intro _; simp [sN]
  | succ n ih =>
    intro h
    have h1 := ih fun j hj => h j (by omega)
    have h2 := h n (by omega)
    simp only [sN]; omega
end Go.Ab
