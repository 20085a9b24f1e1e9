/- Parts of the proof of FnExactFillCavitiesSaid: Od Oe Pc Pd Pe Pf LFillCavities Ra Rb. -/
import Derived.Test.YtjndofbhdogblaaA6
import Derived.Test.YtjndofbhdogblaaA4
import Derived.Test.YtjndofbhdogblaaA7
import Derived.Test.YtjndofbhdogblaaA5
import Derived.Test.YtjndofbhdogblaaA3
import Derived.Below
import Derived.Lib.SmallJoins
import Derived.Deep.Slices
import Derived.Laws.IdiomArrays
set_option linter.all false
/- Contracts: the reference's parts. -/
namespace Go.Ab
open Go
set_option linter.unusedSimpArgs false
set_option linter.unusedVariables false

theorem memK_box {M : Mem} {t e : Nat} {old vs : List LV} {A : Mem → Prop} (ht : Live M t (.row old true e)) (hl : vs.length = old.length)
    (hA : ∀ M', M'.length = M.length → Live M' t (.row vs true e) → (∀ u, u ≠ t → u < M.length → M'[u]? = M[u]?) → A M') : memK (setCells M t 0 vs) A := by
  rw [ht.setC, if_pos (by omega)]
  have : splice old 0 vs = vs := by simp [splice, hl]
  rw [this]
  exact hA _ (by simp) ht.set_eq fun u hu _ => List.getElem?_set_ne (fun e => hu e.symm)

/-- What is found by and by: the queue of a search in the set q from c. -/
structure Que (x y z : Int) (q : Cell → Bool) (c : Cell) (n : Nat) (l : List Cell) : Prop where
  nodup : l.Nodup
  mem : ∀ d ∈ l, d.inBox x y z ∧ q d = true ∧ Reach x y z (fun d => decide (d = c)) q d
  start : c ∈ l
  done : ∀ i, i < n → i < l.length → ∀ e, e.inBox x y z → q e = true → apart (l.getD i default) e = 1 → e ∈ l

theorem Que.reach {x y z : Int} {q : Cell → Bool} {c : Cell} {n : Nat} {l : List Cell} (h : Que x y z q c n l) (hn : l.length ≤ n) {d : Cell} : d ∈ l ↔ reach x y z (fun d => decide (d = c)) q d = true := by
  rw [reach_iff]
  refine ⟨fun hd => (h.mem d hd).2.2, fun hd => ?_⟩
  refine hd.ind (P := fun d => d ∈ l) (fun e _ he => ?_) fun a b ha hab hb hq => ?_
  · rw [of_decide_eq_true he]; exact h.start
  · obtain ⟨i, hi, rfl⟩ := List.getElem_of_mem ha
    exact h.done i (by omega) hi b hb hq (by simpa [hi] using hab)

theorem Que.next {x y z : Int} {q : Cell → Bool} {c : Cell} {n : Nat} {l : List Cell} (hS : Sides x y z) (h : Que x y z q c n l) (hn : n < l.length) :
    Que x y z q c (n + 1) (l ++ pick x y z fun d => (q d && !decide (d ∈ l)) && decide (apart d (l.getD n default) = 1)) := by
  have hm := fun d => mem_pick hS (p := fun d => (q d && !decide (d ∈ l)) && decide (apart d (l.getD n default) = 1)) (c := d)
  simp only [Bool.and_eq_true, Bool.not_eq_true', decide_eq_false_iff_not, decide_eq_true_eq] at hm
  have hln := h.mem _ (getD_mem' (d := default) hn)
  refine ⟨?_, fun d hd => ?_, by simp [h.start], fun i hi hil e he hq ha => ?_⟩
  · rw [List.nodup_append]
    refine ⟨h.nodup, (pick_ok hS _).nodup, fun a ha b hb e => ?_⟩
    subst e
    exact ((hm a).1 hb).2.1.2 ha
  · rcases List.mem_append.1 hd with hd | hd
    · exact h.mem d hd
    · obtain ⟨h1, ⟨h2, h3⟩, h4⟩ := (hm d).1 hd
      exact ⟨h1, h2, .step hln.2.2 (by rw [apart_comm]; exact h4) h1 h2⟩
  · have hg : ∀ {j}, j < l.length → (l ++ pick x y z fun d => (q d && !decide (d ∈ l)) && decide (apart d (l.getD n default) = 1)).getD j default = l.getD j default := fun {j} hj => by
      simp only [List.getD_eq_getElem?_getD]; rw [List.getElem?_append_left hj]
    rw [List.mem_append]
    rcases Nat.lt_or_ge i n with h1 | h1
    · rw [hg (by omega)] at ha
      exact .inl (h.done i h1 (by omega) e he hq ha)
    · have hin : i = n := by omega
      subst hin
      rw [hg hn] at ha
      by_cases hel : e ∈ l
      · exact .inl hel
      · exact .inr ((hm e).2 ⟨he, ⟨hq, hel⟩, by rw [apart_comm]; exact ha⟩)

theorem h_l2Parts {x y z : Int} {t : Nat} {w : Bool} {cs : List Cell} {M : Mem} (h : Live M t (.row (triL cs) w 3)) (hH : HeapOK x y z cs) :
    CallsR PG F.spec_l2Parts [.agg [.I x, .I y, .I z, .ref t 0 cs.length]] M fun v N => ∃ (u : Nat) (refs : List LV), v = .ref u 0 refs.length ∧ M.length ≤ u ∧ Live N u (.row refs true 1) ∧ Css N M.length N.length refs (parts x y z 65 fun d => decide (d ∈ cs)) ∧ Pre M N := by
  have hS := hH.1
  have hn := hH.len
  have ht := h.lt
  refine callsR_run K.spec_l2Parts rfl ?_
  simp (disch := omega) only [C.spec_l2Parts, ↓SXd, SXu, slBounds, ↓sop, ↓aop, ↓reduceIte, LV.cells, AOp.dst, LV.I, LV.B, LV.U, LV.S, LV.nil, Nat.reduceEqDiff, Nat.reduceAdd, Nat.reduceMul, Nat.reduceSub, Nat.reduceLeDiff, Nat.reduceBEq, Nat.reduceDiv, Nat.reduceMod, Int.reduceToNat, Int.reduceLT, Int.reduceLE, Int.reduceAdd, Int.reduceSub, Int.reduceMul, Int.reduceEq, Int.reduceNeg, reduceCtorEq, resV, resAll, ARes.ev, LV.flat, ite_true, ite_false, exists_eq_left', exists_eq_left, keyOf, implies_true, fillC, capOf]
  refine callK_of (h_l2Own (Has.app h.has) (by omega)) ?_
  simp (disch := omega) only [splice, ↓SXd, SXu, slBounds, ↓sop, ↓aop, ↓reduceIte, LV.cells, AOp.dst, LV.I, LV.B, LV.U, LV.S, LV.nil, Nat.reduceEqDiff, Nat.reduceAdd, Nat.reduceMul, Nat.reduceSub, Nat.reduceLeDiff, Nat.reduceBEq, Nat.reduceDiv, Nat.reduceMod, Int.reduceToNat, Int.reduceLT, Int.reduceLE, Int.reduceAdd, Int.reduceSub, Int.reduceMul, Int.reduceEq, Int.reduceNeg, reduceCtorEq, resV, resAll, ARes.ev, LV.flat, ite_true, ite_false, exists_eq_left', exists_eq_left, keyOf, implies_true, fillC, capOf]
  have hcs := hH.pick
  refine ev_loop (fun m fr M' => ∃ (q : Cell → Bool) (refs : List LV) (L : List (List Cell)) (to tl : Nat), parts x y z 65 (fun d => decide (d ∈ cs)) = L ++ parts x y z m q ∧ (pick x y z q).length < m ∧ Pre M M' ∧ Live M' M.length (.row [.I x, .I y, .I z, .ref t 0 cs.length] true 0) ∧
    Live M' (M.length + 3) (.row [.I x, .I y, .I z, .ref tl 0 (pick x y z q).length] true 0) ∧ Live M' tl (.row (triL (pick x y z q)) true 3) ∧ M.length + 1 ≤ to ∧ Live M' to (.row refs true 1) ∧ Css M' M.length M'.length refs L ∧ refs.length = L.length ∧ L.length + m ≤ 65 ∧
    fr 1 = .ptr M.length 0 ∧ fr 3 = .ref to 0 refs.length ∧ fr 4 = .ptr (M.length + 3) 0) 65
    ⟨fun d => decide (d ∈ cs), [], [], M.length + 1, M.length + 2, rfl, by rw [← hcs]; omega, Pre.app _ _, Live.new, by rw [← hcs]; exact Live.newj rfl, by rw [← hcs]; exact Live.newj rfl, by omega, Live.newj rfl, trivial, rfl, by simp, rfl, rfl, rfl⟩ ?_
  clear hcs
  rintro m fr M' ⟨q, refs, L, to, tl, hparts, hfuel, hpre, hbox, hlb, hlr, hto, hout, hcss, hrl, hLm, f1, f3, f4⟩
  have hl0 := hlb.lt
  have hl1 := hlr.lt
  have hl2 := hout.lt
  simp (disch := omega) only [f1, f3, f4, hlb.cell, ↓SXd, SXu, slBounds, ↓sop, ↓aop, ↓reduceIte, LV.cells, AOp.dst, LV.I, LV.B, LV.U, LV.S, LV.nil, Nat.reduceEqDiff, Nat.reduceAdd, Nat.reduceMul, Nat.reduceSub, Nat.reduceLeDiff, Nat.reduceBEq, Nat.reduceDiv, Nat.reduceMod, Int.reduceToNat, Int.reduceLT, Int.reduceLE, Int.reduceAdd, Int.reduceSub, Int.reduceMul, Int.reduceEq, Int.reduceNeg, reduceCtorEq, resV, resAll, ARes.ev, LV.flat, ite_true, ite_false, exists_eq_left', exists_eq_left, keyOf, implies_true, fillC, capOf]
  refine condC_dec (fun hlt => ?_) (fun hlt => ?_)
  rotate_left
  · simp (disch := omega) only [f1, f3, f4, ↓SXd, SXu, slBounds, ↓sop, ↓aop, ↓reduceIte, LV.cells, AOp.dst, LV.I, LV.B, LV.U, LV.S, LV.nil, Nat.reduceEqDiff, Nat.reduceAdd, Nat.reduceMul, Nat.reduceSub, Nat.reduceLeDiff, Nat.reduceBEq, Nat.reduceDiv, Nat.reduceMod, Int.reduceToNat, Int.reduceLT, Int.reduceLE, Int.reduceAdd, Int.reduceSub, Int.reduceMul, Int.reduceEq, Int.reduceNeg, reduceCtorEq, resV, resAll, ARes.ev, LV.flat, ite_true, ite_false, exists_eq_left', exists_eq_left, keyOf, implies_true, fillC, capOf]
    have hnil : pick x y z q = [] := List.eq_nil_of_length_eq_zero (by omega)
    have : parts x y z m q = [] := by cases m with
      | zero => rfl
      | succ m => simp only [parts, hnil]
    rw [this, List.append_nil] at hparts
    rw [hparts]
    exact ⟨to, refs, rfl, by omega, hout, hcss, hpre⟩
  · obtain ⟨c, rs, hpk⟩ : ∃ c rs, pick x y z q = c :: rs := by
      cases hh : pick x y z q with
      | nil => rw [hh] at hlt; simp at hlt
      | cons c rs => exact ⟨c, rs, rfl⟩
    have hcq := (mem_pick hS (p := q) (c := c)).1 (by rw [hpk]; simp)
    have hg0 : (pick x y z q).getD 0 default = c := by rw [hpk]; rfl
    have hc0 := hlr.tri0 (k := 0) (by omega)
    rw [hg0, Nat.zero_mul] at hc0
    simp (disch := omega) only [f1, f3, f4, hbox.cell, hlb.cell, hc0, Cell.row, List.getElem?_append_left, splice, ↓SXd, SXu, slBounds, ↓sop, ↓aop, ↓reduceIte, LV.cells, AOp.dst, LV.I, LV.B, LV.U, LV.S, LV.nil, Nat.reduceEqDiff, Nat.reduceAdd, Nat.reduceMul, Nat.reduceSub, Nat.reduceLeDiff, Nat.reduceBEq, Nat.reduceDiv, Nat.reduceMod, Int.reduceToNat, Int.reduceLT, Int.reduceLE, Int.reduceAdd, Int.reduceSub, Int.reduceMul, Int.reduceEq, Int.reduceNeg, reduceCtorEq, resV, resAll, ARes.ev, LV.flat, ite_true, ite_false, exists_eq_left', exists_eq_left, keyOf, implies_true, fillC, capOf]
    refine callK_of (h_l2Empty) ?_
    simp (disch := omega) only [f1, f3, f4, List.getElem?_append_left, splice, ↓SXd, SXu, slBounds, ↓sop, ↓aop, ↓reduceIte, LV.cells, AOp.dst, LV.I, LV.B, LV.U, LV.S, LV.nil, Nat.reduceEqDiff, Nat.reduceAdd, Nat.reduceMul, Nat.reduceSub, Nat.reduceLeDiff, Nat.reduceBEq, Nat.reduceDiv, Nat.reduceMod, Int.reduceToNat, Int.reduceLT, Int.reduceLE, Int.reduceAdd, Int.reduceSub, Int.reduceMul, Int.reduceEq, Int.reduceNeg, reduceCtorEq, resV, resAll, ARes.ev, LV.flat, ite_true, ite_false, exists_eq_left', exists_eq_left, keyOf, implies_true, fillC, capOf]
    have e1 : Live (M' ++ [some (.row [.I c.a, .I c.b, .I c.c] true 3), some (.row [.I x, .I y, .I z, .ref (M'.length + 2) 0 0] true 0), some (.row [] true 3)]) M'.length (.row [.I c.a, .I c.b, .I c.c] true 3) := Live.new
    have e2 : Live (M' ++ [some (.row [.I c.a, .I c.b, .I c.c] true 3), some (.row [.I x, .I y, .I z, .ref (M'.length + 2) 0 0] true 0), some (.row [] true 3)]) (M'.length + 1) (.row [.I x, .I y, .I z, .ref (M'.length + 2) 0 0] true 0) := Live.newj rfl
    have e3 : Live (M' ++ [some (.row [.I c.a, .I c.b, .I c.c] true 3), some (.row [.I x, .I y, .I z, .ref (M'.length + 2) 0 0] true 0), some (.row [] true 3)]) (M'.length + 2) (.row [] true 3) := Live.newj rfl
    have hp1 : Pre M' (M' ++ [some (.row [.I c.a, .I c.b, .I c.c] true 3), some (.row [.I x, .I y, .I z, .ref (M'.length + 2) 0 0] true 0), some (.row [] true 3)]) := Pre.app _ _
    generalize M' ++ [some (.row [.I c.a, .I c.b, .I c.c] true 3), some (.row [.I x, .I y, .I z, .ref (M'.length + 2) 0 0] true 0), some (.row [] true 3)] = N1 at e1 e2 e3 hp1 ⊢
    have hlb1 := hlb.pre hp1
    have hlr1 := hlr.pre hp1
    simp (disch := omega) only [f1, f3, f4, hlb1.cells, e1.cells, ↓SXd, SXu, slBounds, ↓sop, ↓aop, ↓reduceIte, LV.cells, AOp.dst, LV.I, LV.B, LV.U, LV.S, LV.nil, Nat.reduceEqDiff, Nat.reduceAdd, Nat.reduceMul, Nat.reduceSub, Nat.reduceLeDiff, Nat.reduceBEq, Nat.reduceDiv, Nat.reduceMod, Int.reduceToNat, Int.reduceLT, Int.reduceLE, Int.reduceAdd, Int.reduceSub, Int.reduceMul, Int.reduceEq, Int.reduceNeg, reduceCtorEq, resV, resAll, ARes.ev, LV.flat, ite_true, ite_false, exists_eq_left', exists_eq_left, keyOf, implies_true, fillC, capOf]
    refine callH_of (h_l2Without hlr1.has (by have := pick_len hS q; omega)) ?_
    intro tl2 N2 htl2 hp2 hlr2
    rw [cell_eta, filter_pick] at hlr2 ⊢
    simp (disch := omega) only [f1, f3, f4, ↓SXd, SXu, slBounds, ↓sop, ↓aop, ↓reduceIte, LV.cells, AOp.dst, LV.I, LV.B, LV.U, LV.S, LV.nil, Nat.reduceEqDiff, Nat.reduceAdd, Nat.reduceMul, Nat.reduceSub, Nat.reduceLeDiff, Nat.reduceBEq, Nat.reduceDiv, Nat.reduceMod, Int.reduceToNat, Int.reduceLT, Int.reduceLE, Int.reduceAdd, Int.reduceSub, Int.reduceMul, Int.reduceEq, Int.reduceNeg, reduceCtorEq, resV, resAll, ARes.ev, LV.flat, ite_true, ite_false, exists_eq_left', exists_eq_left, keyOf, implies_true, fillC, capOf]
    refine memK_box (hlb1.pre hp2) (by simp) fun N3 k1 k2 k3 => ?_
    simp (disch := omega) only [f1, f3, f4, ↓SXd, SXu, slBounds, ↓sop, ↓aop, ↓reduceIte, LV.cells, AOp.dst, LV.I, LV.B, LV.U, LV.S, LV.nil, Nat.reduceEqDiff, Nat.reduceAdd, Nat.reduceMul, Nat.reduceSub, Nat.reduceLeDiff, Nat.reduceBEq, Nat.reduceDiv, Nat.reduceMod, Int.reduceToNat, Int.reduceLT, Int.reduceLE, Int.reduceAdd, Int.reduceSub, Int.reduceMul, Int.reduceEq, Int.reduceNeg, reduceCtorEq, resV, resAll, ARes.ev, LV.flat, ite_true, ite_false, exists_eq_left', exists_eq_left, keyOf, implies_true, fillC, capOf]
    have hN1 := hp1.1
    have hN1' := e3.lt
    have hN2 := hp2.1
    have hM3 : M.length + 3 < M'.length := hl0
    have hno := hout.ne_esz hlb (by decide)
    have hlr3 := live_step hlr2 (by omega) k3
    have hbox3 := live_step ((hbox.pre hp1).pre hp2) (by omega) k3
    have hout3 := live_step ((hout.pre hp1).pre hp2) (by omega) k3
    have g1 := live_step (e1.pre hp2) (by omega) k3
    have g2 := live_step (e2.pre hp2) (by omega) k3
    have g3 := live_step (e3.pre hp2) (by omega) k3
    have hpre3 := pre_step ((hpre.trans hp1).trans hp2) (by omega) (j := 0) k1 k3
    have hcss3 := ((hcss.pre hp1).pre hp2).keep (.inr ⟨_, _, _, hlb1.pre hp2, by decide⟩) k3
    have hrows : ∀ l : List Cell, (Blk.row [.I c.a, .I c.b, .I c.c] true 3) = .row (triL [c]) true 3 := fun _ => rfl
    refine ev_loop (fun m2 fr N => ∃ (n : Nat) (list : List Cell) (ti tl tp : Nat), n + m2 = 64 ∧ n ≤ list.length ∧ Que x y z q c n list ∧ Pre M N ∧ Live N M.length (.row [.I x, .I y, .I z, .ref t 0 cs.length] true 0) ∧
      Live N (M.length + 3) (.row [.I x, .I y, .I z, .ref tl 0 (pick x y z fun d => q d && !decide (d ∈ list)).length] true 0) ∧ Live N tl (.row (triL (pick x y z fun d => q d && !decide (d ∈ list))) true 3) ∧
      Live N (M'.length + 1) (.row [.I x, .I y, .I z, .ref tp 0 (pick x y z fun d => decide (d ∈ list.take n)).length] true 0) ∧ Live N tp (.row (triL (pick x y z fun d => decide (d ∈ list.take n))) true 3) ∧
      Live N ti (.row (triL list) true 3) ∧ Live N to (.row refs true 1) ∧ Css N M.length M'.length refs L ∧ M'.length ≤ ti ∧ M'.length ≤ tl ∧ M'.length ≤ tp ∧ ti ≠ tl ∧ ti ≠ tp ∧ ti ≠ M'.length + 1 ∧
      fr 1 = .ptr M.length 0 ∧ fr 3 = .ref to 0 refs.length ∧ fr 4 = .ptr (M.length + 3) 0 ∧ fr 5 = .ptr (M'.length + 1) 0 ∧ fr 6 = .ref ti 0 list.length ∧ fr 7 = .I n) 64
      ⟨0, [c], M'.length, tl2, M'.length + 2, rfl, by simp, ⟨by simp, fun d hd => by rw [List.mem_singleton.1 hd]; exact ⟨hcq.1, hcq.2, .base hcq.1 (by simp)⟩, by simp, by omega⟩, hpre3, hbox3, ?_, ?_, ?_, ?_, g1, hout3, hcss3, by omega, by omega, by omega, by omega, by omega, by omega, f1, f3, f4, rfl, rfl, rfl⟩ ?_
    · rw [pick_congr hS (p := fun d => q d && !decide (d ∈ [c])) (q := fun d => q d && !decide (d = c)) fun d _ => by simp]; exact k2
    · rw [pick_congr hS (p := fun d => q d && !decide (d ∈ [c])) (q := fun d => q d && !decide (d = c)) fun d _ => by simp]; exact hlr3
    · rw [show pick x y z (fun d => decide (d ∈ [c].take 0)) = [] by unfold pick; rw [List.filter_eq_nil_iff]; simp]; exact g2
    · rw [show pick x y z (fun d => decide (d ∈ [c].take 0)) = [] by unfold pick; rw [List.filter_eq_nil_iff]; simp]; exact g3
    clear f1 f3 f4 hbox hlb hlr hout hcss hpre hlb1 hlr1 hlr2 k1 k2 k3 hlr3 hbox3 hout3 g1 g2 g3 hpre3 hcss3 e1 e2 e3 hp1 hp2 hN1 hN1' hN2 htl2 hno hc0 hl0 hl1 hl2
    rintro m2 fr N ⟨n, list, ti, tl, tp, hnm, hnl, hque, hpre, hbox, hlb, hlr, hpb, hpr, hli, hout, hcss, hti, htl, htp, hd1, hd2, hd3, f1, f3, f4, f5, f6, f7⟩
    have hll := nodup_len hS hque.nodup fun d hd => (hque.mem d hd).1
    have hNl := hpb.lt
    have hl0 := hlb.lt
    simp (disch := omega) only [f1, f3, f4, f5, f6, f7, ↓SXd, SXu, slBounds, ↓sop, ↓aop, ↓reduceIte, LV.cells, AOp.dst, LV.I, LV.B, LV.U, LV.S, LV.nil, Nat.reduceEqDiff, Nat.reduceAdd, Nat.reduceMul, Nat.reduceSub, Nat.reduceLeDiff, Nat.reduceBEq, Nat.reduceDiv, Nat.reduceMod, Int.reduceToNat, Int.reduceLT, Int.reduceLE, Int.reduceAdd, Int.reduceSub, Int.reduceMul, Int.reduceEq, Int.reduceNeg, reduceCtorEq, resV, resAll, ARes.ev, LV.flat, ite_true, ite_false, exists_eq_left', exists_eq_left, keyOf, implies_true, fillC, capOf]
    refine condC_dec (fun hlt2 => ?_) (fun hlt2 => ?_)
    · have hnl' : n < list.length := by omega
      have hlc := hli.tri0 hnl'
      have hcn := hque.mem _ (getD_mem' (d := default) hnl')
      have hpk2 := pick_ok hS fun d => decide (d ∈ list.take n)
      simp (disch := omega) only [f1, f3, f4, f5, f6, f7, hpb.cells, hlc, Cell.row, ↓SXd, SXu, slBounds, ↓sop, ↓aop, ↓reduceIte, LV.cells, AOp.dst, LV.I, LV.B, LV.U, LV.S, LV.nil, Nat.reduceEqDiff, Nat.reduceAdd, Nat.reduceMul, Nat.reduceSub, Nat.reduceLeDiff, Nat.reduceBEq, Nat.reduceDiv, Nat.reduceMod, Int.reduceToNat, Int.reduceLT, Int.reduceLE, Int.reduceAdd, Int.reduceSub, Int.reduceMul, Int.reduceEq, Int.reduceNeg, reduceCtorEq, resV, resAll, ARes.ev, LV.flat, ite_true, ite_false, exists_eq_left', exists_eq_left, keyOf, implies_true, fillC, capOf]
      refine callH_of (h_l2With hpr hpk2 hcn.1) ?_
      intro tp2 N2 htp2 hp2 hpr2
      rw [pick_take_step hS hnl'] at hpr2 ⊢
      simp (disch := omega) only [f1, f3, f4, f5, f6, f7, ↓SXd, SXu, slBounds, ↓sop, ↓aop, ↓reduceIte, LV.cells, AOp.dst, LV.I, LV.B, LV.U, LV.S, LV.nil, Nat.reduceEqDiff, Nat.reduceAdd, Nat.reduceMul, Nat.reduceSub, Nat.reduceLeDiff, Nat.reduceBEq, Nat.reduceDiv, Nat.reduceMod, Int.reduceToNat, Int.reduceLT, Int.reduceLE, Int.reduceAdd, Int.reduceSub, Int.reduceMul, Int.reduceEq, Int.reduceNeg, reduceCtorEq, resV, resAll, ARes.ev, LV.flat, ite_true, ite_false, exists_eq_left', exists_eq_left, keyOf, implies_true, fillC, capOf]
      refine memK_box (hpb.pre hp2) (by simp) fun N3 k1 k2 k3 => ?_
      have hN2 := hp2.1
      have hlb3 := live_step (hlb.pre hp2) (by omega) k3
      have hlr3 := live_step (hlr.pre hp2) (hlr.ne_esz hpb (by decide)) k3
      have hli3 := live_step (hli.pre hp2) (by omega) k3
      have hbox3 := live_step (hbox.pre hp2) (by omega) k3
      have hout3 := live_step (hout.pre hp2) (hout.ne_esz hpb (by decide)) k3
      have hpr3 := live_step hpr2 (by omega) k3
      have hcss3 := (hcss.pre hp2).keep (.inr ⟨_, _, _, hpb.pre hp2, by decide⟩) k3
      have hpre3 := pre_step (hpre.trans hp2) (by omega) (j := 0) k1 k3
      have hlc3 := hli3.tri0 hnl'
      simp (disch := omega) only [f1, f3, f4, f5, f6, f7, hlb3.cells, hlc3, Cell.row, ↓SXd, SXu, slBounds, ↓sop, ↓aop, ↓reduceIte, LV.cells, AOp.dst, LV.I, LV.B, LV.U, LV.S, LV.nil, Nat.reduceEqDiff, Nat.reduceAdd, Nat.reduceMul, Nat.reduceSub, Nat.reduceLeDiff, Nat.reduceBEq, Nat.reduceDiv, Nat.reduceMod, Int.reduceToNat, Int.reduceLT, Int.reduceLE, Int.reduceAdd, Int.reduceSub, Int.reduceMul, Int.reduceEq, Int.reduceNeg, reduceCtorEq, resV, resAll, ARes.ev, LV.flat, ite_true, ite_false, exists_eq_left', exists_eq_left, keyOf, implies_true, fillC, capOf]
      refine callN_of (h_l2Near hlr3.has (by have := pick_len hS fun d => q d && !decide (d ∈ list); omega) (fun d hd => ?_) ?_) ?_
      · have := ((mem_pick hS).1 hd).1
        obtain ⟨⟨_, _⟩, ⟨_, _⟩, ⟨_, _⟩⟩ := id hS
        exact ⟨⟨this.1.1, by have := this.1.2; omega⟩, ⟨this.2.1.1, by have := this.2.1.2; omega⟩, ⟨this.2.2.1, by have := this.2.2.2; omega⟩⟩
      · have := hcn.1
        obtain ⟨⟨_, _⟩, ⟨_, _⟩, ⟨_, _⟩⟩ := id hS
        exact ⟨⟨this.1.1, by have := this.1.2; omega⟩, ⟨this.2.1.1, by have := this.2.1.2; omega⟩, ⟨this.2.2.1, by have := this.2.2.2; omega⟩⟩
      intro tn N4 htn hp4 hnr
      rw [filter_pick] at hnr ⊢
      have hnx := hque.next hS hnl'
      simp (disch := omega) only [f1, f3, f4, f5, f6, f7, ↓SXd, SXu, slBounds, ↓sop, ↓aop, ↓reduceIte, LV.cells, AOp.dst, LV.I, LV.B, LV.U, LV.S, LV.nil, Nat.reduceEqDiff, Nat.reduceAdd, Nat.reduceMul, Nat.reduceSub, Nat.reduceLeDiff, Nat.reduceBEq, Nat.reduceDiv, Nat.reduceMod, Int.reduceToNat, Int.reduceLT, Int.reduceLE, Int.reduceAdd, Int.reduceSub, Int.reduceMul, Int.reduceEq, Int.reduceNeg, reduceCtorEq, resV, resAll, ARes.ev, LV.flat, ite_true, ite_false, exists_eq_left', exists_eq_left, keyOf, implies_true, fillC, capOf]
      have hnrl := pick_len hS fun d => (q d && !decide (d ∈ list)) && decide (apart d (list.getD n default) = 1)
      have hN2 := hp2.1
      have hN4 := hp4.1
      have hN3 : N3.length = N2.length := k1
      have hlN3 := hlr3.lt
      have hlN0 := hli.lt
      have hlN4 := hli3.lt
      have hlN5 := hpr3.lt
      generalize hnrd : pick x y z (fun d => (q d && !decide (d ∈ list)) && decide (apart d (list.getD n default) = 1)) = nr at hnr hnx hnrl ⊢
      refine ev_loop (fun m3 fr N => ∃ (i ti tl : Nat), i + m3 = nr.length ∧ Pre M N ∧ Live N M.length (.row [.I x, .I y, .I z, .ref t 0 cs.length] true 0) ∧
        Live N (M.length + 3) (.row [.I x, .I y, .I z, .ref tl 0 (pick x y z fun d => q d && !decide (d ∈ list ++ nr.take i)).length] true 0) ∧ Live N tl (.row (triL (pick x y z fun d => q d && !decide (d ∈ list ++ nr.take i))) true 3) ∧
        Live N (M'.length + 1) (.row [.I x, .I y, .I z, .ref tp2 0 (pick x y z fun d => decide (d ∈ list.take (n + 1))).length] true 0) ∧ Live N tp2 (.row (triL (pick x y z fun d => decide (d ∈ list.take (n + 1)))) true 3) ∧
        Live N ti (.row (triL (list ++ nr.take i)) true 3) ∧ Live N tn (.row (triL nr) true 3) ∧ Live N to (.row refs true 1) ∧ Css N M.length M'.length refs L ∧ M'.length ≤ ti ∧ M'.length ≤ tl ∧ M'.length ≤ tp2 ∧ ti ≠ tl ∧ ti ≠ tp2 ∧ ti ≠ M'.length + 1 ∧ ti ≠ tn ∧
        fr 1 = .ptr M.length 0 ∧ fr 3 = .ref to 0 refs.length ∧ fr 4 = .ptr (M.length + 3) 0 ∧ fr 5 = .ptr (M'.length + 1) 0 ∧ fr 6 = .ref ti 0 (list ++ nr.take i).length ∧ fr 7 = .I n ∧ fr 8 = .ref tn 0 nr.length ∧ fr 9 = .I i) nr.length
        ⟨0, ti, tl, by omega, hpre3.trans hp4, hbox3.pre hp4, by simpa using hlb3.pre hp4, by simpa using hlr3.pre hp4, k2.pre hp4, hpr3.pre hp4, by simpa using hli3.pre hp4, hnr, hout3.pre hp4, hcss3.pre hp4, hti, htl, by omega, hd1, by omega, hd3, by omega, f1, f3, f4, f5, by simp only [List.take_zero, List.append_nil]; exact f6, f7, rfl, rfl⟩ ?_
      clear f1 f3 f4 f5 f6 f7 hpre3 hbox3 hlb3 hlr3 k2 hpr3 hli3 hnr hout3 hcss3 hlb hlr hpb hpr hli hout hcss hpre hbox k1 k3 hlc hlc3
      rintro m3 fr N ⟨i, ti, tl, hi, hpre, hbox, hlb, hlr, hpb, hpr, hli, hnr, hout, hcss, hti, htl, htp, hd1, hd2, hd3, hd4, f1, f3, f4, f5, f6, f7, f8, f9⟩
      simp (disch := omega) only [f1, f3, f4, f5, f6, f7, f8, f9, ↓SXd, SXu, slBounds, ↓sop, ↓aop, ↓reduceIte, LV.cells, AOp.dst, LV.I, LV.B, LV.U, LV.S, LV.nil, Nat.reduceEqDiff, Nat.reduceAdd, Nat.reduceMul, Nat.reduceSub, Nat.reduceLeDiff, Nat.reduceBEq, Nat.reduceDiv, Nat.reduceMod, Int.reduceToNat, Int.reduceLT, Int.reduceLE, Int.reduceAdd, Int.reduceSub, Int.reduceMul, Int.reduceEq, Int.reduceNeg, reduceCtorEq, resV, resAll, ARes.ev, LV.flat, ite_true, ite_false, exists_eq_left', exists_eq_left, keyOf, implies_true, fillC, capOf]
      refine condC_dec (fun hlt3 => ?_) (fun hlt3 => ?_)
      · have hin : i < nr.length := by omega
        have hnc := hnr.tri0 hin
        have hts : nr.take (i + 1) = nr.take i ++ [nr.getD i default] := by
          rw [List.take_succ, List.getElem?_eq_getElem hin]; simp [hin]
        have hll2 : (list ++ nr.take i).length ≤ 1000 := by simp; omega
        simp (disch := omega) only [f1, f3, f4, f5, f6, f7, f8, f9, hnc, Cell.row, splice, ↓SXd, SXu, slBounds, ↓sop, ↓aop, ↓reduceIte, LV.cells, AOp.dst, LV.I, LV.B, LV.U, LV.S, LV.nil, Nat.reduceEqDiff, Nat.reduceAdd, Nat.reduceMul, Nat.reduceSub, Nat.reduceLeDiff, Nat.reduceBEq, Nat.reduceDiv, Nat.reduceMod, Int.reduceToNat, Int.reduceLT, Int.reduceLE, Int.reduceAdd, Int.reduceSub, Int.reduceMul, Int.reduceEq, Int.reduceNeg, reduceCtorEq, resV, resAll, ARes.ev, LV.flat, ite_true, ite_false, exists_eq_left', exists_eq_left, keyOf, implies_true, fillC, capOf]
        refine appendK_cell hli (by omega) fun N5 l1 l2 l3 => ?_
        have hlb5 := live_step hlb (hlb.ne_esz hli (by decide)) l3
        have hnr5 := live_step hnr (by omega) l3
        have hlr5 := live_step hlr (by omega) l3
        rw [cell_eta, List.append_assoc, ← hts] at l2
        have hnc5 := hnr5.tri0 hin
        simp (disch := omega) only [f1, f3, f4, f5, f6, f7, f8, f9, hlb5.cells, hnc5, Cell.row, ↓SXd, SXu, slBounds, ↓sop, ↓aop, ↓reduceIte, LV.cells, AOp.dst, LV.I, LV.B, LV.U, LV.S, LV.nil, Nat.reduceEqDiff, Nat.reduceAdd, Nat.reduceMul, Nat.reduceSub, Nat.reduceLeDiff, Nat.reduceBEq, Nat.reduceDiv, Nat.reduceMod, Int.reduceToNat, Int.reduceLT, Int.reduceLE, Int.reduceAdd, Int.reduceSub, Int.reduceMul, Int.reduceEq, Int.reduceNeg, reduceCtorEq, resV, resAll, ARes.ev, LV.flat, ite_true, ite_false, exists_eq_left', exists_eq_left, keyOf, implies_true, fillC, capOf]
        refine callH_of (h_l2Without hlr5.has (by have := pick_len hS fun d => q d && !decide (d ∈ list ++ nr.take i); omega)) ?_
        intro tl3 N6 htl3 hp6 hlr6
        have hpe : pick x y z (fun d => (q d && !decide (d ∈ list ++ nr.take i)) && !decide (d = nr.getD i default)) = pick x y z fun d => q d && !decide (d ∈ list ++ nr.take (i + 1)) := pick_congr hS fun d _ => by
          rw [hts, ← List.append_assoc]
          simp only [List.mem_append (s := list ++ nr.take i), List.mem_singleton, Bool.decide_or, Bool.not_or, Bool.and_assoc]
        rw [cell_eta, filter_pick, hpe] at hlr6 ⊢
        simp (disch := omega) only [f1, f3, f4, f5, f6, f7, f8, f9, ↓SXd, SXu, slBounds, ↓sop, ↓aop, ↓reduceIte, LV.cells, AOp.dst, LV.I, LV.B, LV.U, LV.S, LV.nil, Nat.reduceEqDiff, Nat.reduceAdd, Nat.reduceMul, Nat.reduceSub, Nat.reduceLeDiff, Nat.reduceBEq, Nat.reduceDiv, Nat.reduceMod, Int.reduceToNat, Int.reduceLT, Int.reduceLE, Int.reduceAdd, Int.reduceSub, Int.reduceMul, Int.reduceEq, Int.reduceNeg, reduceCtorEq, resV, resAll, ARes.ev, LV.flat, ite_true, ite_false, exists_eq_left', exists_eq_left, keyOf, implies_true, fillC, capOf]
        refine memK_box (hlb5.pre hp6) (by simp) fun N7 j1 j2 j3 => ?_
        have hlM := hpb.lt
        have hl6 := hp6.1
        have hla := hpr.lt
        have hlb' := hnr.lt
        simp (disch := omega) only [f1, f3, f4, f5, f6, f7, f8, f9, ↓SXd, SXu, slBounds, ↓sop, ↓aop, ↓reduceIte, LV.cells, AOp.dst, LV.I, LV.B, LV.U, LV.S, LV.nil, Nat.reduceEqDiff, Nat.reduceAdd, Nat.reduceMul, Nat.reduceSub, Nat.reduceLeDiff, Nat.reduceBEq, Nat.reduceDiv, Nat.reduceMod, Int.reduceToNat, Int.reduceLT, Int.reduceLE, Int.reduceAdd, Int.reduceSub, Int.reduceMul, Int.reduceEq, Int.reduceNeg, reduceCtorEq, resV, resAll, ARes.ev, LV.flat, ite_true, ite_false, exists_eq_left', exists_eq_left, keyOf, implies_true, fillC, capOf]
        refine ⟨m3 - 1, by omega, i + 1, N.length + 1, tl3, by omega, pre_step ((pre_step hpre (by omega) l1 l3).trans hp6) (by omega) (j := 0) j1 j3, live_step ((live_step hbox (hbox.ne_esz hli (by decide)) l3).pre hp6) (by omega) j3, j2, live_step hlr6 (by omega) j3,
          live_step ((live_step hpb (by omega) l3).pre hp6) (by omega) j3, live_step ((live_step hpr (by omega) l3).pre hp6) ?_ j3, live_step (l2.pre hp6) (by omega) j3, live_step (hnr5.pre hp6) ?_ j3, live_step ((live_step hout (hout.ne_esz hli (by decide)) l3).pre hp6) ?_ j3,
          (((hcss.keep (.inl (.inl hti)) l3).pre hp6).keep (.inr ⟨_, _, _, hlb5.pre hp6, by decide⟩) j3), by omega, by omega, htp, by omega, by omega, by omega, by omega, f1, f3, f4, f5, ?_, f7, f8, eqI (natI _)⟩
        · exact hpr.ne_esz hlb (by decide)
        · exact hnr.ne_esz hlb (by decide)
        · exact hout.ne_esz hlb (by decide)
        · simp only [List.append_assoc, hts, cell_eta]; rfl
      · simp (disch := omega) only [f1, f3, f4, f5, f6, f7, f8, f9, ↓SXd, SXu, slBounds, ↓sop, ↓aop, ↓reduceIte, LV.cells, AOp.dst, LV.I, LV.B, LV.U, LV.S, LV.nil, Nat.reduceEqDiff, Nat.reduceAdd, Nat.reduceMul, Nat.reduceSub, Nat.reduceLeDiff, Nat.reduceBEq, Nat.reduceDiv, Nat.reduceMod, Int.reduceToNat, Int.reduceLT, Int.reduceLE, Int.reduceAdd, Int.reduceSub, Int.reduceMul, Int.reduceEq, Int.reduceNeg, reduceCtorEq, resV, resAll, ARes.ev, LV.flat, ite_true, ite_false, exists_eq_left', exists_eq_left, keyOf, implies_true, fillC, capOf]
        have : i = nr.length := by omega
        subst this
        rw [List.take_length] at *
        have htk : (list ++ nr).take (n + 1) = list.take (n + 1) := List.take_append_of_le_length (by omega)
        exact ⟨m2 - 1, by omega, n + 1, list ++ nr, ti, tl, tp2, by omega, by simp; omega, hnx, hpre, hbox, hlb, hlr, by rw [htk]; exact hpb, by rw [htk]; exact hpr, hli, hout, hcss, hti, htl, htp, hd1, hd2, hd3, f1, f3, f4, f5, f6, eqI (natI _)⟩
    · have hnn : n = list.length := by omega
      subst hnn
      have hr := fun d => hque.reach (d := d) (Nat.le_refl _)
      rw [List.take_length] at hpb hpr
      have hpe : pick x y z (fun d => decide (d ∈ list)) = pick x y z (reach x y z (fun d => decide (d = c)) q) := pick_congr hS fun d _ => by
        rw [Bool.eq_iff_iff, decide_eq_true_iff]; exact hr d
      have hqe : pick x y z (fun d => q d && !decide (d ∈ list)) = pick x y z fun d => q d && !reach x y z (fun d => decide (d = c)) q d := pick_congr hS fun d _ => by
        congr 2
        rw [Bool.eq_iff_iff, decide_eq_true_iff]; exact hr d
      rw [hpe] at hpb hpr
      rw [hqe] at hlb hlr
      simp (disch := omega) only [f1, f3, f4, f5, f6, f7, hpb.cell, splice, ↓SXd, SXu, slBounds, ↓sop, ↓aop, ↓reduceIte, LV.cells, AOp.dst, LV.I, LV.B, LV.U, LV.S, LV.nil, Nat.reduceEqDiff, Nat.reduceAdd, Nat.reduceMul, Nat.reduceSub, Nat.reduceLeDiff, Nat.reduceBEq, Nat.reduceDiv, Nat.reduceMod, Int.reduceToNat, Int.reduceLT, Int.reduceLE, Int.reduceAdd, Int.reduceSub, Int.reduceMul, Int.reduceEq, Int.reduceNeg, reduceCtorEq, resV, resAll, ARes.ev, LV.flat, ite_true, ite_false, exists_eq_left', exists_eq_left, keyOf, implies_true, fillC, capOf]
      refine appendK_1 (acc := refs) (new := [.ref tp 0 (pick x y z (reach x y z (fun d => decide (d = c)) q)).length]) hout (by omega) rfl (by omega) (by omega) (by omega) fun N5 l1 l2 l3 => ?_
      simp (disch := omega) only [f1, f3, f4, f5, f6, f7, ↓SXd, SXu, slBounds, ↓sop, ↓aop, ↓reduceIte, LV.cells, AOp.dst, LV.I, LV.B, LV.U, LV.S, LV.nil, Nat.reduceEqDiff, Nat.reduceAdd, Nat.reduceMul, Nat.reduceSub, Nat.reduceLeDiff, Nat.reduceBEq, Nat.reduceDiv, Nat.reduceMod, Int.reduceToNat, Int.reduceLT, Int.reduceLE, Int.reduceAdd, Int.reduceSub, Int.reduceMul, Int.reduceEq, Int.reduceNeg, reduceCtorEq, resV, resAll, ARes.ev, LV.flat, ite_true, ite_false, exists_eq_left', exists_eq_left, keyOf, implies_true, fillC, capOf]
      obtain ⟨m', rfl⟩ : ∃ m', m = m' + 1 := ⟨m - 1, by omega⟩
      have hlM := hpr.lt
      have hpl := hpre.1
      have hpp : parts x y z (m' + 1) q = pick x y z (reach x y z (fun d => decide (d = c)) q) :: parts x y z m' fun d => q d && !reach x y z (fun d => decide (d = c)) q d := by simp only [parts, hpk]
      rw [hpp] at hparts
      refine ⟨m', by omega, fun d => q d && !reach x y z (fun d => decide (d = c)) q d, refs ++ [.ref tp 0 (pick x y z (reach x y z (fun d => decide (d = c)) q)).length], L ++ [pick x y z (reach x y z (fun d => decide (d = c)) q)], N.length + 1, tl, ?_, ?_,
        pre_step hpre (by omega) l1 l3, live_step hbox (hbox.ne_esz hout (by decide)) l3, live_step hlb (hlb.ne_esz hout (by decide)) l3, live_step hlr (hlr.ne_esz hout (by decide)) l3, by omega, l2, ?_, by simp [hrl], by simp; omega, f1, ?_, f4⟩
      · rw [hparts, List.append_assoc]; rfl
      · have := filter_lt hS (l := cellsOf x y z) (p := fun d => q d && !reach x y z (fun d => decide (d = c)) q d) (q := q) (fun a _ ha => by simp only [Bool.and_eq_true] at ha; exact ha.1)
          ⟨c, (mem_cellsOf hS).2 hcq.1, hcq.2, by rw [(reach_iff (c := c)).2 (.base hcq.1 (by simp))]; simp⟩
        unfold pick at hfuel ⊢
        omega
      · exact (hcss.keep (.inr ⟨_, _, _, hout, by decide⟩) l3).snoc htp (by omega) (live_step hpr (hpr.ne_esz hout (by decide)) l3) (by omega)
      · rw [List.length_append, List.length_singleton]; rfl
end Go.Ab

/- Plain words: what stands and what hangs, by parts and by growing. -/
namespace Go.Ab

theorem Reach.symm {x y z : Int} {q : Cell → Bool} {c d : Cell} (hc : c.inBox x y z) (hqc : q c = true) (h : Reach x y z (fun e => decide (e = c)) q d) : Reach x y z (fun e => decide (e = d)) q c ∧ q d = true := by
  induction h with
  | base h1 h2 => rw [of_decide_eq_true h2]; exact ⟨.base hc (by simp), hqc⟩
  | @step a b h1 h2 h3 h4 ih =>
    refine ⟨?_, h4⟩
    have hb : Reach x y z (fun e => decide (e = b)) q b := .base h3 (by simp)
    have hba : Reach x y z (fun e => decide (e = b)) q a := .step hb (by rw [apart_comm]; exact h2) h1.inBox ih.2
    have htr : ∀ {u}, Reach x y z (fun e => decide (e = a)) q u → Reach x y z (fun e => decide (e = b)) q u := fun hu =>
      hu.mono (fun e _ he => by rw [of_decide_eq_true he]; exact hba) fun _ _ h => h
    exact htr ih.1
theorem Reach.trans {x y z : Int} {q p : Cell → Bool} {c d : Cell} (h : Reach x y z p q c) (k : Reach x y z (fun e => decide (e = c)) q d) : Reach x y z p q d :=
  k.mono (fun e _ he => by rw [of_decide_eq_true he]; exact h) fun _ _ h => h

section
variable {x y z : Int} (hS : Sides x y z)
include hS
/-- Each part is what one of its cells reaches, and each cell is in a part. -/
theorem parts_spec : ∀ (f : Nat) (q : Cell → Bool), (pick x y z q).length < f →
    (∀ l ∈ parts x y z f q, ∃ c, c.inBox x y z ∧ q c = true ∧ l = pick x y z (reach x y z (fun d => decide (d = c)) q)) ∧ ∀ d, d.inBox x y z → q d = true → ∃ l ∈ parts x y z f q, d ∈ l
  | 0, q, h => by omega
  | f + 1, q, h => by
    cases hpk : pick x y z q with
    | nil =>
      simp only [parts, hpk]
      refine ⟨fun l hl => by simp at hl, fun d hd hq => ?_⟩
      have := (mem_pick hS (p := q) (c := d)).2 ⟨hd, hq⟩
      rw [hpk] at this; simp at this
    | cons c rs =>
      have hcq := (mem_pick hS (p := q) (c := c)).1 (by rw [hpk]; simp)
      simp only [parts, hpk]
      have hlt := filter_lt hS (l := cellsOf x y z) (p := fun d => q d && !reach x y z (fun d => decide (d = c)) q d) (q := q) (fun a _ ha => by simp only [Bool.and_eq_true] at ha; exact ha.1)
        ⟨c, (mem_cellsOf hS).2 hcq.1, hcq.2, by rw [(reach_iff (c := c)).2 (.base hcq.1 (by simp))]; simp⟩
      obtain ⟨h1, h2⟩ := parts_spec f (fun d => q d && !reach x y z (fun d => decide (d = c)) q d) (by unfold pick at h ⊢; omega)
      have key : ∀ a, a.inBox x y z → q a = true → reach x y z (fun d => decide (d = c)) q a = false → ∀ d, reach x y z (fun d => decide (d = a)) q d = reach x y z (fun d => decide (d = a)) (fun d => q d && !reach x y z (fun d => decide (d = c)) q d) d := by
        intro a ha hqa hna d
        rw [Bool.eq_iff_iff, reach_iff, reach_iff]
        constructor
        · intro hr
          refine hr.ind (P := fun e => Reach x y z (fun d => decide (d = a)) (fun d => q d && !reach x y z (fun d => decide (d = c)) q d) e) (fun e he1 he2 => .base he1 he2) (fun e e' he hab hb hq => ?_)
          refine .step he hab hb ?_
          rw [Bool.and_eq_true]
          refine ⟨hq, ?_⟩
          cases hh : reach x y z (fun d => decide (d = c)) q e' with
          | false => rfl
          | true =>
            exfalso
            have hre' := reach_iff.1 hh
            have hqe : q e = true := by
              cases he with
              | base h1 h2 => rw [of_decide_eq_true h2]; exact hqa
              | step _ _ _ h4 => simp only [Bool.and_eq_true] at h4; exact h4.1
            have hrea : Reach x y z (fun d => decide (d = a)) q e := he.mono (fun u hu1 hu2 => .base hu1 hu2) fun u _ hu => by simp only [Bool.and_eq_true] at hu; exact hu.1
            have hce : Reach x y z (fun d => decide (d = c)) q e := .step hre' (by rw [apart_comm]; exact hab) he.inBox hqe
            have hea := (Reach.symm ha hqa hrea).1
            have := (reach_iff (c := a)).2 (hce.trans hea)
            rw [hna] at this; cases this
        · intro hr
          exact hr.mono (fun u hu1 hu2 => .base hu1 hu2) fun u _ hu => by simp only [Bool.and_eq_true] at hu; exact hu.1
      refine ⟨fun l hl => ?_, fun d hd hq => ?_⟩
      · rcases List.mem_cons.1 hl with rfl | hl
        · exact ⟨c, hcq.1, hcq.2, rfl⟩
        · obtain ⟨a, ha1, ha2, ha3⟩ := h1 l hl
          simp only [Bool.and_eq_true, Bool.not_eq_true'] at ha2
          exact ⟨a, ha1, ha2.1, by rw [ha3]; exact (pick_congr hS fun d _ => key a ha1 ha2.1 ha2.2 d).symm⟩
      · cases hh : reach x y z (fun d => decide (d = c)) q d with
        | true => exact ⟨_, List.mem_cons_self .., (mem_pick hS).2 ⟨hd, hh⟩⟩
        | false =>
          obtain ⟨l, hl1, hl2⟩ := h2 d hd (by simp only [hq, hh]; rfl)
          exact ⟨l, List.mem_cons_of_mem _ hl1, hl2⟩

/-- What stands of a set. -/
noncomputable def stand (x y z : Int) (q : Cell → Bool) : Cell → Bool := reach x y z (fun e => q e && decide (e.c = 0)) q
theorem stand_part {f : Nat} {q : Cell → Bool} (hf : (pick x y z q).length < f) {l : List Cell} (hl : l ∈ parts x y z f q) {d : Cell} (hd : d ∈ l) : d.inBox x y z ∧ q d = true ∧ (stand x y z q d = true ↔ ∃ e ∈ l, e.c = 0) := by
  obtain ⟨c, h1, h2, rfl⟩ := (parts_spec hS f q hf).1 l hl
  obtain ⟨hd1, hd2⟩ := (mem_pick hS).1 hd
  have hrd := reach_iff.1 hd2
  have hqd := (Reach.symm h1 h2 hrd)
  refine ⟨hd1, hqd.2, ?_⟩
  unfold stand
  rw [reach_iff]
  constructor
  · intro hr
    -- a floor cell that reaches d
    have : ∃ e, e.inBox x y z ∧ q e = true ∧ e.c = 0 ∧ Reach x y z (fun u => decide (u = e)) q d := by
      refine hr.ind (P := fun d => ∃ e, e.inBox x y z ∧ q e = true ∧ e.c = 0 ∧ Reach x y z (fun u => decide (u = e)) q d) (fun e he1 he2 => ?_) (fun a b ha hab hb hq => ?_)
      · simp only [Bool.and_eq_true, decide_eq_true_eq] at he2
        exact ⟨e, he1, he2.1, he2.2, .base he1 (by simp)⟩
      · obtain ⟨e, k1, k2, k3, k4⟩ := ha
        exact ⟨e, k1, k2, k3, .step k4 hab hb hq⟩
    obtain ⟨e, k1, k2, k3, k4⟩ := this
    exact ⟨e, (mem_pick hS).2 ⟨k1, reach_iff.2 (hrd.trans (Reach.symm k1 k2 k4).1)⟩, k3⟩
  · rintro ⟨e, he, he0⟩
    obtain ⟨he1, he2⟩ := (mem_pick hS).1 he
    have hre := reach_iff.1 he2
    have hqe := Reach.symm h1 h2 hre
    have : Reach x y z (fun u => decide (u = e)) q d := hqe.1.trans hrd
    exact this.mono (fun u hu1 hu2 => by rw [of_decide_eq_true hu2]; exact .base he1 (by simp [hqe.2, he0])) fun _ _ h => h
/-- The cells that stand, or those that hang. -/
noncomputable def parted (x y z : Int) (q : Cell → Bool) (hang : Bool) : Cell → Bool := fun d => q d && (stand x y z q d != hang)
end

def floorOf (l : List Cell) : Bool := l.any fun e => decide (e.c = 0)
/-- The cells of the first k lists, of those on the floor, or of the others. -/
def selK (L : List (List Cell)) (hang : Bool) (k : Nat) : Cell → Bool := fun d => (L.take k).any fun l => (floorOf l != hang) && decide (d ∈ l)
theorem selK_succ {L : List (List Cell)} {hang : Bool} {k : Nat} (hk : k < L.length) (d : Cell) : selK L hang (k + 1) d = (selK L hang k d || ((floorOf (L.getD k []) != hang) && decide (d ∈ L.getD k []))) := by
  unfold selK
  rw [List.take_succ, List.getElem?_eq_getElem hk, List.any_append]
  simp [hk]
theorem selK_all {x y z : Int} (hS : Sides x y z) {f : Nat} {q : Cell → Bool} {hang : Bool} (hf : (pick x y z q).length < f) {d : Cell} (hd : d.inBox x y z) :
    selK (parts x y z f q) hang (parts x y z f q).length d = parted x y z q hang d := by
  have hsp := parts_spec hS f q hf
  unfold selK parted
  rw [List.take_length, Bool.eq_iff_iff, List.any_eq_true]
  have hfl : ∀ l ∈ parts x y z f q, d ∈ l → q d = true ∧ stand x y z q d = floorOf l := fun l hl hdl => by
    obtain ⟨_, h2, h3⟩ := stand_part hS hf hl hdl
    refine ⟨h2, ?_⟩
    rw [Bool.eq_iff_iff, h3]
    unfold floorOf
    simp [List.any_eq_true]
  constructor
  · rintro ⟨l, hl, h⟩
    simp only [Bool.and_eq_true, decide_eq_true_eq] at h
    obtain ⟨h1, h2⟩ := hfl l hl h.2
    rw [h1, h2, h.1]; rfl
  · intro h
    simp only [Bool.and_eq_true] at h
    obtain ⟨l, hl, hdl⟩ := hsp.2 d hd h.1
    obtain ⟨h1, h2⟩ := hfl l hl hdl
    refine ⟨l, hl, ?_⟩
    rw [h2] at h
    simp only [Bool.and_eq_true, decide_eq_true_eq]
    exact ⟨h.2, hdl⟩
theorem floor_take {l : List Cell} {j : Nat} (h : j < l.length) : floorOf (l.take (j + 1)) = (floorOf (l.take j) || decide ((l.getD j default).c = 0)) := by
  unfold floorOf
  rw [List.take_succ, List.getElem?_eq_getElem h, List.any_append]
  simp [h]
theorem parts_len {x y z : Int} : ∀ (f : Nat) (q : Cell → Bool), (parts x y z f q).length ≤ f
  | 0, _ => by simp [parts]
  | f + 1, q => by
    cases h : pick x y z q with
    | nil => simp [parts, h]
    | cons c rs => simp only [parts, h, List.length_cons]; have := parts_len f (x := x) (y := y) (z := z) fun d => q d && !reach x y z (fun d => decide (d = c)) q d; omega
end Go.Ab

/- Contracts: what is enclosed; the program's FillCavities. -/
namespace Go.Ab
open Go
set_option linter.unusedSimpArgs false
set_option linter.unusedVariables false

/-- What is outside: reached from the rim, by way of cells without cubes. -/
noncomputable def outer (x y z : Int) (p : Cell → Bool) : Cell → Bool := reach x y z (fun c => !p c && onRim x y z c) fun c => !p c
noncomputable def closed (x y z : Int) (p : Cell → Bool) (c : Cell) : Bool := !p c && !outer x y z p c
noncomputable def fillOf (x y z : Int) (cs : List Cell) : Option Hp := by
  classical
  exact if HeapOK x y z cs then some ⟨x, y, z, pick x y z fun c => decide (c ∈ cs) || closed x y z (fun c => decide (c ∈ cs)) c⟩ else none
theorem fillOf_len {x y z : Int} {cs : List Cell} : ((fillOf x y z cs).getD Hp.none).cs.length ≤ 1000000000 := by
  unfold fillOf
  split
  · rename_i h
    have := pick_len h.1 (fun c => decide (c ∈ cs) || closed x y z (fun c => decide (c ∈ cs)) c)
    simp only [Option.getD_some]; omega
  · simp [Hp.none]

theorem g_enclosed_1 {x y z : Int} {c : Cell} {t : Nat} {M : Mem} (hS : Sides x y z) (hb : Live M t (.row [.I x, .I y, .I z] true 0)) (hc : c.inBox x y z) :
    CallsTo PG F.impl_Heap_enclosed_1 [.agg [.I c.a, .I c.b, .I c.c], .ptr t 0] M (.B (onRim x y z c)) M := by
  refine calls_run K.impl_Heap_enclosed_1 rfl ?_
  simp (disch := omega) only [C.impl_Heap_enclosed_1, hb.app.cells, ↓SXd, SXu, slBounds, ↓sop, ↓aop, ↓reduceIte, LV.cells, AOp.dst, LV.I, LV.B, LV.U, LV.S, LV.nil, Nat.reduceEqDiff, Nat.reduceAdd, Nat.reduceMul, Nat.reduceSub, Nat.reduceLeDiff, Nat.reduceBEq, Nat.reduceDiv, Nat.reduceMod, Int.reduceToNat, Int.reduceLT, Int.reduceLE, Int.reduceAdd, Int.reduceSub, Int.reduceMul, Int.reduceEq, Int.reduceNeg, reduceCtorEq, resV, resAll, ARes.ev, LV.flat, ite_true, ite_false, exists_eq_left', exists_eq_left, keyOf, implies_true, fillC, capOf]
  refine callK_of (g_nearSet hS hc) ?_
  simp (disch := omega) only [↓SXd, SXu, slBounds, ↓sop, ↓aop, ↓reduceIte, LV.cells, AOp.dst, LV.I, LV.B, LV.U, LV.S, LV.nil, Nat.reduceEqDiff, Nat.reduceAdd, Nat.reduceMul, Nat.reduceSub, Nat.reduceLeDiff, Nat.reduceBEq, Nat.reduceDiv, Nat.reduceMod, Int.reduceToNat, Int.reduceLT, Int.reduceLE, Int.reduceAdd, Int.reduceSub, Int.reduceMul, Int.reduceEq, Int.reduceNeg, reduceCtorEq, resV, resAll, ARes.ev, LV.flat, ite_true, ite_false, exists_eq_left', exists_eq_left, keyOf, implies_true, fillC, capOf]
  refine callK_of (g_count) ?_
  simp (disch := omega) only [↓SXd, SXu, slBounds, ↓sop, ↓aop, ↓reduceIte, LV.cells, AOp.dst, LV.I, LV.B, LV.U, LV.S, LV.nil, Nat.reduceEqDiff, Nat.reduceAdd, Nat.reduceMul, Nat.reduceSub, Nat.reduceLeDiff, Nat.reduceBEq, Nat.reduceDiv, Nat.reduceMod, Int.reduceToNat, Int.reduceLT, Int.reduceLE, Int.reduceAdd, Int.reduceSub, Int.reduceMul, Int.reduceEq, Int.reduceNeg, reduceCtorEq, resV, resAll, ARes.ev, LV.flat, ite_true, ite_false, exists_eq_left', exists_eq_left, keyOf, implies_true, fillC, capOf]
  have h := rim_count hS hc
  rw [h]
  exact cmp_drop rfl

theorem g_enclosed {x y z : Int} {t o : Nat} {cs : List Cell} {M : Mem} (h : Tri M t o cs) (hn : cs.length ≤ 1000000000) (hH : HeapOK x y z cs) :
    CallsTo PG F.impl_Heap_enclosed [.agg [.I x, .I y, .I z, .ref t o cs.length]] M (.W (bs x y z (closed x y z fun c => decide (c ∈ cs)))) M := by
  have hS := hH.1
  have hv := vol_cast hS
  refine calls_run K.impl_Heap_enclosed rfl ?_
  simp (disch := omega) only [C.impl_Heap_enclosed, ↓SXd, SXu, slBounds, ↓sop, ↓aop, ↓reduceIte, LV.cells, AOp.dst, LV.I, LV.B, LV.U, LV.S, LV.nil, Nat.reduceEqDiff, Nat.reduceAdd, Nat.reduceMul, Nat.reduceSub, Nat.reduceLeDiff, Nat.reduceBEq, Nat.reduceDiv, Nat.reduceMod, Int.reduceToNat, Int.reduceLT, Int.reduceLE, Int.reduceAdd, Int.reduceSub, Int.reduceMul, Int.reduceEq, Int.reduceNeg, reduceCtorEq, resV, resAll, ARes.ev, LV.flat, ite_true, ite_false, exists_eq_left', exists_eq_left, keyOf, implies_true, fillC, capOf]
  refine callK_of (g_box) ?_
  simp (disch := omega) only [↓SXd, SXu, slBounds, ↓sop, ↓aop, ↓reduceIte, LV.cells, AOp.dst, LV.I, LV.B, LV.U, LV.S, LV.nil, Nat.reduceEqDiff, Nat.reduceAdd, Nat.reduceMul, Nat.reduceSub, Nat.reduceLeDiff, Nat.reduceBEq, Nat.reduceDiv, Nat.reduceMod, Int.reduceToNat, Int.reduceLT, Int.reduceLE, Int.reduceAdd, Int.reduceSub, Int.reduceMul, Int.reduceEq, Int.reduceNeg, reduceCtorEq, resV, resAll, ARes.ev, LV.flat, ite_true, ite_false, exists_eq_left', exists_eq_left, keyOf, implies_true, fillC, capOf]
  refine callK_of (g_full hS) ?_
  simp (disch := omega) only [↓SXd, SXu, slBounds, ↓sop, ↓aop, ↓reduceIte, LV.cells, AOp.dst, LV.I, LV.B, LV.U, LV.S, LV.nil, Nat.reduceEqDiff, Nat.reduceAdd, Nat.reduceMul, Nat.reduceSub, Nat.reduceLeDiff, Nat.reduceBEq, Nat.reduceDiv, Nat.reduceMod, Int.reduceToNat, Int.reduceLT, Int.reduceLE, Int.reduceAdd, Int.reduceSub, Int.reduceMul, Int.reduceEq, Int.reduceNeg, reduceCtorEq, resV, resAll, ARes.ev, LV.flat, ite_true, ite_false, exists_eq_left', exists_eq_left, keyOf, implies_true, fillC, capOf]
  refine callK_of (g_cubes h.app hn hS (fun c hc => hH.mem hc)) ?_
  simp (disch := omega) only [↓SXd, SXu, slBounds, ↓sop, ↓aop, ↓reduceIte, LV.cells, AOp.dst, LV.I, LV.B, LV.U, LV.S, LV.nil, Nat.reduceEqDiff, Nat.reduceAdd, Nat.reduceMul, Nat.reduceSub, Nat.reduceLeDiff, Nat.reduceBEq, Nat.reduceDiv, Nat.reduceMod, Int.reduceToNat, Int.reduceLT, Int.reduceLE, Int.reduceAdd, Int.reduceSub, Int.reduceMul, Int.reduceEq, Int.reduceNeg, reduceCtorEq, resV, resAll, ARes.ev, LV.flat, ite_true, ite_false, exists_eq_left', exists_eq_left, keyOf, implies_true, fillC, capOf]
  rw [bs_diff hS]
  refine callK_of (g_those hS (p := onRim x y z) (f := F.impl_Heap_enclosed_1) (caps := [(M.length + 1, 0)]) fun M' hp i hi => ?_) ?_
  · exact g_enclosed_1 hS ((Live.newj rfl).pre hp) (cellAt_in hS (by omega) (by omega)).1
  simp (disch := omega) only [↓SXd, SXu, slBounds, ↓sop, ↓aop, ↓reduceIte, LV.cells, AOp.dst, LV.I, LV.B, LV.U, LV.S, LV.nil, Nat.reduceEqDiff, Nat.reduceAdd, Nat.reduceMul, Nat.reduceSub, Nat.reduceLeDiff, Nat.reduceBEq, Nat.reduceDiv, Nat.reduceMod, Int.reduceToNat, Int.reduceLT, Int.reduceLE, Int.reduceAdd, Int.reduceSub, Int.reduceMul, Int.reduceEq, Int.reduceNeg, reduceCtorEq, resV, resAll, ARes.ev, LV.flat, ite_true, ite_false, exists_eq_left', exists_eq_left, keyOf, implies_true, fillC, capOf]
  rw [bs_and hS]
  refine callK_of (g_grown hS) ?_
  simp (disch := omega) only [↓SXd, SXu, slBounds, ↓sop, ↓aop, ↓reduceIte, LV.cells, AOp.dst, LV.I, LV.B, LV.U, LV.S, LV.nil, Nat.reduceEqDiff, Nat.reduceAdd, Nat.reduceMul, Nat.reduceSub, Nat.reduceLeDiff, Nat.reduceBEq, Nat.reduceDiv, Nat.reduceMod, Int.reduceToNat, Int.reduceLT, Int.reduceLE, Int.reduceAdd, Int.reduceSub, Int.reduceMul, Int.reduceEq, Int.reduceNeg, reduceCtorEq, resV, resAll, ARes.ev, LV.flat, ite_true, ite_false, exists_eq_left', exists_eq_left, keyOf, implies_true, fillC, capOf]
  rw [bs_diff hS]
  rw [show bs x y z (closed x y z fun c => decide (c ∈ cs)) = _ from (bs_eq hS).2 fun c _ => by unfold closed outer; rfl]
  simp only [Bool.true_and]
  exact cmp_pre (Pre.app _ _) rfl

theorem g_FillCavities {x y z : Int} {t : Nat} {w : Bool} {cs : List Cell} {M : Mem} (h0 : Live M t (.row (triL cs) w 3)) (hn : cs.length ≤ 1000000000) :
    CallsR PG F.impl_FillCavities [.agg [.I x, .I y, .I z, .ref t 0 cs.length]] M (HeapRes M (fillOf x y z cs) []) := by
  have h : Tri M t 0 cs := h0.has
  refine callsR_run K.impl_FillCavities rfl ?_
  simp (disch := omega) only [C.impl_FillCavities, ↓SXd, SXu, slBounds, ↓sop, ↓aop, ↓reduceIte, LV.cells, AOp.dst, LV.I, LV.B, LV.U, LV.S, LV.nil, Nat.reduceEqDiff, Nat.reduceAdd, Nat.reduceMul, Nat.reduceSub, Nat.reduceLeDiff, Nat.reduceBEq, Nat.reduceDiv, Nat.reduceMod, Int.reduceToNat, Int.reduceLT, Int.reduceLE, Int.reduceAdd, Int.reduceSub, Int.reduceMul, Int.reduceEq, Int.reduceNeg, reduceCtorEq, resV, resAll, ARes.ev, LV.flat, ite_true, ite_false, exists_eq_left', exists_eq_left, keyOf, implies_true, fillC, capOf]
  refine callK_of (g_IsHeap h.app hn) ?_
  simp (disch := omega) only [↓SXd, SXu, slBounds, ↓sop, ↓aop, ↓reduceIte, LV.cells, AOp.dst, LV.I, LV.B, LV.U, LV.S, LV.nil, Nat.reduceEqDiff, Nat.reduceAdd, Nat.reduceMul, Nat.reduceSub, Nat.reduceLeDiff, Nat.reduceBEq, Nat.reduceDiv, Nat.reduceMod, Int.reduceToNat, Int.reduceLT, Int.reduceLE, Int.reduceAdd, Int.reduceSub, Int.reduceMul, Int.reduceEq, Int.reduceNeg, reduceCtorEq, resV, resAll, ARes.ev, LV.flat, ite_true, ite_false, exists_eq_left', exists_eq_left, keyOf, implies_true, fillC, capOf]
  unfold fillOf
  by_cases hH : HeapOK x y z cs
  · have hS := hH.1
    rw [if_pos hH]
    simp (disch := omega) only [hH, ↓SXd, SXu, slBounds, ↓sop, ↓aop, ↓reduceIte, LV.cells, AOp.dst, LV.I, LV.B, LV.U, LV.S, LV.nil, Nat.reduceEqDiff, Nat.reduceAdd, Nat.reduceMul, Nat.reduceSub, Nat.reduceLeDiff, Nat.reduceBEq, Nat.reduceDiv, Nat.reduceMod, Int.reduceToNat, Int.reduceLT, Int.reduceLE, Int.reduceAdd, Int.reduceSub, Int.reduceMul, Int.reduceEq, Int.reduceNeg, reduceCtorEq, resV, resAll, ARes.ev, LV.flat, ite_true, ite_false, exists_eq_left', exists_eq_left, keyOf, implies_true, fillC, capOf]
    refine callK_of (g_box) ?_
    simp (disch := omega) only [↓SXd, SXu, slBounds, ↓sop, ↓aop, ↓reduceIte, LV.cells, AOp.dst, LV.I, LV.B, LV.U, LV.S, LV.nil, Nat.reduceEqDiff, Nat.reduceAdd, Nat.reduceMul, Nat.reduceSub, Nat.reduceLeDiff, Nat.reduceBEq, Nat.reduceDiv, Nat.reduceMod, Int.reduceToNat, Int.reduceLT, Int.reduceLE, Int.reduceAdd, Int.reduceSub, Int.reduceMul, Int.reduceEq, Int.reduceNeg, reduceCtorEq, resV, resAll, ARes.ev, LV.flat, ite_true, ite_false, exists_eq_left', exists_eq_left, keyOf, implies_true, fillC, capOf]
    refine callK_of (g_cubes h.app hn hS (fun c hc => hH.mem hc)) ?_
    simp (disch := omega) only [↓SXd, SXu, slBounds, ↓sop, ↓aop, ↓reduceIte, LV.cells, AOp.dst, LV.I, LV.B, LV.U, LV.S, LV.nil, Nat.reduceEqDiff, Nat.reduceAdd, Nat.reduceMul, Nat.reduceSub, Nat.reduceLeDiff, Nat.reduceBEq, Nat.reduceDiv, Nat.reduceMod, Int.reduceToNat, Int.reduceLT, Int.reduceLE, Int.reduceAdd, Int.reduceSub, Int.reduceMul, Int.reduceEq, Int.reduceNeg, reduceCtorEq, resV, resAll, ARes.ev, LV.flat, ite_true, ite_false, exists_eq_left', exists_eq_left, keyOf, implies_true, fillC, capOf]
    refine callK_of (g_enclosed h.app hn hH) ?_
    simp (disch := omega) only [↓SXd, SXu, slBounds, ↓sop, ↓aop, ↓reduceIte, LV.cells, AOp.dst, LV.I, LV.B, LV.U, LV.S, LV.nil, Nat.reduceEqDiff, Nat.reduceAdd, Nat.reduceMul, Nat.reduceSub, Nat.reduceLeDiff, Nat.reduceBEq, Nat.reduceDiv, Nat.reduceMod, Int.reduceToNat, Int.reduceLT, Int.reduceLE, Int.reduceAdd, Int.reduceSub, Int.reduceMul, Int.reduceEq, Int.reduceNeg, reduceCtorEq, resV, resAll, ARes.ev, LV.flat, ite_true, ite_false, exists_eq_left', exists_eq_left, keyOf, implies_true, fillC, capOf]
    rw [bs_or hS]
    refine callH_of (g_heap hS) ?_
    intro tn N2 htn hp2 hnr
    simp (disch := omega) only [↓SXd, SXu, slBounds, ↓sop, ↓aop, ↓reduceIte, LV.cells, AOp.dst, LV.I, LV.B, LV.U, LV.S, LV.nil, Nat.reduceEqDiff, Nat.reduceAdd, Nat.reduceMul, Nat.reduceSub, Nat.reduceLeDiff, Nat.reduceBEq, Nat.reduceDiv, Nat.reduceMod, Int.reduceToNat, Int.reduceLT, Int.reduceLE, Int.reduceAdd, Int.reduceSub, Int.reduceMul, Int.reduceEq, Int.reduceNeg, reduceCtorEq, resV, resAll, ARes.ev, LV.flat, ite_true, ite_false, exists_eq_left', exists_eq_left, keyOf, implies_true, fillC, capOf]
    refine memK_box ((Live.newj (j := 1) rfl).pre hp2) (by simp) fun N3 k1 k2 k3 => ?_
    have hN2 := hp2.1
    simp (disch := omega) only [k2.cells, ↓SXd, SXu, slBounds, ↓sop, ↓aop, ↓reduceIte, LV.cells, AOp.dst, LV.I, LV.B, LV.U, LV.S, LV.nil, Nat.reduceEqDiff, Nat.reduceAdd, Nat.reduceMul, Nat.reduceSub, Nat.reduceLeDiff, Nat.reduceBEq, Nat.reduceDiv, Nat.reduceMod, Int.reduceToNat, Int.reduceLT, Int.reduceLE, Int.reduceAdd, Int.reduceSub, Int.reduceMul, Int.reduceEq, Int.reduceNeg, reduceCtorEq, resV, resAll, ARes.ev, LV.flat, ite_true, ite_false, exists_eq_left', exists_eq_left, keyOf, implies_true, fillC, capOf]
    simp only [List.length_append, List.length_cons, List.length_nil] at htn
    exact ⟨_, rfl, SlC.of (live_step hnr (by omega) k3), Newer.of (by omega), pre_step ((Pre.app _ _).trans hp2) (by omega) (j := 0) k1 k3⟩
  · rw [if_neg hH]
    simp (disch := omega) only [hH, fillC, splice, ↓SXd, SXu, slBounds, ↓sop, ↓aop, ↓reduceIte, LV.cells, AOp.dst, LV.I, LV.B, LV.U, LV.S, LV.nil, Nat.reduceEqDiff, Nat.reduceAdd, Nat.reduceMul, Nat.reduceSub, Nat.reduceLeDiff, Nat.reduceBEq, Nat.reduceDiv, Nat.reduceMod, Int.reduceToNat, Int.reduceLT, Int.reduceLE, Int.reduceAdd, Int.reduceSub, Int.reduceMul, Int.reduceEq, Int.reduceNeg, reduceCtorEq, resV, resAll, ARes.ev, LV.flat, ite_true, ite_false, exists_eq_left', exists_eq_left, keyOf, implies_true, fillC, capOf]
    exact ⟨_, rfl, SlC.nil, Newer.nil, Pre.app _ _⟩
end Go.Ab

/- Plain words: a search from beyond the box. -/
namespace Go.Ab

theorem getD_get {α : Type} {l : List α} {i : Nat} {d : α} (h : i < l.length) : l.getD i d = l[i] := by simp [h]
def ExtC (x y z : Int) (c : Cell) : Prop := (-1 ≤ c.a ∧ c.a ≤ x) ∧ (-1 ≤ c.b ∧ c.b ≤ y) ∧ (-1 ≤ c.c ∧ c.c ≤ z)
theorem Cell.inBox.ext {x y z : Int} {c : Cell} (h : c.inBox x y z) : ExtC x y z c := by
  obtain ⟨⟨_, _⟩, ⟨_, _⟩, ⟨_, _⟩⟩ := h
  exact ⟨⟨by omega, by omega⟩, ⟨by omega, by omega⟩, ⟨by omega, by omega⟩⟩
/-- What comes before a place. -/
def Bef (c : Cell) (i j k : Int) : Prop := c.a < i ∨ (c.a = i ∧ (c.b < j ∨ (c.b = j ∧ c.c < k)))
structure Mgn (x y z i j k : Int) (l : List Cell) : Prop where
  mem : ∀ c ∈ l, ExtC x y z c ∧ ¬ c.inBox x y z
  all : ∀ c, ExtC x y z c → ¬ c.inBox x y z → Bef c i j k → c ∈ l
  len : (l.length : Int) ≤ (i + 1) * 36 + (j + 1) * 6 + (k + 1)
theorem Mgn.nil {x y z : Int} : Mgn x y z (-1) (-1) (-1) [] := by
  refine ⟨by simp, fun c ⟨⟨_, _⟩, ⟨_, _⟩, ⟨_, _⟩⟩ _ hb => ?_, by simp⟩
  unfold Bef at hb
  omega
theorem Mgn.out {x y z i j k : Int} {l : List Cell} (h : Mgn x y z i j k l) (hk : k < 6) (hc : ExtC x y z ⟨i, j, k⟩) (ho : ¬ Cell.inBox x y z ⟨i, j, k⟩) : Mgn x y z i j (k + 1) (l ++ [⟨i, j, k⟩]) := by
  refine ⟨fun c hm => ?_, fun c h1 h2 h3 => ?_, ?_⟩
  · rcases List.mem_append.1 hm with hm | hm
    · exact h.mem c hm
    · rw [List.mem_singleton.1 hm]; exact ⟨hc, ho⟩
  · rw [List.mem_append, List.mem_singleton, cell_eq]
    unfold Bef at h3
    by_cases hb : Bef c i j k
    · exact .inl (h.all c h1 h2 hb)
    · right; unfold Bef at hb; simp only; omega
  · have := h.len; rw [List.length_append, List.length_singleton]; omega
theorem Mgn.in {x y z i j k : Int} {l : List Cell} (h : Mgn x y z i j k l) (ho : Cell.inBox x y z ⟨i, j, k⟩) : Mgn x y z i j (k + 1) l := by
  refine ⟨h.mem, fun c h1 h2 h3 => ?_, by have := h.len; omega⟩
  unfold Bef at h3
  by_cases hb : Bef c i j k
  · exact h.all c h1 h2 hb
  · unfold Bef at hb
    exact absurd (by rw [show c = ⟨i, j, k⟩ from cell_eq.2 (by simp only; omega)]; exact ho) h2
theorem Mgn.row {x y z i j k : Int} {l : List Cell} (h : Mgn x y z i j k l) (hk : z < k) (hz : k ≤ 5) : Mgn x y z i (j + 1) (-1) l := by
  refine ⟨h.mem, fun c h1 h2 h3 => h.all c h1 h2 ?_, by have := h.len; omega⟩
  obtain ⟨_, _, _, _⟩ := h1
  unfold Bef at h3 ⊢
  omega
theorem Mgn.plane {x y z i j : Int} {l : List Cell} (h : Mgn x y z i j (-1) l) (hk : y < j) (hz : j ≤ 5) : Mgn x y z (i + 1) (-1) (-1) l := by
  refine ⟨h.mem, fun c h1 h2 h3 => h.all c h1 h2 ?_, by have := h.len; omega⟩
  obtain ⟨_, ⟨_, _⟩, _, _⟩ := h1
  unfold Bef at h3 ⊢
  omega

structure Out (x y z : Int) (p : Cell → Bool) (n k : Nat) (mg r : List Cell) : Prop where
  base : ∀ c, ExtC x y z c → ¬ c.inBox x y z → c ∈ mg
  mgm : ∀ c ∈ mg, ExtC x y z c ∧ ¬ c.inBox x y z
  nodup : r.Nodup
  mem : ∀ d ∈ r, d.inBox x y z ∧ p d = false ∧ outer x y z p d = true
  done : ∀ i, i < n → i < (mg ++ r).length → ∀ e, e.inBox x y z → p e = false → apart ((mg ++ r).getD i default) e = 1 → e ∈ r
  part : ∀ j, j < k → ((nbrs ((mg ++ r).getD n default)).getD j default).inBox x y z → p ((nbrs ((mg ++ r).getD n default)).getD j default) = false → (nbrs ((mg ++ r).getD n default)).getD j default ∈ r

section
variable {x y z : Int} {p : Cell → Bool} {n k : Nat} {mg r : List Cell}
theorem Out.skip (h : Out x y z p n k mg r) (hs : ¬ ((((nbrs ((mg ++ r).getD n default)).getD k default).inBox x y z ∧ p ((nbrs ((mg ++ r).getD n default)).getD k default) = false) ∧ (nbrs ((mg ++ r).getD n default)).getD k default ∉ r)) : Out x y z p n (k + 1) mg r :=
  ⟨h.base, h.mgm, h.nodup, h.mem, h.done, fun j hj h1 h2 => by
    rcases Nat.lt_or_ge j k with h3 | h3
    · exact h.part j h3 h1 h2
    · rw [show j = k by omega] at h1 h2 ⊢
      exact Classical.byContradiction fun h4 => hs ⟨⟨h1, h2⟩, h4⟩⟩
theorem Out.add (h : Out x y z p n k mg r) (hk : k < 6) (hn : n < (mg ++ r).length) {e : Cell} (he : (nbrs ((mg ++ r).getD n default)).getD k default = e) (h1 : e.inBox x y z) (h2 : p e = false) (h3 : e ∉ r) : Out x y z p n (k + 1) mg (r ++ [e]) := by
  have hg : ∀ {j}, j < (mg ++ r).length → (mg ++ (r ++ [e])).getD j default = (mg ++ r).getD j default := fun {j} hj => by
    rw [← List.append_assoc]
    simp only [List.getD_eq_getElem?_getD]; rw [List.getElem?_append_left hj]
  have hap : apart ((mg ++ r).getD n default) e = 1 := mem_nbrs.1 (by rw [← he]; exact getD_mem' (by simpa [nbrs] using hk))
  have hout : outer x y z p e = true := by
    unfold outer
    rw [reach_iff]
    rcases List.mem_append.1 (getD_mem' (d := default) hn) with hm | hm
    · refine .base h1 ?_
      have := h.mgm _ hm
      rw [h2, (onRim_iff h1).2 ⟨_, by rw [apart_comm]; exact hap, this.2⟩]; rfl
    · have := (h.mem _ hm).2.2
      unfold outer at this
      rw [reach_iff] at this
      exact .step this hap h1 (by rw [h2]; rfl)
  refine ⟨h.base, h.mgm, ?_, fun d hd => ?_, fun i hi hil d hd hpd ha => ?_, fun j hj hb hpb => ?_⟩
  · rw [List.nodup_append]
    exact ⟨h.nodup, by simp, fun a ha b hb e' => by rw [List.mem_singleton.1 hb] at e'; subst e'; exact h3 ha⟩
  · rcases List.mem_append.1 hd with hd | hd
    · exact h.mem d hd
    · rw [List.mem_singleton.1 hd]; exact ⟨h1, h2, hout⟩
  · rw [hg (by omega)] at ha
    exact List.mem_append.2 (.inl (h.done i hi (by omega) d hd hpd ha))
  · rw [hg hn] at hb hpb ⊢
    rcases Nat.lt_or_ge j k with h5 | h5
    · exact List.mem_append.2 (.inl (h.part j h5 hb hpb))
    · rw [show j = k by omega, he]; simp
theorem Out.next (h : Out x y z p n 6 mg r) : Out x y z p (n + 1) 0 mg r := by
  refine ⟨h.base, h.mgm, h.nodup, h.mem, fun i hi hil d hd hpd ha => ?_, by omega⟩
  rcases Nat.lt_or_ge i n with h1 | h1
  · exact h.done i h1 hil d hd hpd ha
  · rw [show i = n by omega] at ha
    have hm := mem_nbrs.2 ha
    obtain ⟨j, hj, rfl⟩ := List.getElem_of_mem hm
    have hj6 : j < 6 := by simpa [nbrs] using hj
    rw [← getD_get (d := default) hj] at hd hpd ⊢
    exact h.part j hj6 hd hpd
theorem Out.final (h : Out x y z p n k mg r) (hn : (mg ++ r).length ≤ n) {d : Cell} (hd : d.inBox x y z) : d ∈ r ↔ outer x y z p d = true := by
  refine ⟨fun hm => (h.mem d hm).2.2, fun ho => ?_⟩
  have key : ∀ c e, c ∈ mg ++ r → e.inBox x y z → p e = false → apart c e = 1 → e ∈ r := fun c e hc he hpe ha => by
    obtain ⟨i, hi, rfl⟩ := List.getElem_of_mem hc
    exact h.done i (by omega) hi e he hpe (by rw [getD_get hi]; exact ha)
  unfold outer at ho
  rw [reach_iff] at ho
  refine ho.ind (P := fun d => d ∈ r) (fun c hc hp => ?_) fun c e hc ha he hq => ?_
  · simp only [Bool.and_eq_true, Bool.not_eq_true'] at hp
    obtain ⟨e, h1, h2⟩ := (onRim_iff hc).1 hp.2
    refine key e c (List.mem_append.2 (.inl (h.base e ?_ h2))) hc hp.1 (by rw [apart_comm]; exact h1)
    obtain ⟨⟨_, _⟩, ⟨_, _⟩, ⟨_, _⟩⟩ := hc
    unfold apart at h1
    exact ⟨⟨by omega, by omega⟩, ⟨by omega, by omega⟩, ⟨by omega, by omega⟩⟩
  · exact key c e (List.mem_append.2 (.inr hc)) he (by simpa using hq) ha
end
end Go.Ab

/- Contracts: the reference's search from beyond the box. -/
namespace Go.Ab
open Go
set_option linter.unusedSimpArgs false
set_option linter.unusedVariables false

theorem h_l6Steps {M : Mem} : CallsTo PG F.spec_l6Steps [] M (.agg [.I (-1), .I 0, .I 0, .I 1, .I 0, .I 0, .I 0, .I (-1), .I 0, .I 0, .I 1, .I 0, .I 0, .I 0, .I (-1), .I 0, .I 0, .I 1]) M := by
  refine calls_run K.spec_l6Steps rfl ?_
  simp (disch := omega) only [C.spec_l6Steps, splice, ↓SXd, SXu, slBounds, ↓sop, ↓aop, ↓reduceIte, LV.cells, AOp.dst, LV.I, LV.B, LV.U, LV.S, LV.nil, Nat.reduceEqDiff, Nat.reduceAdd, Nat.reduceMul, Nat.reduceSub, Nat.reduceLeDiff, Nat.reduceBEq, Nat.reduceDiv, Nat.reduceMod, Int.reduceToNat, Int.reduceLT, Int.reduceLE, Int.reduceAdd, Int.reduceSub, Int.reduceMul, Int.reduceEq, Int.reduceNeg, reduceCtorEq, resV, resAll, ARes.ev, LV.flat, ite_true, ite_false, exists_eq_left', exists_eq_left, keyOf, implies_true, fillC, capOf]
  exact cmp_drop rfl
theorem h_l6Beside {a b c d e f : Int} {M : Mem} (h : (-100 ≤ a ∧ a ≤ 100) ∧ (-100 ≤ b ∧ b ≤ 100) ∧ (-100 ≤ c ∧ c ≤ 100) ∧ (-100 ≤ d ∧ d ≤ 100) ∧ (-100 ≤ e ∧ e ≤ 100) ∧ (-100 ≤ f ∧ f ≤ 100)) :
    CallsTo PG F.spec_l6Beside [.agg [.I a, .I b, .I c], .agg [.I d, .I e, .I f]] M (.agg [.I (a + d), .I (b + e), .I (c + f)]) M := by
  obtain ⟨⟨_, _⟩, ⟨_, _⟩, ⟨_, _⟩, ⟨_, _⟩, ⟨_, _⟩, ⟨_, _⟩⟩ := h
  refine calls_run K.spec_l6Beside rfl ?_
  simp (disch := omega) only [C.spec_l6Beside, splice, ↓SXd, SXu, slBounds, ↓sop, ↓aop, ↓reduceIte, LV.cells, AOp.dst, LV.I, LV.B, LV.U, LV.S, LV.nil, Nat.reduceEqDiff, Nat.reduceAdd, Nat.reduceMul, Nat.reduceSub, Nat.reduceLeDiff, Nat.reduceBEq, Nat.reduceDiv, Nat.reduceMod, Int.reduceToNat, Int.reduceLT, Int.reduceLE, Int.reduceAdd, Int.reduceSub, Int.reduceMul, Int.reduceEq, Int.reduceNeg, reduceCtorEq, resV, resAll, ARes.ev, LV.flat, ite_true, ite_false, exists_eq_left', exists_eq_left, keyOf, implies_true, fillC, capOf]
  exact cmp_drop rfl

def steps : List Cell := [⟨-1, 0, 0⟩, ⟨1, 0, 0⟩, ⟨0, -1, 0⟩, ⟨0, 1, 0⟩, ⟨0, 0, -1⟩, ⟨0, 0, 1⟩]
theorem steps_nbrs {c : Cell} {k : Nat} (hk : k < 6) : (nbrs c).getD k default = ⟨c.a + (steps.getD k default).a, c.b + (steps.getD k default).b, c.c + (steps.getD k default).c⟩ := by
  rcases (show k = 0 ∨ k = 1 ∨ k = 2 ∨ k = 3 ∨ k = 4 ∨ k = 5 by omega) with rfl | rfl | rfl | rfl | rfl | rfl <;> simp [nbrs, steps]
theorem steps_le {k : Nat} (hk : k < 6) : (-1 ≤ (steps.getD k default).a ∧ (steps.getD k default).a ≤ 1) ∧ (-1 ≤ (steps.getD k default).b ∧ (steps.getD k default).b ≤ 1) ∧ (-1 ≤ (steps.getD k default).c ∧ (steps.getD k default).c ≤ 1) := by
  rcases (show k = 0 ∨ k = 1 ∨ k = 2 ∨ k = 3 ∨ k = 4 ∨ k = 5 by omega) with rfl | rfl | rfl | rfl | rfl | rfl <;> simp [steps]
theorem Live.step {N : Mem} {t k : Nat} (h : Live N t (.row (triL steps) true 0)) (hk : k < 6) : getCells N t (k * 3) 3 = some (steps.getD k default).row := by
  have := Tri.get (cs := steps) (o := 0) h.has (k := k) hk
  rwa [Nat.zero_add] at this

theorem h_l6Enclosed {x y z : Int} {t : Nat} {w : Bool} {cs : List Cell} {M : Mem} (h : Live M t (.row (triL cs) w 3)) (hH : HeapOK x y z cs) :
    CallsTo PG F.spec_l6Enclosed [.agg [.I x, .I y, .I z, .ref t 0 cs.length]] M (.ref M.length 0 (pick x y z (closed x y z fun c => decide (c ∈ cs))).length) (M ++ [some (.row (triL (pick x y z (closed x y z fun c => decide (c ∈ cs)))) true 3)]) := by
  have hS := hH.1
  have hn : cs.length ≤ 1000000000 := by have := hH.len; omega
  obtain ⟨⟨hx0, hx⟩, ⟨hy0, hy⟩, ⟨hz0, hz⟩⟩ := id hS
  have ht := h.lt
  refine calls_run K.spec_l6Enclosed rfl ?_
  simp (disch := omega) only [C.spec_l6Enclosed, ↓SXd, SXu, slBounds, ↓sop, ↓aop, ↓reduceIte, LV.cells, AOp.dst, LV.I, LV.B, LV.U, LV.S, LV.nil, Nat.reduceEqDiff, Nat.reduceAdd, Nat.reduceMul, Nat.reduceSub, Nat.reduceLeDiff, Nat.reduceBEq, Nat.reduceDiv, Nat.reduceMod, Int.reduceToNat, Int.reduceLT, Int.reduceLE, Int.reduceAdd, Int.reduceSub, Int.reduceMul, Int.reduceEq, Int.reduceNeg, reduceCtorEq, resV, resAll, ARes.ev, LV.flat, ite_true, ite_false, exists_eq_left', exists_eq_left, keyOf, implies_true, fillC, capOf]
  refine callK_of (h_l2Empty) ?_
  simp (disch := omega) only [↓SXd, SXu, slBounds, ↓sop, ↓aop, ↓reduceIte, LV.cells, AOp.dst, LV.I, LV.B, LV.U, LV.S, LV.nil, Nat.reduceEqDiff, Nat.reduceAdd, Nat.reduceMul, Nat.reduceSub, Nat.reduceLeDiff, Nat.reduceBEq, Nat.reduceDiv, Nat.reduceMod, Int.reduceToNat, Int.reduceLT, Int.reduceLE, Int.reduceAdd, Int.reduceSub, Int.reduceMul, Int.reduceEq, Int.reduceNeg, reduceCtorEq, resV, resAll, ARes.ev, LV.flat, ite_true, ite_false, exists_eq_left', exists_eq_left, keyOf, implies_true, fillC, capOf]
  refine callK_of (h_l6Steps) ?_
  simp (disch := omega) only [splice, ↓SXd, SXu, slBounds, ↓sop, ↓aop, ↓reduceIte, LV.cells, AOp.dst, LV.I, LV.B, LV.U, LV.S, LV.nil, Nat.reduceEqDiff, Nat.reduceAdd, Nat.reduceMul, Nat.reduceSub, Nat.reduceLeDiff, Nat.reduceBEq, Nat.reduceDiv, Nat.reduceMod, Int.reduceToNat, Int.reduceLT, Int.reduceLE, Int.reduceAdd, Int.reduceSub, Int.reduceMul, Int.reduceEq, Int.reduceNeg, reduceCtorEq, resV, resAll, ARes.ev, LV.flat, ite_true, ite_false, exists_eq_left', exists_eq_left, keyOf, implies_true, fillC, capOf]
  refine ev_loop (fun m fr N => ∃ (i : Int) (u : Nat) (l : List Cell), i + m = x + 1 ∧ -1 ≤ i ∧ Mgn x y z i (-1) (-1) l ∧ Pre M N ∧ Live N M.length (.row [.I x, .I y, .I z, .ref t 0 cs.length] true 0) ∧
    Live N (M.length + 1) (.row [] true 3) ∧ Live N (M.length + 2) (.row [.I x, .I y, .I z, .ref (M.length + 1) 0 0] true 0) ∧ 
    Live N (M.length + 4) (.row (triL steps) true 0) ∧ Live N u (.row (triL l) true 3) ∧ (u = M.length + 3 ∨ M.length + 4 < u) ∧
    fr 1 = .ptr M.length 0 ∧ fr 3 = .ptr (M.length + 2) 0 ∧ fr 4 = .ref u 0 l.length ∧ fr 5 = .ptr (M.length + 4) 0 ∧ fr 6 = .I i) (x + 2).toNat
    ⟨-1, M.length + 3, [], by omega, by omega, Mgn.nil, Pre.app _ _, Live.new, Live.newj rfl, Live.newj rfl, Live.newj rfl, Live.newj rfl, .inl rfl, rfl, rfl, rfl, rfl, rfl⟩ ?_
  rintro m fr N ⟨i, u, l, hi, hi1, hm, hpre, b1, b1', b3, b5, bu, hu, f1, f3, f4, f5, f6⟩
  simp (disch := omega) only [f1, f3, f4, f5, f6, b1.cell, ↓SXd, SXu, slBounds, ↓sop, ↓aop, ↓reduceIte, LV.cells, AOp.dst, LV.I, LV.B, LV.U, LV.S, LV.nil, Nat.reduceEqDiff, Nat.reduceAdd, Nat.reduceMul, Nat.reduceSub, Nat.reduceLeDiff, Nat.reduceBEq, Nat.reduceDiv, Nat.reduceMod, Int.reduceToNat, Int.reduceLT, Int.reduceLE, Int.reduceAdd, Int.reduceSub, Int.reduceMul, Int.reduceEq, Int.reduceNeg, reduceCtorEq, resV, resAll, ARes.ev, LV.flat, ite_true, ite_false, exists_eq_left', exists_eq_left, keyOf, implies_true, fillC, capOf]
  refine condC_dec (fun hlt => ?_) (fun hlt => ?_)
  · simp (disch := omega) only [f1, f3, f4, f5, f6, ↓SXd, SXu, slBounds, ↓sop, ↓aop, ↓reduceIte, LV.cells, AOp.dst, LV.I, LV.B, LV.U, LV.S, LV.nil, Nat.reduceEqDiff, Nat.reduceAdd, Nat.reduceMul, Nat.reduceSub, Nat.reduceLeDiff, Nat.reduceBEq, Nat.reduceDiv, Nat.reduceMod, Int.reduceToNat, Int.reduceLT, Int.reduceLE, Int.reduceAdd, Int.reduceSub, Int.reduceMul, Int.reduceEq, Int.reduceNeg, reduceCtorEq, resV, resAll, ARes.ev, LV.flat, ite_true, ite_false, exists_eq_left', exists_eq_left, keyOf, implies_true, fillC, capOf]
    refine ev_loop (fun m2 fr N => ∃ (j : Int) (u : Nat) (l : List Cell), j + m2 = y + 1 ∧ -1 ≤ j ∧ Mgn x y z i j (-1) l ∧ Pre M N ∧ Live N M.length (.row [.I x, .I y, .I z, .ref t 0 cs.length] true 0) ∧
      Live N (M.length + 1) (.row [] true 3) ∧ Live N (M.length + 2) (.row [.I x, .I y, .I z, .ref (M.length + 1) 0 0] true 0) ∧ 
      Live N (M.length + 4) (.row (triL steps) true 0) ∧ Live N u (.row (triL l) true 3) ∧ (u = M.length + 3 ∨ M.length + 4 < u) ∧
      fr 1 = .ptr M.length 0 ∧ fr 3 = .ptr (M.length + 2) 0 ∧ fr 4 = .ref u 0 l.length ∧ fr 5 = .ptr (M.length + 4) 0 ∧ fr 6 = .I i ∧ fr 7 = .I j) (y + 2).toNat
      ⟨-1, u, l, by omega, by omega, hm, hpre, b1, b1', b3, b5, bu, hu, f1, f3, f4, f5, f6, rfl⟩ ?_
    clear f1 f3 f4 f5 f6 hpre b1 b1' b3 b5 bu hu hm
    rintro m2 fr N ⟨j, u, l, hj, hj1, hm, hpre, b1, b1', b3, b5, bu, hu, f1, f3, f4, f5, f6, f7⟩
    simp (disch := omega) only [f1, f3, f4, f5, f6, f7, b1.cell, ↓SXd, SXu, slBounds, ↓sop, ↓aop, ↓reduceIte, LV.cells, AOp.dst, LV.I, LV.B, LV.U, LV.S, LV.nil, Nat.reduceEqDiff, Nat.reduceAdd, Nat.reduceMul, Nat.reduceSub, Nat.reduceLeDiff, Nat.reduceBEq, Nat.reduceDiv, Nat.reduceMod, Int.reduceToNat, Int.reduceLT, Int.reduceLE, Int.reduceAdd, Int.reduceSub, Int.reduceMul, Int.reduceEq, Int.reduceNeg, reduceCtorEq, resV, resAll, ARes.ev, LV.flat, ite_true, ite_false, exists_eq_left', exists_eq_left, keyOf, implies_true, fillC, capOf]
    refine condC_dec (fun hlt2 => ?_) (fun hlt2 => ?_)
    · simp (disch := omega) only [f1, f3, f4, f5, f6, f7, ↓SXd, SXu, slBounds, ↓sop, ↓aop, ↓reduceIte, LV.cells, AOp.dst, LV.I, LV.B, LV.U, LV.S, LV.nil, Nat.reduceEqDiff, Nat.reduceAdd, Nat.reduceMul, Nat.reduceSub, Nat.reduceLeDiff, Nat.reduceBEq, Nat.reduceDiv, Nat.reduceMod, Int.reduceToNat, Int.reduceLT, Int.reduceLE, Int.reduceAdd, Int.reduceSub, Int.reduceMul, Int.reduceEq, Int.reduceNeg, reduceCtorEq, resV, resAll, ARes.ev, LV.flat, ite_true, ite_false, exists_eq_left', exists_eq_left, keyOf, implies_true, fillC, capOf]
      refine ev_loop (fun m3 fr N => ∃ (k : Int) (u : Nat) (l : List Cell), k + m3 = z + 1 ∧ -1 ≤ k ∧ Mgn x y z i j k l ∧ Pre M N ∧ Live N M.length (.row [.I x, .I y, .I z, .ref t 0 cs.length] true 0) ∧
        Live N (M.length + 1) (.row [] true 3) ∧ Live N (M.length + 2) (.row [.I x, .I y, .I z, .ref (M.length + 1) 0 0] true 0) ∧ 
        Live N (M.length + 4) (.row (triL steps) true 0) ∧ Live N u (.row (triL l) true 3) ∧ (u = M.length + 3 ∨ M.length + 4 < u) ∧
        fr 1 = .ptr M.length 0 ∧ fr 3 = .ptr (M.length + 2) 0 ∧ fr 4 = .ref u 0 l.length ∧ fr 5 = .ptr (M.length + 4) 0 ∧ fr 6 = .I i ∧ fr 7 = .I j ∧ fr 8 = .I k) (z + 2).toNat
        ⟨-1, u, l, by omega, by omega, hm, hpre, b1, b1', b3, b5, bu, hu, f1, f3, f4, f5, f6, f7, rfl⟩ ?_
      clear f1 f3 f4 f5 f6 f7 hpre b1 b1' b3 b5 bu hu hm
      rintro m3 fr N ⟨k, u, l, hk, hk1, hm, hpre, b1, b1', b3, b5, bu, hu, f1, f3, f4, f5, f6, f7, f8⟩
      simp (disch := omega) only [f1, f3, f4, f5, f6, f7, f8, b1.cell, ↓SXd, SXu, slBounds, ↓sop, ↓aop, ↓reduceIte, LV.cells, AOp.dst, LV.I, LV.B, LV.U, LV.S, LV.nil, Nat.reduceEqDiff, Nat.reduceAdd, Nat.reduceMul, Nat.reduceSub, Nat.reduceLeDiff, Nat.reduceBEq, Nat.reduceDiv, Nat.reduceMod, Int.reduceToNat, Int.reduceLT, Int.reduceLE, Int.reduceAdd, Int.reduceSub, Int.reduceMul, Int.reduceEq, Int.reduceNeg, reduceCtorEq, resV, resAll, ARes.ev, LV.flat, ite_true, ite_false, exists_eq_left', exists_eq_left, keyOf, implies_true, fillC, capOf]
      refine condC_dec (fun hlt3 => ?_) (fun hlt3 => ?_)
      · simp (disch := omega) only [f1, f3, f4, f5, f6, f7, f8, b1.cells, splice, ↓SXd, SXu, slBounds, ↓sop, ↓aop, ↓reduceIte, LV.cells, AOp.dst, LV.I, LV.B, LV.U, LV.S, LV.nil, Nat.reduceEqDiff, Nat.reduceAdd, Nat.reduceMul, Nat.reduceSub, Nat.reduceLeDiff, Nat.reduceBEq, Nat.reduceDiv, Nat.reduceMod, Int.reduceToNat, Int.reduceLT, Int.reduceLE, Int.reduceAdd, Int.reduceSub, Int.reduceMul, Int.reduceEq, Int.reduceNeg, reduceCtorEq, resV, resAll, ARes.ev, LV.flat, ite_true, ite_false, exists_eq_left', exists_eq_left, keyOf, implies_true, fillC, capOf]
        refine callK_of (h_l2In hS) ?_
        simp (disch := omega) only [f1, f3, f4, f5, f6, f7, f8, ↓SXd, SXu, slBounds, ↓sop, ↓aop, ↓reduceIte, LV.cells, AOp.dst, LV.I, LV.B, LV.U, LV.S, LV.nil, Nat.reduceEqDiff, Nat.reduceAdd, Nat.reduceMul, Nat.reduceSub, Nat.reduceLeDiff, Nat.reduceBEq, Nat.reduceDiv, Nat.reduceMod, Int.reduceToNat, Int.reduceLT, Int.reduceLE, Int.reduceAdd, Int.reduceSub, Int.reduceMul, Int.reduceEq, Int.reduceNeg, reduceCtorEq, resV, resAll, ARes.ev, LV.flat, ite_true, ite_false, exists_eq_left', exists_eq_left, keyOf, implies_true, fillC, capOf]
        refine condC_dec (fun hin => ?_) (fun hin => ?_)
        · simp (disch := omega) only [f1, f3, f4, f5, f6, f7, f8, splice, ↓SXd, SXu, slBounds, ↓sop, ↓aop, ↓reduceIte, LV.cells, AOp.dst, LV.I, LV.B, LV.U, LV.S, LV.nil, Nat.reduceEqDiff, Nat.reduceAdd, Nat.reduceMul, Nat.reduceSub, Nat.reduceLeDiff, Nat.reduceBEq, Nat.reduceDiv, Nat.reduceMod, Int.reduceToNat, Int.reduceLT, Int.reduceLE, Int.reduceAdd, Int.reduceSub, Int.reduceMul, Int.reduceEq, Int.reduceNeg, reduceCtorEq, resV, resAll, ARes.ev, LV.flat, ite_true, ite_false, exists_eq_left', exists_eq_left, keyOf, implies_true, fillC, capOf]
          exact ⟨m3 - 1, by omega, k + 1, u, l, by omega, by omega, hm.in hin, hpre, b1, b1', b3, b5, bu, hu, f1, f3, f4, f5, f6, f7, rfl⟩
        · simp (disch := omega) only [f1, f3, f4, f5, f6, f7, f8, splice, ↓SXd, SXu, slBounds, ↓sop, ↓aop, ↓reduceIte, LV.cells, AOp.dst, LV.I, LV.B, LV.U, LV.S, LV.nil, Nat.reduceEqDiff, Nat.reduceAdd, Nat.reduceMul, Nat.reduceSub, Nat.reduceLeDiff, Nat.reduceBEq, Nat.reduceDiv, Nat.reduceMod, Int.reduceToNat, Int.reduceLT, Int.reduceLE, Int.reduceAdd, Int.reduceSub, Int.reduceMul, Int.reduceEq, Int.reduceNeg, reduceCtorEq, resV, resAll, ARes.ev, LV.flat, ite_true, ite_false, exists_eq_left', exists_eq_left, keyOf, implies_true, fillC, capOf]
          have hml := hm.len
          refine appendK_cell bu (by omega) fun N' l1 l2 l3 => ?_
          have hb5 := b5.lt
          simp (disch := omega) only [f1, f3, f4, f5, f6, f7, f8, splice, ↓SXd, SXu, slBounds, ↓sop, ↓aop, ↓reduceIte, LV.cells, AOp.dst, LV.I, LV.B, LV.U, LV.S, LV.nil, Nat.reduceEqDiff, Nat.reduceAdd, Nat.reduceMul, Nat.reduceSub, Nat.reduceLeDiff, Nat.reduceBEq, Nat.reduceDiv, Nat.reduceMod, Int.reduceToNat, Int.reduceLT, Int.reduceLE, Int.reduceAdd, Int.reduceSub, Int.reduceMul, Int.reduceEq, Int.reduceNeg, reduceCtorEq, resV, resAll, ARes.ev, LV.flat, ite_true, ite_false, exists_eq_left', exists_eq_left, keyOf, implies_true, fillC, capOf]
          exact ⟨m3 - 1, by omega, k + 1, _, l ++ [⟨i, j, k⟩], by omega, by omega, hm.out (by omega) ⟨⟨by simp only; omega, by simp only; omega⟩, ⟨by simp only; omega, by simp only; omega⟩, ⟨by simp only; omega, by simp only; omega⟩⟩ hin,
            pre_step hpre (by omega) l1 l3, live_step b1 (by omega) l3, live_step b1' (by omega) l3, live_step b3 (by omega) l3, live_step b5 (by omega) l3, l2, by omega, f1, f3, rfl, f5, f6, f7, rfl⟩
      · simp (disch := omega) only [f1, f3, f4, f5, f6, f7, f8, ↓SXd, SXu, slBounds, ↓sop, ↓aop, ↓reduceIte, LV.cells, AOp.dst, LV.I, LV.B, LV.U, LV.S, LV.nil, Nat.reduceEqDiff, Nat.reduceAdd, Nat.reduceMul, Nat.reduceSub, Nat.reduceLeDiff, Nat.reduceBEq, Nat.reduceDiv, Nat.reduceMod, Int.reduceToNat, Int.reduceLT, Int.reduceLE, Int.reduceAdd, Int.reduceSub, Int.reduceMul, Int.reduceEq, Int.reduceNeg, reduceCtorEq, resV, resAll, ARes.ev, LV.flat, ite_true, ite_false, exists_eq_left', exists_eq_left, keyOf, implies_true, fillC, capOf]
        have : k = z + 1 := by omega
        exact ⟨m2 - 1, by omega, j + 1, u, l, by omega, by omega, hm.row (by omega) (by omega), hpre, b1, b1', b3, b5, bu, hu, f1, f3, f4, f5, f6, rfl⟩
    · simp (disch := omega) only [f1, f3, f4, f5, f6, f7, ↓SXd, SXu, slBounds, ↓sop, ↓aop, ↓reduceIte, LV.cells, AOp.dst, LV.I, LV.B, LV.U, LV.S, LV.nil, Nat.reduceEqDiff, Nat.reduceAdd, Nat.reduceMul, Nat.reduceSub, Nat.reduceLeDiff, Nat.reduceBEq, Nat.reduceDiv, Nat.reduceMod, Int.reduceToNat, Int.reduceLT, Int.reduceLE, Int.reduceAdd, Int.reduceSub, Int.reduceMul, Int.reduceEq, Int.reduceNeg, reduceCtorEq, resV, resAll, ARes.ev, LV.flat, ite_true, ite_false, exists_eq_left', exists_eq_left, keyOf, implies_true, fillC, capOf]
      exact ⟨m - 1, by omega, i + 1, u, l, by omega, by omega, hm.plane (by omega) (by omega), hpre, b1, b1', b3, b5, bu, hu, f1, f3, f4, f5, rfl⟩
  · simp (disch := omega) only [f1, f3, f4, f5, f6, ↓SXd, SXu, slBounds, ↓sop, ↓aop, ↓reduceIte, LV.cells, AOp.dst, LV.I, LV.B, LV.U, LV.S, LV.nil, Nat.reduceEqDiff, Nat.reduceAdd, Nat.reduceMul, Nat.reduceSub, Nat.reduceLeDiff, Nat.reduceBEq, Nat.reduceDiv, Nat.reduceMod, Int.reduceToNat, Int.reduceLT, Int.reduceLE, Int.reduceAdd, Int.reduceSub, Int.reduceMul, Int.reduceEq, Int.reduceNeg, reduceCtorEq, resV, resAll, ARes.ev, LV.flat, ite_true, ite_false, exists_eq_left', exists_eq_left, keyOf, implies_true, fillC, capOf]
    have hix : i = x + 1 := by omega
    subst hix
    have hml := hm.len
    have hout : Out x y z (fun c => decide (c ∈ cs)) 0 0 l [] := ⟨fun c h1 h2 => hm.all c h1 h2 (by have := h1.1.2; unfold Bef; omega), hm.mem, by simp, by simp, by omega, by omega⟩
    refine ev_loop (fun m fr N => ∃ (n u s : Nat) (r : List Cell), n + m = 300 ∧ n ≤ (l ++ r).length ∧ Out x y z (fun c => decide (c ∈ cs)) n 0 l r ∧ Pre M N ∧ Live N M.length (.row [.I x, .I y, .I z, .ref t 0 cs.length] true 0) ∧
      Live N s (.row (triL (pick x y z fun d => decide (d ∈ r))) true 3) ∧ Live N (M.length + 2) (.row [.I x, .I y, .I z, .ref s 0 (pick x y z fun d => decide (d ∈ r)).length] true 0) ∧ 
      Live N (M.length + 4) (.row (triL steps) true 0) ∧ Live N u (.row (triL (l ++ r)) true 3) ∧ u ≠ s ∧ M.length < u ∧ M.length < s ∧
      fr 1 = .ptr M.length 0 ∧ fr 3 = .ptr (M.length + 2) 0 ∧ fr 4 = .ref u 0 (l ++ r).length ∧ fr 5 = .ptr (M.length + 4) 0 ∧ fr 9 = .I n) 300
      ⟨0, u, M.length + 1, [], rfl, by omega, hout, hpre, b1, ?_, ?_, b5, by rw [List.append_nil]; exact bu, by omega, by omega, by omega, f1, f3, by rw [List.append_nil]; exact f4, f5, rfl⟩ ?_
    · rw [show pick x y z (fun d => decide (d ∈ ([] : List Cell))) = [] by unfold pick; rw [List.filter_eq_nil_iff]; simp]; exact b1'
    · rw [show pick x y z (fun d => decide (d ∈ ([] : List Cell))) = [] by unfold pick; rw [List.filter_eq_nil_iff]; simp]; exact b3
    clear f1 f3 f4 f5 f6 hpre b1 b1' b3 b5 bu hu hm hout
    rintro m fr N ⟨n, u, s, r, hnm, hnl, hout, hpre, b1, bs, b3, b5, bu, hus, hu, hs, f1, f3, f4, f5, f9⟩
    have hrl := nodup_len hS hout.nodup fun d hd => (hout.mem d hd).1
    have hll : (l ++ r).length = l.length + r.length := List.length_append
    simp (disch := omega) only [f1, f3, f4, f5, f9, ↓SXd, SXu, slBounds, ↓sop, ↓aop, ↓reduceIte, LV.cells, AOp.dst, LV.I, LV.B, LV.U, LV.S, LV.nil, Nat.reduceEqDiff, Nat.reduceAdd, Nat.reduceMul, Nat.reduceSub, Nat.reduceLeDiff, Nat.reduceBEq, Nat.reduceDiv, Nat.reduceMod, Int.reduceToNat, Int.reduceLT, Int.reduceLE, Int.reduceAdd, Int.reduceSub, Int.reduceMul, Int.reduceEq, Int.reduceNeg, reduceCtorEq, resV, resAll, ARes.ev, LV.flat, ite_true, ite_false, exists_eq_left', exists_eq_left, keyOf, implies_true, fillC, capOf]
    refine condC_dec (fun hlt2 => ?_) (fun hlt2 => ?_)
    · simp (disch := omega) only [f1, f3, f4, f5, f9, ↓SXd, SXu, slBounds, ↓sop, ↓aop, ↓reduceIte, LV.cells, AOp.dst, LV.I, LV.B, LV.U, LV.S, LV.nil, Nat.reduceEqDiff, Nat.reduceAdd, Nat.reduceMul, Nat.reduceSub, Nat.reduceLeDiff, Nat.reduceBEq, Nat.reduceDiv, Nat.reduceMod, Int.reduceToNat, Int.reduceLT, Int.reduceLE, Int.reduceAdd, Int.reduceSub, Int.reduceMul, Int.reduceEq, Int.reduceNeg, reduceCtorEq, resV, resAll, ARes.ev, LV.flat, ite_true, ite_false, exists_eq_left', exists_eq_left, keyOf, implies_true, fillC, capOf]
      have hnl' : n < (l ++ r).length := by omega
      refine ev_loop (fun m2 fr N => ∃ (k u s : Nat) (r : List Cell), k + m2 = 6 ∧ n < (l ++ r).length ∧ Out x y z (fun c => decide (c ∈ cs)) n k l r ∧ Pre M N ∧ Live N M.length (.row [.I x, .I y, .I z, .ref t 0 cs.length] true 0) ∧
        Live N s (.row (triL (pick x y z fun d => decide (d ∈ r))) true 3) ∧ Live N (M.length + 2) (.row [.I x, .I y, .I z, .ref s 0 (pick x y z fun d => decide (d ∈ r)).length] true 0) ∧ 
        Live N (M.length + 4) (.row (triL steps) true 0) ∧ Live N u (.row (triL (l ++ r)) true 3) ∧ u ≠ s ∧ M.length < u ∧ M.length < s ∧
        fr 1 = .ptr M.length 0 ∧ fr 3 = .ptr (M.length + 2) 0 ∧ fr 4 = .ref u 0 (l ++ r).length ∧ fr 5 = .ptr (M.length + 4) 0 ∧ fr 9 = .I n ∧ fr 10 = .I k) 6
        ⟨0, u, s, r, rfl, hnl', hout, hpre, b1, bs, b3, b5, bu, hus, hu, hs, f1, f3, f4, f5, f9, rfl⟩ ?_
      clear f1 f3 f4 f5 f9 hpre b1 bs b3 b5 bu hus hu hs hout hnl hrl hll hnl'
      rintro m2 fr N ⟨k, u, s, r, hk, hnl, hout, hpre, b1, bs, b3, b5, bu, hus, hu, hs, f1, f3, f4, f5, f9, f10⟩
      simp (disch := omega) only [f1, f3, f4, f5, f9, f10, ↓SXd, SXu, slBounds, ↓sop, ↓aop, ↓reduceIte, LV.cells, AOp.dst, LV.I, LV.B, LV.U, LV.S, LV.nil, Nat.reduceEqDiff, Nat.reduceAdd, Nat.reduceMul, Nat.reduceSub, Nat.reduceLeDiff, Nat.reduceBEq, Nat.reduceDiv, Nat.reduceMod, Int.reduceToNat, Int.reduceLT, Int.reduceLE, Int.reduceAdd, Int.reduceSub, Int.reduceMul, Int.reduceEq, Int.reduceNeg, reduceCtorEq, resV, resAll, ARes.ev, LV.flat, ite_true, ite_false, exists_eq_left', exists_eq_left, keyOf, implies_true, fillC, capOf]
      refine condC_dec (fun hlt3 => ?_) (fun hlt3 => ?_)
      · have hk6 : k < 6 := by omega
        have hc1 := bu.tri0 hnl
        have hst := steps_nbrs (c := (l ++ r).getD n default) hk6
        have hsl := steps_le hk6
        simp (disch := omega) only [f1, f3, f4, f5, f9, f10, hc1, (b5.step hk6), Cell.row, List.getElem?_append_left, ↓SXd, SXu, slBounds, ↓sop, ↓aop, ↓reduceIte, LV.cells, AOp.dst, LV.I, LV.B, LV.U, LV.S, LV.nil, Nat.reduceEqDiff, Nat.reduceAdd, Nat.reduceMul, Nat.reduceSub, Nat.reduceLeDiff, Nat.reduceBEq, Nat.reduceDiv, Nat.reduceMod, Int.reduceToNat, Int.reduceLT, Int.reduceLE, Int.reduceAdd, Int.reduceSub, Int.reduceMul, Int.reduceEq, Int.reduceNeg, reduceCtorEq, resV, resAll, ARes.ev, LV.flat, ite_true, ite_false, exists_eq_left', exists_eq_left, keyOf, implies_true, fillC, capOf]
        have hce : ExtC x y z ((l ++ r).getD n default) := by
          rcases List.mem_append.1 (getD_mem' (d := default) hnl) with hm | hm
          · exact (hout.mgm _ hm).1
          · exact (hout.mem _ hm).1.ext
        obtain ⟨⟨_, _⟩, ⟨_, _⟩, ⟨_, _⟩⟩ := id hce
        obtain ⟨⟨_, _⟩, ⟨_, _⟩, ⟨_, _⟩⟩ := id hsl
        refine callK_of (h_l6Beside ⟨⟨by omega, by omega⟩, ⟨by omega, by omega⟩, ⟨by omega, by omega⟩, ⟨by omega, by omega⟩, ⟨by omega, by omega⟩, ⟨by omega, by omega⟩⟩) ?_
        simp (disch := omega) only [f1, f3, f4, f5, f9, f10, splice, ↓SXd, SXu, slBounds, ↓sop, ↓aop, ↓reduceIte, LV.cells, AOp.dst, LV.I, LV.B, LV.U, LV.S, LV.nil, Nat.reduceEqDiff, Nat.reduceAdd, Nat.reduceMul, Nat.reduceSub, Nat.reduceLeDiff, Nat.reduceBEq, Nat.reduceDiv, Nat.reduceMod, Int.reduceToNat, Int.reduceLT, Int.reduceLE, Int.reduceAdd, Int.reduceSub, Int.reduceMul, Int.reduceEq, Int.reduceNeg, reduceCtorEq, resV, resAll, ARes.ev, LV.flat, ite_true, ite_false, exists_eq_left', exists_eq_left, keyOf, implies_true, fillC, capOf]
        generalize ((l ++ r).getD n default).a + (steps.getD k default).a = ea at hst ⊢
        generalize ((l ++ r).getD n default).b + (steps.getD k default).b = eb at hst ⊢
        generalize ((l ++ r).getD n default).c + (steps.getD k default).c = ec at hst ⊢
        have e0 : Live (N ++ [some (.row [.I ea, .I eb, .I ec] true 0)]) N.length (.row [.I ea, .I eb, .I ec] true 0) := Live.new
        have hpN : Pre N (N ++ [some (.row [.I ea, .I eb, .I ec] true 0)]) := Pre.app _ _
        generalize N ++ [some (.row [.I ea, .I eb, .I ec] true 0)] = N1 at e0 hpN ⊢
        have hNl := hpN.1
        have hlb5 := b5.lt
        have hlu := bu.lt
        have hls := bs.lt
        have c1 := b1.pre hpN
        have cs' := bs.pre hpN
        have c3 := b3.pre hpN
        have c5 := b5.pre hpN
        have cu := bu.pre hpN
        have hpre1 := hpre.trans hpN
        have hTri : Tri N1 t 0 cs := (h.pre hpre1).has
        have hrl := nodup_len hS hout.nodup fun d hd => (hout.mem d hd).1
        have hpl := pick_len hS fun d => decide (d ∈ r)
        have hll : (l ++ r).length = l.length + r.length := List.length_append
        have hmr : decide ((⟨ea, eb, ec⟩ : Cell) ∈ pick x y z fun d => decide (d ∈ r)) = decide ((⟨ea, eb, ec⟩ : Cell) ∈ r) := decide_eq_decide.2 ⟨fun h => by have := ((mem_pick hS).1 h).2; exact of_decide_eq_true this, fun h => (mem_pick hS).2 ⟨(hout.mem _ h).1, decide_eq_true h⟩⟩
        have hskip : ¬ ((Cell.inBox x y z ⟨ea, eb, ec⟩ ∧ (⟨ea, eb, ec⟩ : Cell) ∉ cs) ∧ (⟨ea, eb, ec⟩ : Cell) ∉ r) → Out x y z (fun c => decide (c ∈ cs)) n (k + 1) l r := fun hno => hout.skip (by rw [hst, decide_eq_false_iff_not]; exact hno)
        simp (disch := omega) only [f1, f3, f4, f5, f9, f10, c1.cells, e0.cells, ↓SXd, SXu, slBounds, ↓sop, ↓aop, ↓reduceIte, LV.cells, AOp.dst, LV.I, LV.B, LV.U, LV.S, LV.nil, Nat.reduceEqDiff, Nat.reduceAdd, Nat.reduceMul, Nat.reduceSub, Nat.reduceLeDiff, Nat.reduceBEq, Nat.reduceDiv, Nat.reduceMod, Int.reduceToNat, Int.reduceLT, Int.reduceLE, Int.reduceAdd, Int.reduceSub, Int.reduceMul, Int.reduceEq, Int.reduceNeg, reduceCtorEq, resV, resAll, ARes.ev, LV.flat, ite_true, ite_false, exists_eq_left', exists_eq_left, keyOf, implies_true, fillC, capOf]
        refine callK_of (h_l2In hS) ?_
        simp (disch := omega) only [f1, f3, f4, f5, f9, f10, ↓SXd, SXu, slBounds, ↓sop, ↓aop, ↓reduceIte, LV.cells, AOp.dst, LV.I, LV.B, LV.U, LV.S, LV.nil, Nat.reduceEqDiff, Nat.reduceAdd, Nat.reduceMul, Nat.reduceSub, Nat.reduceLeDiff, Nat.reduceBEq, Nat.reduceDiv, Nat.reduceMod, Int.reduceToNat, Int.reduceLT, Int.reduceLE, Int.reduceAdd, Int.reduceSub, Int.reduceMul, Int.reduceEq, Int.reduceNeg, reduceCtorEq, resV, resAll, ARes.ev, LV.flat, ite_true, ite_false, exists_eq_left', exists_eq_left, keyOf, implies_true, fillC, capOf]
        by_cases hin : Cell.inBox x y z ⟨ea, eb, ec⟩
        · simp (disch := omega) only [f1, f3, f4, f5, f9, f10, hin, c1.cells, e0.cells, ↓SXd, SXu, slBounds, ↓sop, ↓aop, ↓reduceIte, LV.cells, AOp.dst, LV.I, LV.B, LV.U, LV.S, LV.nil, Nat.reduceEqDiff, Nat.reduceAdd, Nat.reduceMul, Nat.reduceSub, Nat.reduceLeDiff, Nat.reduceBEq, Nat.reduceDiv, Nat.reduceMod, Int.reduceToNat, Int.reduceLT, Int.reduceLE, Int.reduceAdd, Int.reduceSub, Int.reduceMul, Int.reduceEq, Int.reduceNeg, reduceCtorEq, resV, resAll, ARes.ev, LV.flat, ite_true, ite_false, exists_eq_left', exists_eq_left, keyOf, implies_true, fillC, capOf]
          refine callK_of (h_l2Has hTri hn) ?_
          simp (disch := omega) only [f1, f3, f4, f5, f9, f10, ↓SXd, SXu, slBounds, ↓sop, ↓aop, ↓reduceIte, LV.cells, AOp.dst, LV.I, LV.B, LV.U, LV.S, LV.nil, Nat.reduceEqDiff, Nat.reduceAdd, Nat.reduceMul, Nat.reduceSub, Nat.reduceLeDiff, Nat.reduceBEq, Nat.reduceDiv, Nat.reduceMod, Int.reduceToNat, Int.reduceLT, Int.reduceLE, Int.reduceAdd, Int.reduceSub, Int.reduceMul, Int.reduceEq, Int.reduceNeg, reduceCtorEq, resV, resAll, ARes.ev, LV.flat, ite_true, ite_false, exists_eq_left', exists_eq_left, keyOf, implies_true, fillC, capOf]
          by_cases hcs : (⟨ea, eb, ec⟩ : Cell) ∈ cs
          · simp (disch := omega) only [f1, f3, f4, f5, f9, f10, hcs, ↓SXd, SXu, slBounds, ↓sop, ↓aop, ↓reduceIte, LV.cells, AOp.dst, LV.I, LV.B, LV.U, LV.S, LV.nil, Nat.reduceEqDiff, Nat.reduceAdd, Nat.reduceMul, Nat.reduceSub, Nat.reduceLeDiff, Nat.reduceBEq, Nat.reduceDiv, Nat.reduceMod, Int.reduceToNat, Int.reduceLT, Int.reduceLE, Int.reduceAdd, Int.reduceSub, Int.reduceMul, Int.reduceEq, Int.reduceNeg, reduceCtorEq, resV, resAll, ARes.ev, LV.flat, ite_true, ite_false, exists_eq_left', exists_eq_left, keyOf, implies_true, fillC, capOf]
            exact ⟨m2 - 1, by omega, k + 1, u, s, r, by omega, hnl, hskip (by simp [hcs]), hpre1, c1, cs', c3, c5, cu, hus, hu, hs, f1, f3, f4, f5, f9, eqI (natI _)⟩
          · simp (disch := omega) only [f1, f3, f4, f5, f9, f10, hcs, c3.cells, e0.cells, ↓SXd, SXu, slBounds, ↓sop, ↓aop, ↓reduceIte, LV.cells, AOp.dst, LV.I, LV.B, LV.U, LV.S, LV.nil, Nat.reduceEqDiff, Nat.reduceAdd, Nat.reduceMul, Nat.reduceSub, Nat.reduceLeDiff, Nat.reduceBEq, Nat.reduceDiv, Nat.reduceMod, Int.reduceToNat, Int.reduceLT, Int.reduceLE, Int.reduceAdd, Int.reduceSub, Int.reduceMul, Int.reduceEq, Int.reduceNeg, reduceCtorEq, resV, resAll, ARes.ev, LV.flat, ite_true, ite_false, exists_eq_left', exists_eq_left, keyOf, implies_true, fillC, capOf]
            refine callK_of (h_l2Has cs'.has (by omega)) ?_
            simp (disch := omega) only [f1, f3, f4, f5, f9, f10, ↓SXd, SXu, slBounds, ↓sop, ↓aop, ↓reduceIte, LV.cells, AOp.dst, LV.I, LV.B, LV.U, LV.S, LV.nil, Nat.reduceEqDiff, Nat.reduceAdd, Nat.reduceMul, Nat.reduceSub, Nat.reduceLeDiff, Nat.reduceBEq, Nat.reduceDiv, Nat.reduceMod, Int.reduceToNat, Int.reduceLT, Int.reduceLE, Int.reduceAdd, Int.reduceSub, Int.reduceMul, Int.reduceEq, Int.reduceNeg, reduceCtorEq, resV, resAll, ARes.ev, LV.flat, ite_true, ite_false, exists_eq_left', exists_eq_left, keyOf, implies_true, fillC, capOf]
            rw [hmr]
            by_cases hr : (⟨ea, eb, ec⟩ : Cell) ∈ r
            · simp (disch := omega) only [f1, f3, f4, f5, f9, f10, hr, ↓SXd, SXu, slBounds, ↓sop, ↓aop, ↓reduceIte, LV.cells, AOp.dst, LV.I, LV.B, LV.U, LV.S, LV.nil, Nat.reduceEqDiff, Nat.reduceAdd, Nat.reduceMul, Nat.reduceSub, Nat.reduceLeDiff, Nat.reduceBEq, Nat.reduceDiv, Nat.reduceMod, Int.reduceToNat, Int.reduceLT, Int.reduceLE, Int.reduceAdd, Int.reduceSub, Int.reduceMul, Int.reduceEq, Int.reduceNeg, reduceCtorEq, resV, resAll, ARes.ev, LV.flat, ite_true, ite_false, exists_eq_left', exists_eq_left, keyOf, implies_true, fillC, capOf]
              exact ⟨m2 - 1, by omega, k + 1, u, s, r, by omega, hnl, hskip (by simp [hr]), hpre1, c1, cs', c3, c5, cu, hus, hu, hs, f1, f3, f4, f5, f9, eqI (natI _)⟩
            · simp (disch := omega) only [f1, f3, f4, f5, f9, f10, hr, c3.cells, e0.cells, ↓SXd, SXu, slBounds, ↓sop, ↓aop, ↓reduceIte, LV.cells, AOp.dst, LV.I, LV.B, LV.U, LV.S, LV.nil, Nat.reduceEqDiff, Nat.reduceAdd, Nat.reduceMul, Nat.reduceSub, Nat.reduceLeDiff, Nat.reduceBEq, Nat.reduceDiv, Nat.reduceMod, Int.reduceToNat, Int.reduceLT, Int.reduceLE, Int.reduceAdd, Int.reduceSub, Int.reduceMul, Int.reduceEq, Int.reduceNeg, reduceCtorEq, resV, resAll, ARes.ev, LV.flat, ite_true, ite_false, exists_eq_left', exists_eq_left, keyOf, implies_true, fillC, capOf]
              refine callH_of (h_l2With (c := ⟨ea, eb, ec⟩) cs' (pick_ok hS _) hin) ?_
              intro sn N2 hsn hp2 hsr
              simp (disch := omega) only [f1, f3, f4, f5, f9, f10, ↓SXd, SXu, slBounds, ↓sop, ↓aop, ↓reduceIte, LV.cells, AOp.dst, LV.I, LV.B, LV.U, LV.S, LV.nil, Nat.reduceEqDiff, Nat.reduceAdd, Nat.reduceMul, Nat.reduceSub, Nat.reduceLeDiff, Nat.reduceBEq, Nat.reduceDiv, Nat.reduceMod, Int.reduceToNat, Int.reduceLT, Int.reduceLE, Int.reduceAdd, Int.reduceSub, Int.reduceMul, Int.reduceEq, Int.reduceNeg, reduceCtorEq, resV, resAll, ARes.ev, LV.flat, ite_true, ite_false, exists_eq_left', exists_eq_left, keyOf, implies_true, fillC, capOf]
              refine memK_box (c3.pre hp2) (by simp) fun N3 k1 k2 k3 => ?_
              have hN2 := hp2.1
              have hle0 := e0.lt
              have hlc5 := c5.lt
              have e3 := live_step (e0.pre hp2) (by omega) k3
              have d1 := live_step (c1.pre hp2) (by omega) k3
              have d5 := live_step (c5.pre hp2) (by omega) k3
              have du := live_step (cu.pre hp2) (cu.ne_esz c3 (by decide)) k3
              have ds := live_step hsr (by omega) k3
              have hlsn := hsr.lt
              have hu5 := cu.ne_esz c5 (by decide)
              have hu3 := cu.ne_esz c3 (by decide)
              have hpre3 := pre_step (hpre1.trans hp2) (by omega) (j := 0) k1 k3
              simp (disch := omega) only [f1, f3, f4, f5, f9, f10, e3.cells, splice, ↓SXd, SXu, slBounds, ↓sop, ↓aop, ↓reduceIte, LV.cells, AOp.dst, LV.I, LV.B, LV.U, LV.S, LV.nil, Nat.reduceEqDiff, Nat.reduceAdd, Nat.reduceMul, Nat.reduceSub, Nat.reduceLeDiff, Nat.reduceBEq, Nat.reduceDiv, Nat.reduceMod, Int.reduceToNat, Int.reduceLT, Int.reduceLE, Int.reduceAdd, Int.reduceSub, Int.reduceMul, Int.reduceEq, Int.reduceNeg, reduceCtorEq, resV, resAll, ARes.ev, LV.flat, ite_true, ite_false, exists_eq_left', exists_eq_left, keyOf, implies_true, fillC, capOf]
              refine appendK_cell du (by omega) fun N5 l1 l2 l3 => ?_
              simp (disch := omega) only [f1, f3, f4, f5, f9, f10, ↓SXd, SXu, slBounds, ↓sop, ↓aop, ↓reduceIte, LV.cells, AOp.dst, LV.I, LV.B, LV.U, LV.S, LV.nil, Nat.reduceEqDiff, Nat.reduceAdd, Nat.reduceMul, Nat.reduceSub, Nat.reduceLeDiff, Nat.reduceBEq, Nat.reduceDiv, Nat.reduceMod, Int.reduceToNat, Int.reduceLT, Int.reduceLE, Int.reduceAdd, Int.reduceSub, Int.reduceMul, Int.reduceEq, Int.reduceNeg, reduceCtorEq, resV, resAll, ARes.ev, LV.flat, ite_true, ite_false, exists_eq_left', exists_eq_left, keyOf, implies_true, fillC, capOf]
              have hpe : pick x y z (fun d => decide (d ∈ pick x y z fun d => decide (d ∈ r)) || decide (d = ⟨ea, eb, ec⟩)) = pick x y z fun d => decide (d ∈ r ++ [⟨ea, eb, ec⟩]) := pick_congr hS fun d hd => by
                rw [Bool.eq_iff_iff, Bool.or_eq_true, decide_eq_true_iff, decide_eq_true_iff, decide_eq_true_iff, mem_pick hS, decide_eq_true_iff, List.mem_append, List.mem_singleton]
                exact ⟨fun h => h.elim (fun h => .inl h.2) .inr, fun h => h.elim (fun h => .inl ⟨hd, h⟩) .inr⟩
              rw [hpe] at ds k2
              refine ⟨m2 - 1, by omega, k + 1, N3.length + 1, sn, r ++ [⟨ea, eb, ec⟩], by omega, by simp at hnl ⊢; omega, hout.add hk6 hnl hst hin (decide_eq_false hcs) hr, pre_step hpre3 (by omega) l1 l3, live_step d1 (by omega) l3, live_step ds (by omega) l3, live_step k2 (by omega) l3, live_step d5 (by omega) l3, by rw [← List.append_assoc]; exact l2, by omega, by omega, by omega, f1, f3, by rw [← List.append_assoc]; rfl, f5, f9, eqI (natI _)⟩
        · simp (disch := omega) only [f1, f3, f4, f5, f9, f10, hin, ↓SXd, SXu, slBounds, ↓sop, ↓aop, ↓reduceIte, LV.cells, AOp.dst, LV.I, LV.B, LV.U, LV.S, LV.nil, Nat.reduceEqDiff, Nat.reduceAdd, Nat.reduceMul, Nat.reduceSub, Nat.reduceLeDiff, Nat.reduceBEq, Nat.reduceDiv, Nat.reduceMod, Int.reduceToNat, Int.reduceLT, Int.reduceLE, Int.reduceAdd, Int.reduceSub, Int.reduceMul, Int.reduceEq, Int.reduceNeg, reduceCtorEq, resV, resAll, ARes.ev, LV.flat, ite_true, ite_false, exists_eq_left', exists_eq_left, keyOf, implies_true, fillC, capOf]
          exact ⟨m2 - 1, by omega, k + 1, u, s, r, by omega, hnl, hskip (by simp [hin]), hpre1, c1, cs', c3, c5, cu, hus, hu, hs, f1, f3, f4, f5, f9, eqI (natI _)⟩
      · simp (disch := omega) only [f1, f3, f4, f5, f9, f10, ↓SXd, SXu, slBounds, ↓sop, ↓aop, ↓reduceIte, LV.cells, AOp.dst, LV.I, LV.B, LV.U, LV.S, LV.nil, Nat.reduceEqDiff, Nat.reduceAdd, Nat.reduceMul, Nat.reduceSub, Nat.reduceLeDiff, Nat.reduceBEq, Nat.reduceDiv, Nat.reduceMod, Int.reduceToNat, Int.reduceLT, Int.reduceLE, Int.reduceAdd, Int.reduceSub, Int.reduceMul, Int.reduceEq, Int.reduceNeg, reduceCtorEq, resV, resAll, ARes.ev, LV.flat, ite_true, ite_false, exists_eq_left', exists_eq_left, keyOf, implies_true, fillC, capOf]
        have : k = 6 := by omega
        subst this
        have hrl := nodup_len hS hout.nodup fun d hd => (hout.mem d hd).1
        have hll : (l ++ r).length = l.length + r.length := List.length_append
        exact ⟨m - 1, by omega, n + 1, u, s, r, by omega, by omega, hout.next, hpre, b1, bs, b3, b5, bu, hus, hu, hs, f1, f3, f4, f5, eqI (natI _)⟩
    · have hfin := fun d hd => hout.final (d := d) (by omega) hd
      clear f4 f5 f9
      simp (disch := omega) only [f1, f3, b1.app.cells, ↓SXd, SXu, slBounds, ↓sop, ↓aop, ↓reduceIte, LV.cells, AOp.dst, LV.I, LV.B, LV.U, LV.S, LV.nil, Nat.reduceEqDiff, Nat.reduceAdd, Nat.reduceMul, Nat.reduceSub, Nat.reduceLeDiff, Nat.reduceBEq, Nat.reduceDiv, Nat.reduceMod, Int.reduceToNat, Int.reduceLT, Int.reduceLE, Int.reduceAdd, Int.reduceSub, Int.reduceMul, Int.reduceEq, Int.reduceNeg, reduceCtorEq, resV, resAll, ARes.ev, LV.flat, ite_true, ite_false, exists_eq_left', exists_eq_left, keyOf, implies_true, fillC, capOf]
      have hlN := b5.lt
      refine callN_of (h_l2All hS) ?_
      intro ta N2 hta hp2 har
      have hv := vol_cast hS
      have hcl : (cellsOf x y z).length = vol x y z := by simp [cellsOf]
      simp only [List.length_append, List.length_singleton] at hta
      have hN2 := hp2.1
      simp only [List.length_append, List.length_singleton] at hN2
      simp (disch := omega) only [f1, f3, ↓SXd, SXu, slBounds, ↓sop, ↓aop, ↓reduceIte, LV.cells, AOp.dst, LV.I, LV.B, LV.U, LV.S, LV.nil, Nat.reduceEqDiff, Nat.reduceAdd, Nat.reduceMul, Nat.reduceSub, Nat.reduceLeDiff, Nat.reduceBEq, Nat.reduceDiv, Nat.reduceMod, Int.reduceToNat, Int.reduceLT, Int.reduceLE, Int.reduceAdd, Int.reduceSub, Int.reduceMul, Int.reduceEq, Int.reduceNeg, reduceCtorEq, resV, resAll, ARes.ev, LV.flat, ite_true, ite_false, exists_eq_left', exists_eq_left, keyOf, implies_true, fillC, capOf]
      refine ev_loop (fun m fr N' => ∃ (i uo : Nat) (acc : List Cell), i + m = (cellsOf x y z).length ∧ acc = ((cellsOf x y z).take i).filter (closed x y z fun c => decide (c ∈ cs)) ∧ Pre M N' ∧ Live N' M.length (.row [.I x, .I y, .I z, .ref t 0 cs.length] true 0) ∧
        Live N' s (.row (triL (pick x y z fun d => decide (d ∈ r))) true 3) ∧ Live N' (M.length + 2) (.row [.I x, .I y, .I z, .ref s 0 (pick x y z fun d => decide (d ∈ r)).length] true 0) ∧
        Live N' ta (.row (triL (cellsOf x y z)) true 3) ∧ Live N' uo (.row (triL acc) true 3) ∧ uo ≠ ta ∧ uo ≠ s ∧ M.length ≤ uo ∧ ta < N'.length ∧ s < N'.length ∧
        fr 1 = .ptr M.length 0 ∧ fr 3 = .ptr (M.length + 2) 0 ∧ fr 12 = .ref uo 0 acc.length ∧ fr 13 = .ref ta 0 (cellsOf x y z).length ∧ fr 14 = .I i) (cellsOf x y z).length
        ⟨0, N.length, [], by omega, by simp, (hpre.trans (Pre.app _ _)).trans hp2, b1.app.pre hp2, bs.app.pre hp2, b3.app.pre hp2, har, Live.new.pre hp2, by omega, by have := bs.lt; omega, by omega, har.lt, by have := bs.lt; omega, f1, f3, rfl, rfl, rfl⟩ ?_
      clear f1 f3 hpre b1 bs b3 b5 bu har
      rintro m fr N' ⟨i, uo, acc, hi, hacc, hpre, b1, bs, b3, ba, bo, hne1, hne2, huo, hta', hs', f1, f3, f12, f13, f14⟩
      have hal : acc.length ≤ 64 := by
        have h1 := List.length_filter_le (closed x y z fun c => decide (c ∈ cs)) ((cellsOf x y z).take i)
        have h2 := List.length_take_le i (cellsOf x y z)
        rw [hacc]; omega
      simp (disch := omega) only [f1, f3, f12, f13, f14, ↓SXd, SXu, slBounds, ↓sop, ↓aop, ↓reduceIte, LV.cells, AOp.dst, LV.I, LV.B, LV.U, LV.S, LV.nil, Nat.reduceEqDiff, Nat.reduceAdd, Nat.reduceMul, Nat.reduceSub, Nat.reduceLeDiff, Nat.reduceBEq, Nat.reduceDiv, Nat.reduceMod, Int.reduceToNat, Int.reduceLT, Int.reduceLE, Int.reduceAdd, Int.reduceSub, Int.reduceMul, Int.reduceEq, Int.reduceNeg, reduceCtorEq, resV, resAll, ARes.ev, LV.flat, ite_true, ite_false, exists_eq_left', exists_eq_left, keyOf, implies_true, fillC, capOf]
      refine condC_dec (fun hlt => ?_) (fun hlt => ?_)
      · have hil : i < (cellsOf x y z).length := by omega
        have hcb := (mem_cellsOf hS).1 (getD_mem' (d := default) hil)
        have hci := ba.tri0 hil
        have hts : (cellsOf x y z).take (i + 1) = (cellsOf x y z).take i ++ [(cellsOf x y z).getD i default] := by
          rw [List.take_succ, List.getElem?_eq_getElem hil]; simp [hil]
        have hpl := pick_len hS fun d => decide (d ∈ r)
        have hTri : Tri N' t 0 cs := (h.pre hpre).has
        generalize (cellsOf x y z).getD i default = c at hcb hci hts
        have hmr : decide (c ∈ pick x y z fun d => decide (d ∈ r)) = outer x y z (fun c => decide (c ∈ cs)) c := by
          rw [Bool.eq_iff_iff, decide_eq_true_iff, mem_pick hS, decide_eq_true_iff, ← hfin c hcb]
          exact ⟨fun h => h.2, fun h => ⟨hcb, h⟩⟩
        have hstep : acc ++ (if closed x y z (fun c => decide (c ∈ cs)) c then [c] else []) = ((cellsOf x y z).take (i + 1)).filter (closed x y z fun c => decide (c ∈ cs)) := by
          rw [hts, List.filter_append, ← hacc, List.filter_cons, List.filter_nil]
        simp (disch := omega) only [f1, f3, f12, f13, f14, b1.cells, hci, Cell.row, ↓SXd, SXu, slBounds, ↓sop, ↓aop, ↓reduceIte, LV.cells, AOp.dst, LV.I, LV.B, LV.U, LV.S, LV.nil, Nat.reduceEqDiff, Nat.reduceAdd, Nat.reduceMul, Nat.reduceSub, Nat.reduceLeDiff, Nat.reduceBEq, Nat.reduceDiv, Nat.reduceMod, Int.reduceToNat, Int.reduceLT, Int.reduceLE, Int.reduceAdd, Int.reduceSub, Int.reduceMul, Int.reduceEq, Int.reduceNeg, reduceCtorEq, resV, resAll, ARes.ev, LV.flat, ite_true, ite_false, exists_eq_left', exists_eq_left, keyOf, implies_true, fillC, capOf]
        refine callK_of (h_l2Has hTri hn) ?_
        simp (disch := omega) only [f1, f3, f12, f13, f14, cell_eta, ↓SXd, SXu, slBounds, ↓sop, ↓aop, ↓reduceIte, LV.cells, AOp.dst, LV.I, LV.B, LV.U, LV.S, LV.nil, Nat.reduceEqDiff, Nat.reduceAdd, Nat.reduceMul, Nat.reduceSub, Nat.reduceLeDiff, Nat.reduceBEq, Nat.reduceDiv, Nat.reduceMod, Int.reduceToNat, Int.reduceLT, Int.reduceLE, Int.reduceAdd, Int.reduceSub, Int.reduceMul, Int.reduceEq, Int.reduceNeg, reduceCtorEq, resV, resAll, ARes.ev, LV.flat, ite_true, ite_false, exists_eq_left', exists_eq_left, keyOf, implies_true, fillC, capOf]
        by_cases hc : c ∈ cs
        · simp (disch := omega) only [f1, f3, f12, f13, f14, hc, ↓SXd, SXu, slBounds, ↓sop, ↓aop, ↓reduceIte, LV.cells, AOp.dst, LV.I, LV.B, LV.U, LV.S, LV.nil, Nat.reduceEqDiff, Nat.reduceAdd, Nat.reduceMul, Nat.reduceSub, Nat.reduceLeDiff, Nat.reduceBEq, Nat.reduceDiv, Nat.reduceMod, Int.reduceToNat, Int.reduceLT, Int.reduceLE, Int.reduceAdd, Int.reduceSub, Int.reduceMul, Int.reduceEq, Int.reduceNeg, reduceCtorEq, resV, resAll, ARes.ev, LV.flat, ite_true, ite_false, exists_eq_left', exists_eq_left, keyOf, implies_true, fillC, capOf]
          exact ⟨m - 1, by omega, i + 1, uo, acc, by omega, by rw [← hstep, if_neg (by unfold closed; simp [hc]), List.append_nil], hpre, b1, bs, b3, ba, bo, hne1, hne2, huo, hta', hs', f1, f3, f12, f13, eqI (natI _)⟩
        · simp (disch := omega) only [f1, f3, f12, f13, f14, hc, b3.cells, hci, Cell.row, ↓SXd, SXu, slBounds, ↓sop, ↓aop, ↓reduceIte, LV.cells, AOp.dst, LV.I, LV.B, LV.U, LV.S, LV.nil, Nat.reduceEqDiff, Nat.reduceAdd, Nat.reduceMul, Nat.reduceSub, Nat.reduceLeDiff, Nat.reduceBEq, Nat.reduceDiv, Nat.reduceMod, Int.reduceToNat, Int.reduceLT, Int.reduceLE, Int.reduceAdd, Int.reduceSub, Int.reduceMul, Int.reduceEq, Int.reduceNeg, reduceCtorEq, resV, resAll, ARes.ev, LV.flat, ite_true, ite_false, exists_eq_left', exists_eq_left, keyOf, implies_true, fillC, capOf]
          refine callK_of (h_l2Has bs.has (by omega)) ?_
          simp (disch := omega) only [f1, f3, f12, f13, f14, cell_eta, ↓SXd, SXu, slBounds, ↓sop, ↓aop, ↓reduceIte, LV.cells, AOp.dst, LV.I, LV.B, LV.U, LV.S, LV.nil, Nat.reduceEqDiff, Nat.reduceAdd, Nat.reduceMul, Nat.reduceSub, Nat.reduceLeDiff, Nat.reduceBEq, Nat.reduceDiv, Nat.reduceMod, Int.reduceToNat, Int.reduceLT, Int.reduceLE, Int.reduceAdd, Int.reduceSub, Int.reduceMul, Int.reduceEq, Int.reduceNeg, reduceCtorEq, resV, resAll, ARes.ev, LV.flat, ite_true, ite_false, exists_eq_left', exists_eq_left, keyOf, implies_true, fillC, capOf]
          rw [hmr]
          cases ho : outer x y z (fun c => decide (c ∈ cs)) c with
          | true =>
            simp (disch := omega) only [f1, f3, f12, f13, f14, ho, ↓SXd, SXu, slBounds, ↓sop, ↓aop, ↓reduceIte, LV.cells, AOp.dst, LV.I, LV.B, LV.U, LV.S, LV.nil, Nat.reduceEqDiff, Nat.reduceAdd, Nat.reduceMul, Nat.reduceSub, Nat.reduceLeDiff, Nat.reduceBEq, Nat.reduceDiv, Nat.reduceMod, Int.reduceToNat, Int.reduceLT, Int.reduceLE, Int.reduceAdd, Int.reduceSub, Int.reduceMul, Int.reduceEq, Int.reduceNeg, reduceCtorEq, resV, resAll, ARes.ev, LV.flat, ite_true, ite_false, exists_eq_left', exists_eq_left, keyOf, implies_true, fillC, capOf]
            exact ⟨m - 1, by omega, i + 1, uo, acc, by omega, by rw [← hstep, if_neg (by unfold closed; simp [ho]), List.append_nil], hpre, b1, bs, b3, ba, bo, hne1, hne2, huo, hta', hs', f1, f3, f12, f13, eqI (natI _)⟩
          | false =>
            simp (disch := omega) only [f1, f3, f12, f13, f14, ho, hci, Cell.row, splice, ↓SXd, SXu, slBounds, ↓sop, ↓aop, ↓reduceIte, LV.cells, AOp.dst, LV.I, LV.B, LV.U, LV.S, LV.nil, Nat.reduceEqDiff, Nat.reduceAdd, Nat.reduceMul, Nat.reduceSub, Nat.reduceLeDiff, Nat.reduceBEq, Nat.reduceDiv, Nat.reduceMod, Int.reduceToNat, Int.reduceLT, Int.reduceLE, Int.reduceAdd, Int.reduceSub, Int.reduceMul, Int.reduceEq, Int.reduceNeg, reduceCtorEq, resV, resAll, ARes.ev, LV.flat, ite_true, ite_false, exists_eq_left', exists_eq_left, keyOf, implies_true, fillC, capOf]
            refine appendK_cell bo (by omega) fun N5 l1 l2 l3 => ?_
            simp (disch := omega) only [f1, f3, f12, f13, f14, ↓SXd, SXu, slBounds, ↓sop, ↓aop, ↓reduceIte, LV.cells, AOp.dst, LV.I, LV.B, LV.U, LV.S, LV.nil, Nat.reduceEqDiff, Nat.reduceAdd, Nat.reduceMul, Nat.reduceSub, Nat.reduceLeDiff, Nat.reduceBEq, Nat.reduceDiv, Nat.reduceMod, Int.reduceToNat, Int.reduceLT, Int.reduceLE, Int.reduceAdd, Int.reduceSub, Int.reduceMul, Int.reduceEq, Int.reduceNeg, reduceCtorEq, resV, resAll, ARes.ev, LV.flat, ite_true, ite_false, exists_eq_left', exists_eq_left, keyOf, implies_true, fillC, capOf]
            rw [if_pos (by unfold closed; simp [ho, hc])] at hstep
            rw [cell_eta, hstep] at l2 ⊢
            exact ⟨m - 1, by omega, i + 1, _, _, by omega, rfl, pre_step hpre (by omega) l1 l3, live_step b1 (fun e => by have := b1.ne_esz bo (by decide); exact this e) l3, live_step bs (by omega) l3, live_step b3 (b3.ne_esz bo (by decide)) l3, live_step ba (by omega) l3, l2, by omega, by omega, by have := hpre.1; omega, by omega, by omega, f1, f3, rfl, f13, eqI (natI _)⟩
      · simp (disch := omega) only [f1, f3, f12, f13, f14, ↓SXd, SXu, slBounds, ↓sop, ↓aop, ↓reduceIte, LV.cells, AOp.dst, LV.I, LV.B, LV.U, LV.S, LV.nil, Nat.reduceEqDiff, Nat.reduceAdd, Nat.reduceMul, Nat.reduceSub, Nat.reduceLeDiff, Nat.reduceBEq, Nat.reduceDiv, Nat.reduceMod, Int.reduceToNat, Int.reduceLT, Int.reduceLE, Int.reduceAdd, Int.reduceSub, Int.reduceMul, Int.reduceEq, Int.reduceNeg, reduceCtorEq, resV, resAll, ARes.ev, LV.flat, ite_true, ite_false, exists_eq_left', exists_eq_left, keyOf, implies_true, fillC, capOf]
        have : i = (cellsOf x y z).length := by omega
        subst this
        rw [List.take_length] at hacc
        have : acc = pick x y z (closed x y z fun c => decide (c ∈ cs)) := hacc
        rw [← this]
        exact cmp_keepL hpre (by omega) bo (triL_lo acc) (by simp [rn, rn0, rn1])
end Go.Ab

/- Contracts: the reference's FillCavities. -/
namespace Go.Ab
open Go
set_option linter.unusedSimpArgs false
set_option linter.unusedVariables false

theorem h_sFillCavities {x y z : Int} {t : Nat} {w : Bool} {cs : List Cell} {M : Mem} (h : Live M t (.row (triL cs) w 3)) (hn : cs.length ≤ 1000000000) :
    CallsR PG F.spec_FillCavities [.agg [.I x, .I y, .I z, .ref t 0 cs.length]] M (HeapRes M (fillOf x y z cs) []) := by
  refine callsR_run K.spec_FillCavities rfl ?_
  simp (disch := omega) only [C.spec_FillCavities, ↓SXd, SXu, slBounds, ↓sop, ↓aop, ↓reduceIte, LV.cells, AOp.dst, LV.I, LV.B, LV.U, LV.S, LV.nil, Nat.reduceEqDiff, Nat.reduceAdd, Nat.reduceMul, Nat.reduceSub, Nat.reduceLeDiff, Nat.reduceBEq, Nat.reduceDiv, Nat.reduceMod, Int.reduceToNat, Int.reduceLT, Int.reduceLE, Int.reduceAdd, Int.reduceSub, Int.reduceMul, Int.reduceEq, Int.reduceNeg, reduceCtorEq, resV, resAll, ARes.ev, LV.flat, ite_true, ite_false, exists_eq_left', exists_eq_left, keyOf, implies_true, fillC, capOf]
  refine callK_of (h_l2Heap (Has.app h.has) hn) ?_
  simp (disch := omega) only [↓SXd, SXu, slBounds, ↓sop, ↓aop, ↓reduceIte, LV.cells, AOp.dst, LV.I, LV.B, LV.U, LV.S, LV.nil, Nat.reduceEqDiff, Nat.reduceAdd, Nat.reduceMul, Nat.reduceSub, Nat.reduceLeDiff, Nat.reduceBEq, Nat.reduceDiv, Nat.reduceMod, Int.reduceToNat, Int.reduceLT, Int.reduceLE, Int.reduceAdd, Int.reduceSub, Int.reduceMul, Int.reduceEq, Int.reduceNeg, reduceCtorEq, resV, resAll, ARes.ev, LV.flat, ite_true, ite_false, exists_eq_left', exists_eq_left, keyOf, implies_true, fillC, capOf]
  unfold fillOf
  by_cases hH : HeapOK x y z cs
  · have hS := hH.1
    have hlen := hH.len
    rw [if_pos hH]
    simp (disch := omega) only [hH, ↓SXd, SXu, slBounds, ↓sop, ↓aop, ↓reduceIte, LV.cells, AOp.dst, LV.I, LV.B, LV.U, LV.S, LV.nil, Nat.reduceEqDiff, Nat.reduceAdd, Nat.reduceMul, Nat.reduceSub, Nat.reduceLeDiff, Nat.reduceBEq, Nat.reduceDiv, Nat.reduceMod, Int.reduceToNat, Int.reduceLT, Int.reduceLE, Int.reduceAdd, Int.reduceSub, Int.reduceMul, Int.reduceEq, Int.reduceNeg, reduceCtorEq, resV, resAll, ARes.ev, LV.flat, ite_true, ite_false, exists_eq_left', exists_eq_left, keyOf, implies_true, fillC, capOf]
    refine callK_of (h_l2Own (Has.app h.has) hn) ?_
    simp (disch := omega) only [splice, ↓SXd, SXu, slBounds, ↓sop, ↓aop, ↓reduceIte, LV.cells, AOp.dst, LV.I, LV.B, LV.U, LV.S, LV.nil, Nat.reduceEqDiff, Nat.reduceAdd, Nat.reduceMul, Nat.reduceSub, Nat.reduceLeDiff, Nat.reduceBEq, Nat.reduceDiv, Nat.reduceMod, Int.reduceToNat, Int.reduceLT, Int.reduceLE, Int.reduceAdd, Int.reduceSub, Int.reduceMul, Int.reduceEq, Int.reduceNeg, reduceCtorEq, resV, resAll, ARes.ev, LV.flat, ite_true, ite_false, exists_eq_left', exists_eq_left, keyOf, implies_true, fillC, capOf]
    refine callK_of (h_l6Enclosed h.app hH) ?_
    simp (disch := omega) only [splice, ↓SXd, SXu, slBounds, ↓sop, ↓aop, ↓reduceIte, LV.cells, AOp.dst, LV.I, LV.B, LV.U, LV.S, LV.nil, Nat.reduceEqDiff, Nat.reduceAdd, Nat.reduceMul, Nat.reduceSub, Nat.reduceLeDiff, Nat.reduceBEq, Nat.reduceDiv, Nat.reduceMod, Int.reduceToNat, Int.reduceLT, Int.reduceLE, Int.reduceAdd, Int.reduceSub, Int.reduceMul, Int.reduceEq, Int.reduceNeg, reduceCtorEq, resV, resAll, ARes.ev, LV.flat, ite_true, ite_false, exists_eq_left', exists_eq_left, keyOf, implies_true, fillC, capOf]
    generalize hq : closed x y z (fun c => decide (c ∈ cs)) = q
    have hpl := pick_len hS q
    refine ev_loop (fun m fr M' => ∃ (i v : Nat), i + m = (pick x y z q).length ∧ Pre M M' ∧ Live M' (M.length + 1) (.row [.I 0, .I 0, .I 0, .nil] true 0) ∧ Live M' (M.length + 4) (.row (triL (pick x y z q)) true 3) ∧
      Live M' (M.length + 2) (.row [.I x, .I y, .I z, .ref v 0 (pick x y z fun d => decide (d ∈ cs) || decide (d ∈ (pick x y z q).take i)).length] true 0) ∧ Live M' v (.row (triL (pick x y z fun d => decide (d ∈ cs) || decide (d ∈ (pick x y z q).take i))) true 3) ∧ M.length ≤ v ∧
      fr 2 = .ptr (M.length + 1) 0 ∧ fr 4 = .ptr (M.length + 2) 0 ∧ fr 5 = .ref (M.length + 4) 0 (pick x y z q).length ∧ fr 6 = .I i) (pick x y z q).length
      ⟨0, M.length + 3, by omega, Pre.app _ _, Live.newj rfl, Live.newj rfl, ?_, ?_, by omega, rfl, rfl, rfl, rfl⟩ ?_
    · rw [pick_congr hS (p := fun d => decide (d ∈ cs) || decide (d ∈ (pick x y z q).take 0)) (q := fun d => decide (d ∈ cs)) fun d _ => by simp, ← hH.pick]; exact Live.newj rfl
    · rw [pick_congr hS (p := fun d => decide (d ∈ cs) || decide (d ∈ (pick x y z q).take 0)) (q := fun d => decide (d ∈ cs)) fun d _ => by simp, ← hH.pick]; exact Live.newj rfl
    rintro m fr M' ⟨i, v, hi, hpre, b1, be, b2, bv, hv, f2, f4, f5, f6⟩
    simp (disch := omega) only [f2, f4, f5, f6, ↓SXd, SXu, slBounds, ↓sop, ↓aop, ↓reduceIte, LV.cells, AOp.dst, LV.I, LV.B, LV.U, LV.S, LV.nil, Nat.reduceEqDiff, Nat.reduceAdd, Nat.reduceMul, Nat.reduceSub, Nat.reduceLeDiff, Nat.reduceBEq, Nat.reduceDiv, Nat.reduceMod, Int.reduceToNat, Int.reduceLT, Int.reduceLE, Int.reduceAdd, Int.reduceSub, Int.reduceMul, Int.reduceEq, Int.reduceNeg, reduceCtorEq, resV, resAll, ARes.ev, LV.flat, ite_true, ite_false, exists_eq_left', exists_eq_left, keyOf, implies_true, fillC, capOf]
    refine condC_dec (fun hlt => ?_) (fun hlt => ?_)
    · have hil : i < (pick x y z q).length := by omega
      have hce := be.tri0 hil
      have hcb := ((mem_pick hS).1 (getD_mem' (d := default) hil)).1
      simp (disch := omega) only [f2, f4, f5, f6, b2.cells, hce, Cell.row, ↓SXd, SXu, slBounds, ↓sop, ↓aop, ↓reduceIte, LV.cells, AOp.dst, LV.I, LV.B, LV.U, LV.S, LV.nil, Nat.reduceEqDiff, Nat.reduceAdd, Nat.reduceMul, Nat.reduceSub, Nat.reduceLeDiff, Nat.reduceBEq, Nat.reduceDiv, Nat.reduceMod, Int.reduceToNat, Int.reduceLT, Int.reduceLE, Int.reduceAdd, Int.reduceSub, Int.reduceMul, Int.reduceEq, Int.reduceNeg, reduceCtorEq, resV, resAll, ARes.ev, LV.flat, ite_true, ite_false, exists_eq_left', exists_eq_left, keyOf, implies_true, fillC, capOf]
      refine callH_of (h_l2With bv (pick_ok hS _) hcb) ?_
      intro sn N2 hsn hp2 hsr
      have hpe : pick x y z (fun d => decide (d ∈ pick x y z fun d => decide (d ∈ cs) || decide (d ∈ (pick x y z q).take i)) || decide (d = (pick x y z q).getD i default)) = pick x y z fun d => decide (d ∈ cs) || decide (d ∈ (pick x y z q).take (i + 1)) := pick_congr hS fun d hd => by
        rw [← take_dec hil, ← Bool.or_assoc]
        congr 1
        rw [Bool.eq_iff_iff, decide_eq_true_iff, mem_pick hS]
        exact ⟨fun h => h.2, fun h => ⟨hd, h⟩⟩
      rw [hpe] at hsr ⊢
      have hN2 := hp2.1
      have hl2 := b2.lt
      simp (disch := omega) only [f2, f4, f5, f6, ↓SXd, SXu, slBounds, ↓sop, ↓aop, ↓reduceIte, LV.cells, AOp.dst, LV.I, LV.B, LV.U, LV.S, LV.nil, Nat.reduceEqDiff, Nat.reduceAdd, Nat.reduceMul, Nat.reduceSub, Nat.reduceLeDiff, Nat.reduceBEq, Nat.reduceDiv, Nat.reduceMod, Int.reduceToNat, Int.reduceLT, Int.reduceLE, Int.reduceAdd, Int.reduceSub, Int.reduceMul, Int.reduceEq, Int.reduceNeg, reduceCtorEq, resV, resAll, ARes.ev, LV.flat, ite_true, ite_false, exists_eq_left', exists_eq_left, keyOf, implies_true, fillC, capOf]
      refine memK_box (b2.pre hp2) (by simp) fun N3 k1 k2 k3 => ?_
      simp (disch := omega) only [f2, f4, f5, f6, ↓SXd, SXu, slBounds, ↓sop, ↓aop, ↓reduceIte, LV.cells, AOp.dst, LV.I, LV.B, LV.U, LV.S, LV.nil, Nat.reduceEqDiff, Nat.reduceAdd, Nat.reduceMul, Nat.reduceSub, Nat.reduceLeDiff, Nat.reduceBEq, Nat.reduceDiv, Nat.reduceMod, Int.reduceToNat, Int.reduceLT, Int.reduceLE, Int.reduceAdd, Int.reduceSub, Int.reduceMul, Int.reduceEq, Int.reduceNeg, reduceCtorEq, resV, resAll, ARes.ev, LV.flat, ite_true, ite_false, exists_eq_left', exists_eq_left, keyOf, implies_true, fillC, capOf]
      exact ⟨m - 1, by omega, i + 1, sn, by omega, pre_step (hpre.trans hp2) (by omega) (j := 0) k1 k3, live_step (b1.pre hp2) (by omega) k3, live_step (be.pre hp2) (by omega) k3, k2, live_step hsr (by omega) k3, by omega, f2, f4, f5, eqI (natI _)⟩
    · have : i = (pick x y z q).length := by omega
      subst this
      have hpe : pick x y z (fun d => decide (d ∈ cs) || decide (d ∈ (pick x y z q).take (pick x y z q).length)) = pick x y z fun c => decide (c ∈ cs) || q c := pick_congr hS fun d hd => by
        rw [List.take_length]
        congr 1
        rw [Bool.eq_iff_iff, decide_eq_true_iff, mem_pick hS]
        exact ⟨fun h => h.2, fun h => ⟨hd, h⟩⟩
      rw [hpe] at b2 bv
      simp (disch := omega) only [f2, f4, f5, f6, b2.cells, ↓SXd, SXu, slBounds, ↓sop, ↓aop, ↓reduceIte, LV.cells, AOp.dst, LV.I, LV.B, LV.U, LV.S, LV.nil, Nat.reduceEqDiff, Nat.reduceAdd, Nat.reduceMul, Nat.reduceSub, Nat.reduceLeDiff, Nat.reduceBEq, Nat.reduceDiv, Nat.reduceMod, Int.reduceToNat, Int.reduceLT, Int.reduceLE, Int.reduceAdd, Int.reduceSub, Int.reduceMul, Int.reduceEq, Int.reduceNeg, reduceCtorEq, resV, resAll, ARes.ev, LV.flat, ite_true, ite_false, exists_eq_left', exists_eq_left, keyOf, implies_true, fillC, capOf]
      refine memK_box b1 (by simp) fun N3 k1 k2 k3 => ?_
      simp (disch := omega) only [f2, f4, f5, f6, k2.cells, ↓SXd, SXu, slBounds, ↓sop, ↓aop, ↓reduceIte, LV.cells, AOp.dst, LV.I, LV.B, LV.U, LV.S, LV.nil, Nat.reduceEqDiff, Nat.reduceAdd, Nat.reduceMul, Nat.reduceSub, Nat.reduceLeDiff, Nat.reduceBEq, Nat.reduceDiv, Nat.reduceMod, Int.reduceToNat, Int.reduceLT, Int.reduceLE, Int.reduceAdd, Int.reduceSub, Int.reduceMul, Int.reduceEq, Int.reduceNeg, reduceCtorEq, resV, resAll, ARes.ev, LV.flat, ite_true, ite_false, exists_eq_left', exists_eq_left, keyOf, implies_true, fillC, capOf]
      exact ⟨_, rfl, SlC.of (live_step bv (bv.ne_esz b1 (by decide)) k3), Newer.of hv, pre_step hpre (by omega) (j := 0) k1 k3⟩
  · rw [if_neg hH]
    simp (disch := omega) only [hH, fillC, splice, ↓SXd, SXu, slBounds, ↓sop, ↓aop, ↓reduceIte, LV.cells, AOp.dst, LV.I, LV.B, LV.U, LV.S, LV.nil, Nat.reduceEqDiff, Nat.reduceAdd, Nat.reduceMul, Nat.reduceSub, Nat.reduceLeDiff, Nat.reduceBEq, Nat.reduceDiv, Nat.reduceMod, Int.reduceToNat, Int.reduceLT, Int.reduceLE, Int.reduceAdd, Int.reduceSub, Int.reduceMul, Int.reduceEq, Int.reduceNeg, reduceCtorEq, resV, resAll, ARes.ev, LV.flat, ite_true, ite_false, exists_eq_left', exists_eq_left, keyOf, implies_true, fillC, capOf]
    exact ⟨_, rfl, SlC.nil, Newer.nil, Pre.app _ _⟩
end Go.Ab

/- The law of FillCavities. -/
namespace Go.Ab
open Go
set_option linter.unusedSimpArgs false
set_option linter.unusedVariables false
set_option maxRecDepth 20000

theorem l_FillCavities {x y z : Int} {t o : Nat} {cs : List Cell} {M : Mem} (h : Tri M t o cs) (hn0 : cs.length ≤ 9223372036854775807) :
    CallsR PG F.laws_FnExactFillCavities [.agg [.I x, .I y, .I z, .ref t o cs.length]] M fun v _ => v = .B true := by
  have ht := h.lt
  refine callsR_run K.laws_FnExactFillCavities rfl ?_
  simp (disch := omega) only [C.laws_FnExactFillCavities, ↓SXd, SXu, slBounds, ↓sop, ↓aop, ↓reduceIte, LV.cells, AOp.dst, LV.I, LV.B, LV.U, LV.S, LV.nil, Nat.reduceEqDiff, Nat.reduceAdd, Nat.reduceMul, Nat.reduceSub, Nat.reduceLeDiff, Nat.reduceBEq, Nat.reduceDiv, Nat.reduceMod, Int.reduceToNat, Int.reduceLT, Int.reduceLE, Int.reduceAdd, Int.reduceSub, Int.reduceMul, Int.reduceEq, Int.reduceNeg, reduceCtorEq, resV, resAll, ARes.ev, LV.flat, ite_true, ite_false, exists_eq_left', exists_eq_left, keyOf, implies_true, fillC, capOf]
  refine callK_of (h_szHeap (by omega) (by omega) (by omega)) ?_
  simp (disch := omega) only [↓SXd, SXu, slBounds, ↓sop, ↓aop, ↓reduceIte, LV.cells, AOp.dst, LV.I, LV.B, LV.U, LV.S, LV.nil, Nat.reduceEqDiff, Nat.reduceAdd, Nat.reduceMul, Nat.reduceSub, Nat.reduceLeDiff, Nat.reduceBEq, Nat.reduceDiv, Nat.reduceMod, Int.reduceToNat, Int.reduceLT, Int.reduceLE, Int.reduceAdd, Int.reduceSub, Int.reduceMul, Int.reduceEq, Int.reduceNeg, reduceCtorEq, resV, resAll, ARes.ev, LV.flat, ite_true, ite_false, exists_eq_left', exists_eq_left, keyOf, implies_true, fillC, capOf]
  by_cases hl : (1048576 : Int) < (cs.length : Nat)
  · rw [if_pos hl]
    simp (disch := omega) only [Int.reduceLT, ↓SXd, SXu, slBounds, ↓sop, ↓aop, ↓reduceIte, LV.cells, AOp.dst, LV.I, LV.B, LV.U, LV.S, LV.nil, Nat.reduceEqDiff, Nat.reduceAdd, Nat.reduceMul, Nat.reduceSub, Nat.reduceLeDiff, Nat.reduceBEq, Nat.reduceDiv, Nat.reduceMod, Int.reduceToNat, Int.reduceLT, Int.reduceLE, Int.reduceAdd, Int.reduceSub, Int.reduceMul, Int.reduceEq, Int.reduceNeg, reduceCtorEq, resV, resAll, ARes.ev, LV.flat, ite_true, ite_false, exists_eq_left', exists_eq_left, keyOf, implies_true, fillC, capOf]
    rfl
  · rw [if_neg hl]
    have hn : cs.length ≤ 1000000000 := by omega
    have hrl := fillOf_len (x := x) (y := y) (z := z) (cs := cs)
    have heqR : ∀ {v v' : LV} {M : Mem}, CellsV M v ((fillOf x y z cs).getD Hp.none).cs → CellsV M v' ((fillOf x y z cs).getD Hp.none).cs → CallsTo PG F.laws_eqHeap [.agg [.I ((fillOf x y z cs).getD Hp.none).x, .I ((fillOf x y z cs).getD Hp.none).y, .I ((fillOf x y z cs).getD Hp.none).z, v], .agg [.I ((fillOf x y z cs).getD Hp.none).x, .I ((fillOf x y z cs).getD Hp.none).y, .I ((fillOf x y z cs).getD Hp.none).z, v']] M (.B true) M := fun {v v' M} h1 h2 => by
      have := h_eqHeapV (x := ((fillOf x y z cs).getD Hp.none).x) (y := ((fillOf x y z cs).getD Hp.none).y) (z := ((fillOf x y z cs).getD Hp.none).z) (x' := ((fillOf x y z cs).getD Hp.none).x) (y' := ((fillOf x y z cs).getD Hp.none).y) (z' := ((fillOf x y z cs).getD Hp.none).z) h1 h2 hrl hrl
      rwa [decide_eq_true (by simp)] at this
    simp (disch := omega) only [↓SXd, SXu, slBounds, ↓sop, ↓aop, ↓reduceIte, LV.cells, AOp.dst, LV.I, LV.B, LV.U, LV.S, LV.nil, Nat.reduceEqDiff, Nat.reduceAdd, Nat.reduceMul, Nat.reduceSub, Nat.reduceLeDiff, Nat.reduceBEq, Nat.reduceDiv, Nat.reduceMod, Int.reduceToNat, Int.reduceLT, Int.reduceLE, Int.reduceAdd, Int.reduceSub, Int.reduceMul, Int.reduceEq, Int.reduceNeg, reduceCtorEq, resV, resAll, ARes.ev, LV.flat, ite_true, ite_false, exists_eq_left', exists_eq_left, keyOf, implies_true, fillC, capOf]
    refine callK_of (h_toHeap h.app hn) ?_
    simp (disch := omega) only [↓SXd, SXu, slBounds, ↓sop, ↓aop, ↓reduceIte, LV.cells, AOp.dst, LV.I, LV.B, LV.U, LV.S, LV.nil, Nat.reduceEqDiff, Nat.reduceAdd, Nat.reduceMul, Nat.reduceSub, Nat.reduceLeDiff, Nat.reduceBEq, Nat.reduceDiv, Nat.reduceMod, Int.reduceToNat, Int.reduceLT, Int.reduceLE, Int.reduceAdd, Int.reduceSub, Int.reduceMul, Int.reduceEq, Int.reduceNeg, reduceCtorEq, resV, resAll, ARes.ev, LV.flat, ite_true, ite_false, exists_eq_left', exists_eq_left, keyOf, implies_true, fillC, capOf]
    refine callR_of (h_sFillCavities (Live.newj (j := 1) (b := .row (triL cs) true 3) rfl) hn) ?_
    rintro _ N1 ⟨w, rfl, hw, hwn, hp1⟩
    simp (disch := omega) only [↓SXd, SXu, slBounds, ↓sop, ↓aop, ↓reduceIte, LV.cells, AOp.dst, LV.I, LV.B, LV.U, LV.S, LV.nil, Nat.reduceEqDiff, Nat.reduceAdd, Nat.reduceMul, Nat.reduceSub, Nat.reduceLeDiff, Nat.reduceBEq, Nat.reduceDiv, Nat.reduceMod, Int.reduceToNat, Int.reduceLT, Int.reduceLE, Int.reduceAdd, Int.reduceSub, Int.reduceMul, Int.reduceEq, Int.reduceNeg, reduceCtorEq, resV, resAll, ARes.ev, LV.flat, ite_true, ite_false, exists_eq_left', exists_eq_left, keyOf, implies_true, fillC, capOf]
    have b1 : Live (N1 ++ [some (((fillOf x y z cs).getD Hp.none).row w)]) M.length (.row [.I x, .I y, .I z, .ref t o cs.length] true 0) := (Live.new.pre hp1).app
    have w1 : Live (N1 ++ [some (((fillOf x y z cs).getD Hp.none).row w)]) N1.length (((fillOf x y z cs).getD Hp.none).row w) := Live.new
    have hl1 : M.length < N1.length := (Live.new.pre hp1 : Live N1 M.length (.row [.I x, .I y, .I z, .ref t o cs.length] true 0)).lt
    have hw1 := hw.pre (Pre.app N1 [some (((fillOf x y z cs).getD Hp.none).row w)])
    have hM1 : Pre M (N1 ++ [some (((fillOf x y z cs).getD Hp.none).row w)]) := ((Pre.app _ _).trans hp1).trans (Pre.app _ _)
    have hlW := w1.lt
    have how := hw.older
    clear hw hp1
    generalize hW : N1 ++ [some (((fillOf x y z cs).getD Hp.none).row w)] = W at *
    simp (disch := omega) only [b1.cells, ↓SXd, SXu, slBounds, ↓sop, ↓aop, ↓reduceIte, LV.cells, AOp.dst, LV.I, LV.B, LV.U, LV.S, LV.nil, Nat.reduceEqDiff, Nat.reduceAdd, Nat.reduceMul, Nat.reduceSub, Nat.reduceLeDiff, Nat.reduceBEq, Nat.reduceDiv, Nat.reduceMod, Int.reduceToNat, Int.reduceLT, Int.reduceLE, Int.reduceAdd, Int.reduceSub, Int.reduceMul, Int.reduceEq, Int.reduceNeg, reduceCtorEq, resV, resAll, ARes.ev, LV.flat, ite_true, ite_false, exists_eq_left', exists_eq_left, keyOf, implies_true, fillC, capOf]
    refine callK_of (h_toHeap (h.pre hM1) hn) ?_
    simp (disch := omega) only [b1.cells, ↓SXd, SXu, slBounds, ↓sop, ↓aop, ↓reduceIte, LV.cells, AOp.dst, LV.I, LV.B, LV.U, LV.S, LV.nil, Nat.reduceEqDiff, Nat.reduceAdd, Nat.reduceMul, Nat.reduceSub, Nat.reduceLeDiff, Nat.reduceBEq, Nat.reduceDiv, Nat.reduceMod, Int.reduceToNat, Int.reduceLT, Int.reduceLE, Int.reduceAdd, Int.reduceSub, Int.reduceMul, Int.reduceEq, Int.reduceNeg, reduceCtorEq, resV, resAll, ARes.ev, LV.flat, ite_true, ite_false, exists_eq_left', exists_eq_left, keyOf, implies_true, fillC, capOf]
    refine callR_of (g_FillCavities (Live.newj (M := W) (j := 0) (b := .row (triL cs) true 3) rfl) hn) ?_
    rintro _ N2 ⟨g, rfl, hg, hgn, hp2⟩
    simp (disch := omega) only [↓SXd, SXu, slBounds, ↓sop, ↓aop, ↓reduceIte, LV.cells, AOp.dst, LV.I, LV.B, LV.U, LV.S, LV.nil, Nat.reduceEqDiff, Nat.reduceAdd, Nat.reduceMul, Nat.reduceSub, Nat.reduceLeDiff, Nat.reduceBEq, Nat.reduceDiv, Nat.reduceMod, Int.reduceToNat, Int.reduceLT, Int.reduceLE, Int.reduceAdd, Int.reduceSub, Int.reduceMul, Int.reduceEq, Int.reduceNeg, reduceCtorEq, resV, resAll, ARes.ev, LV.flat, ite_true, ite_false, exists_eq_left', exists_eq_left, keyOf, implies_true, fillC, capOf]
    have hp12 : Pre W (N2 ++ [some (((fillOf x y z cs).getD Hp.none).row g)]) := ((Pre.app _ _).trans hp2).trans (Pre.app _ _)
    have b2 := b1.pre hp12
    have w2 := w1.pre hp12
    have r2 : Live (N2 ++ [some (((fillOf x y z cs).getD Hp.none).row g)]) W.length (.row (triL cs) true 3) := ((Live.newj (j := 0) rfl).pre hp2).app
    have x2 : Live (N2 ++ [some (((fillOf x y z cs).getD Hp.none).row g)]) (W.length + 1) (.row [.I x, .I y, .I z, .ref W.length 0 cs.length] true 0) := ((Live.newj (j := 1) rfl).pre hp2).app
    have g2 : Live (N2 ++ [some (((fillOf x y z cs).getD Hp.none).row g)]) N2.length (((fillOf x y z cs).getD Hp.none).row g) := Live.new
    have hw2 := hw1.pre hp12
    have hg2 := hg.pre (Pre.app N2 [some (((fillOf x y z cs).getD Hp.none).row g)])
    have hgo2 := hg.older
    have hl2 : W.length + 1 < N2.length := ((Live.newj (j := 1) rfl).pre hp2 : Live N2 (W.length + 1) (.row [.I x, .I y, .I z, .ref W.length 0 cs.length] true 0)).lt
    clear hg hp2
    generalize hG : N2 ++ [some (((fillOf x y z cs).getD Hp.none).row g)] = G at *
    simp (disch := omega) only [g2.cells, w2.cells, ↓SXd, SXu, slBounds, ↓sop, ↓aop, ↓reduceIte, LV.cells, AOp.dst, LV.I, LV.B, LV.U, LV.S, LV.nil, Nat.reduceEqDiff, Nat.reduceAdd, Nat.reduceMul, Nat.reduceSub, Nat.reduceLeDiff, Nat.reduceBEq, Nat.reduceDiv, Nat.reduceMod, Int.reduceToNat, Int.reduceLT, Int.reduceLE, Int.reduceAdd, Int.reduceSub, Int.reduceMul, Int.reduceEq, Int.reduceNeg, reduceCtorEq, resV, resAll, ARes.ev, LV.flat, ite_true, ite_false, exists_eq_left', exists_eq_left, keyOf, implies_true, fillC, capOf]
    refine callK_of (heqR hg2.v hw2.v) ?_
    simp (disch := omega) only [b2.cells, x2.cells, ↓SXd, SXu, slBounds, ↓sop, ↓aop, ↓reduceIte, LV.cells, AOp.dst, LV.I, LV.B, LV.U, LV.S, LV.nil, Nat.reduceEqDiff, Nat.reduceAdd, Nat.reduceMul, Nat.reduceSub, Nat.reduceLeDiff, Nat.reduceBEq, Nat.reduceDiv, Nat.reduceMod, Int.reduceToNat, Int.reduceLT, Int.reduceLE, Int.reduceAdd, Int.reduceSub, Int.reduceMul, Int.reduceEq, Int.reduceNeg, reduceCtorEq, resV, resAll, ARes.ev, LV.flat, ite_true, ite_false, exists_eq_left', exists_eq_left, keyOf, implies_true, fillC, capOf]
    refine callK_of (h_toHeap (h.pre (hM1.trans hp12)) hn) ?_
    simp (disch := omega) only [b2.cells, x2.cells, ↓SXd, SXu, slBounds, ↓sop, ↓aop, ↓reduceIte, LV.cells, AOp.dst, LV.I, LV.B, LV.U, LV.S, LV.nil, Nat.reduceEqDiff, Nat.reduceAdd, Nat.reduceMul, Nat.reduceSub, Nat.reduceLeDiff, Nat.reduceBEq, Nat.reduceDiv, Nat.reduceMod, Int.reduceToNat, Int.reduceLT, Int.reduceLE, Int.reduceAdd, Int.reduceSub, Int.reduceMul, Int.reduceEq, Int.reduceNeg, reduceCtorEq, resV, resAll, ARes.ev, LV.flat, ite_true, ite_false, exists_eq_left', exists_eq_left, keyOf, implies_true, fillC, capOf]
    have he := h_eqHeap (x := x) (y := y) (z := z) (x' := x) (y' := y) (z' := z) (M := G ++ [some (.row (triL cs) true 3)]) (Live.app r2).has (Live.newj (M := G) (L := [some (.row (triL cs) true 3)]) (j := 0) rfl).has hn hn
    rw [decide_eq_true (by simp)] at he
    refine callK_of he ?_
    simp (disch := omega) only [x2.app.cells, ↓SXd, SXu, slBounds, ↓sop, ↓aop, ↓reduceIte, LV.cells, AOp.dst, LV.I, LV.B, LV.U, LV.S, LV.nil, Nat.reduceEqDiff, Nat.reduceAdd, Nat.reduceMul, Nat.reduceSub, Nat.reduceLeDiff, Nat.reduceBEq, Nat.reduceDiv, Nat.reduceMod, Int.reduceToNat, Int.reduceLT, Int.reduceLE, Int.reduceAdd, Int.reduceSub, Int.reduceMul, Int.reduceEq, Int.reduceNeg, reduceCtorEq, resV, resAll, ARes.ev, LV.flat, ite_true, ite_false, exists_eq_left', exists_eq_left, keyOf, implies_true, fillC, capOf]
    refine callR_of (h_markHeap (SlC.of r2.app) hn (by omega)) ?_
    rintro _ N4 ⟨rfl, _, hN4a, hN4b⟩
    have hp4 : PreV (.ref W.length 0 cs.length) (G ++ [some (.row (triL cs) true 3)]) N4 := ⟨hN4a, hN4b⟩
    have hgo : Apart (.ref W.length 0 cs.length) g := Apart.symm (Newer.apart (M := W ++ [some (.row (triL cs) true 3)]) (hgn.mono ((Pre.app _ _).trans (by rw [List.append_assoc]; exact Pre.refl _))) fun _ _ _ e => by cases e; simp)
    have hwo : Apart (.ref W.length 0 cs.length) w := Newer.apart (M := W) (Newer.of (Nat.le_refl _)) hw1.older
    have hg4 := hp4.slC (hg2.pre (Pre.app _ _)) hgo
    have hw4 := hp4.slC (hw2.pre (Pre.app _ _)) hwo
    have b4 := hp4.live b2.app (by show M.length ≠ W.length; omega)
    have w4 := hp4.live w2.app (by show N1.length ≠ W.length; omega)
    have g4 := hp4.live g2.app (by show N2.length ≠ W.length; omega)
    have hM4 : Pre M N4 := hp4.pre ((hM1.trans hp12).trans (Pre.app _ _)) (Newer.of (M := M) (t := W.length) (by omega))
    have hk : ¬ (1 + 3 * (cs.length : Int) < 0) := by omega
    simp (disch := omega) only [hk, g4.cells, w4.cells, ↓SXd, SXu, slBounds, ↓sop, ↓aop, ↓reduceIte, LV.cells, AOp.dst, LV.I, LV.B, LV.U, LV.S, LV.nil, Nat.reduceEqDiff, Nat.reduceAdd, Nat.reduceMul, Nat.reduceSub, Nat.reduceLeDiff, Nat.reduceBEq, Nat.reduceDiv, Nat.reduceMod, Int.reduceToNat, Int.reduceLT, Int.reduceLE, Int.reduceAdd, Int.reduceSub, Int.reduceMul, Int.reduceEq, Int.reduceNeg, reduceCtorEq, resV, resAll, ARes.ev, LV.flat, ite_true, ite_false, exists_eq_left', exists_eq_left, keyOf, implies_true, fillC, capOf]
    refine callK_of (heqR hg4.v hw4.v) ?_
    simp (disch := omega) only [g4.cells, ↓SXd, SXu, slBounds, ↓sop, ↓aop, ↓reduceIte, LV.cells, AOp.dst, LV.I, LV.B, LV.U, LV.S, LV.nil, Nat.reduceEqDiff, Nat.reduceAdd, Nat.reduceMul, Nat.reduceSub, Nat.reduceLeDiff, Nat.reduceBEq, Nat.reduceDiv, Nat.reduceMod, Int.reduceToNat, Int.reduceLT, Int.reduceLE, Int.reduceAdd, Int.reduceSub, Int.reduceMul, Int.reduceEq, Int.reduceNeg, reduceCtorEq, resV, resAll, ARes.ev, LV.flat, ite_true, ite_false, exists_eq_left', exists_eq_left, keyOf, implies_true, fillC, capOf]
    refine callR_of (h_markHeap hg4 hrl (by omega)) ?_
    rintro _ N5 ⟨rfl, hg5, hN5a, hN5b⟩
    have hp5 : PreV g N4 N5 := ⟨hN5a, hN5b⟩
    have hgW : Newer W g := hgn.mono (Pre.app _ _)
    have hgw : Apart g w := Newer.apart hgW hw1.older
    have hw5 := hp5.slC hw4 hgw
    have hgM : Newer M g := hgW.mono hM1
    have hM5 := hp5.pre hM4 hgM
    have b5 := hp5.live b4 (hgW _ (by omega))
    have w5 := hp5.live w4 (hgW _ (by omega))
    have g5 := hp5.live g4 (hgo2.off (Nat.le_refl _))
    have hk2 : ¬ (1 + 3 * (((fillOf x y z cs).getD Hp.none).cs.length : Int) < 0) := by omega
    simp (disch := omega) only [g5.cells, ↓SXd, SXu, slBounds, ↓sop, ↓aop, ↓reduceIte, LV.cells, AOp.dst, LV.I, LV.B, LV.U, LV.S, LV.nil, Nat.reduceEqDiff, Nat.reduceAdd, Nat.reduceMul, Nat.reduceSub, Nat.reduceLeDiff, Nat.reduceBEq, Nat.reduceDiv, Nat.reduceMod, Int.reduceToNat, Int.reduceLT, Int.reduceLE, Int.reduceAdd, Int.reduceSub, Int.reduceMul, Int.reduceEq, Int.reduceNeg, reduceCtorEq, resV, resAll, ARes.ev, LV.flat, ite_true, ite_false, exists_eq_left', exists_eq_left, keyOf, implies_true, fillC, capOf]
    refine callK_of (h_heldHeap hg5.v hrl (by omega)) ?_
    simp (disch := omega) only [b5.cells, hk2, ↓SXd, SXu, slBounds, ↓sop, ↓aop, ↓reduceIte, LV.cells, AOp.dst, LV.I, LV.B, LV.U, LV.S, LV.nil, Nat.reduceEqDiff, Nat.reduceAdd, Nat.reduceMul, Nat.reduceSub, Nat.reduceLeDiff, Nat.reduceBEq, Nat.reduceDiv, Nat.reduceMod, Int.reduceToNat, Int.reduceLT, Int.reduceLE, Int.reduceAdd, Int.reduceSub, Int.reduceMul, Int.reduceEq, Int.reduceNeg, reduceCtorEq, resV, resAll, ARes.ev, LV.flat, ite_true, ite_false, exists_eq_left', exists_eq_left, keyOf, implies_true, fillC, capOf]
    refine callK_of (h_toHeap (h.pre hM5) hn) ?_
    simp (disch := omega) only [↓SXd, SXu, slBounds, ↓sop, ↓aop, ↓reduceIte, LV.cells, AOp.dst, LV.I, LV.B, LV.U, LV.S, LV.nil, Nat.reduceEqDiff, Nat.reduceAdd, Nat.reduceMul, Nat.reduceSub, Nat.reduceLeDiff, Nat.reduceBEq, Nat.reduceDiv, Nat.reduceMod, Int.reduceToNat, Int.reduceLT, Int.reduceLE, Int.reduceAdd, Int.reduceSub, Int.reduceMul, Int.reduceEq, Int.reduceNeg, reduceCtorEq, resV, resAll, ARes.ev, LV.flat, ite_true, ite_false, exists_eq_left', exists_eq_left, keyOf, implies_true, fillC, capOf]
    refine callR_of (g_FillCavities (Live.newj (M := N5) (j := 0) (b := .row (triL cs) true 3) rfl) hn) ?_
    rintro _ N6 ⟨g6, rfl, hg6, hgn6, hp6⟩
    have hp56 : Pre N5 (N6 ++ [some (((fillOf x y z cs).getD Hp.none).row g6)]) := ((Pre.app _ _).trans hp6).trans (Pre.app _ _)
    have w6 := w5.pre hp56
    have g6' := g5.pre hp56
    have hg6' := hg6.pre (Pre.app N6 [some (((fillOf x y z cs).getD Hp.none).row g6)])
    simp (disch := omega) only [w6.cells, (Live.new (M := N6) (b := ((fillOf x y z cs).getD Hp.none).row g6)).cells, ↓SXd, SXu, slBounds, ↓sop, ↓aop, ↓reduceIte, LV.cells, AOp.dst, LV.I, LV.B, LV.U, LV.S, LV.nil, Nat.reduceEqDiff, Nat.reduceAdd, Nat.reduceMul, Nat.reduceSub, Nat.reduceLeDiff, Nat.reduceBEq, Nat.reduceDiv, Nat.reduceMod, Int.reduceToNat, Int.reduceLT, Int.reduceLE, Int.reduceAdd, Int.reduceSub, Int.reduceMul, Int.reduceEq, Int.reduceNeg, reduceCtorEq, resV, resAll, ARes.ev, LV.flat, ite_true, ite_false, exists_eq_left', exists_eq_left, keyOf, implies_true, fillC, capOf]
    refine callK_of (heqR hg6'.v (hw5.pre hp56).v) ?_
    simp (disch := omega) only [g6'.cells, ↓SXd, SXu, slBounds, ↓sop, ↓aop, ↓reduceIte, LV.cells, AOp.dst, LV.I, LV.B, LV.U, LV.S, LV.nil, Nat.reduceEqDiff, Nat.reduceAdd, Nat.reduceMul, Nat.reduceSub, Nat.reduceLeDiff, Nat.reduceBEq, Nat.reduceDiv, Nat.reduceMod, Int.reduceToNat, Int.reduceLT, Int.reduceLE, Int.reduceAdd, Int.reduceSub, Int.reduceMul, Int.reduceEq, Int.reduceNeg, reduceCtorEq, resV, resAll, ARes.ev, LV.flat, ite_true, ite_false, exists_eq_left', exists_eq_left, keyOf, implies_true, fillC, capOf]
    refine callK_of (h_heldHeap (hg5.pre hp56).v hrl (by omega)) ?_
    simp (disch := omega) only [hk2, ↓SXd, SXu, slBounds, ↓sop, ↓aop, ↓reduceIte, LV.cells, AOp.dst, LV.I, LV.B, LV.U, LV.S, LV.nil, Nat.reduceEqDiff, Nat.reduceAdd, Nat.reduceMul, Nat.reduceSub, Nat.reduceLeDiff, Nat.reduceBEq, Nat.reduceDiv, Nat.reduceMod, Int.reduceToNat, Int.reduceLT, Int.reduceLE, Int.reduceAdd, Int.reduceSub, Int.reduceMul, Int.reduceEq, Int.reduceNeg, reduceCtorEq, resV, resAll, ARes.ev, LV.flat, ite_true, ite_false, exists_eq_left', exists_eq_left, keyOf, implies_true, fillC, capOf]
    rfl
end Go.Ab

/- From the abstract machine to a row: a law that is called with what came in. -/
namespace Go.Ab
open Go Go.RowKit

/-- A memory of which nothing is ours. -/
def NoOwn (M : Mem) : Prop := ∀ t b, Live M t b → b.isOwn = false

theorem law_calls {P : Program} {f : FuncId} {args : List LV} {M N : Mem} {b : Bool} {G : Gh} {w : World} {xs : List Value} (hc : CallsTo P f args M (.B b) N) (hi : Inv G M w) (hn : NoOwn M) (hx : All2 (VR G) args xs) :
    Calls P f xs.toArray w fun e w' => e = .returned (.bool b) ∧ Below w.heap.size w w' := by
  refine (hc.2 G w xs hi hx).mono ?_
  rintro e w' ⟨v, N, x, G', ⟨rfl, rfl⟩, rfl, h1, h2, h3⟩
  refine ⟨by rw [(vr_val h1).1], h3.os, h3.tape, h3.output, h3.size, fun k hk => h3.keep k hk ?_⟩
  rintro ⟨t, blk, β, hl, ho, _⟩
  rw [hn t blk hl] at ho; cases ho

theorem law_callsR {P : Program} {f : FuncId} {args : List LV} {M : Mem} {b : Bool} {G : Gh} {w : World} {xs : List Value} (hc : CallsR P f args M fun v _ => v = .B b) (hi : Inv G M w) (hn : NoOwn M) (hx : All2 (VR G) args xs) :
    Calls P f xs.toArray w fun e w' => e = .returned (.bool b) ∧ Below w.heap.size w w' := by
  refine (hc.2 G w xs hi hx).mono ?_
  rintro e w' ⟨v, N, x, G', rfl, rfl, h1, h2, h3⟩
  refine ⟨by rw [(vr_val h1).1], h3.os, h3.tape, h3.output, h3.size, fun k hk => h3.keep k hk ?_⟩
  rintro ⟨t, blk, β, hl, ho, _⟩
  rw [hn t blk hl] at ho; cases ho
end Go.Ab

/- A heap that came in, opened. -/
namespace Go.Ab
open Go Go.RowKit

section
variable {H : Type} {enc : TypeId × Value → H} {P : Program} {w : World} {held : Bool}

/-- What the abstract machine is told of a slice of cells that came in. -/
def RowOf (w : World) (a : Option Addr) (len cap : Nat) (cs : List Cell) : Prop :=
  cs.length = len ∧ len ≤ cap ∧ cap ≤ maxLen ∧ (cap = 0 ∨ ∃ b o c e fz, a = some ⟨b, o, none⟩ ∧ w.heap[b]? = some (.cells c e fz) ∧ ∀ i, i < len → ∀ j v, (cs.getD i default).row[j]? = some (.I v) → c[o + (i * 3 + j)]? = some (.int .i64 v))

theorem cell_heap {a : Addr} {v : Value} (h : w.cell? a = some v) : ∃ b o c e fz, a = ⟨b, o, none⟩ ∧ w.heap[b]? = some (.cells c e fz) ∧ c[o]? = some v := by
  unfold World.cell? at h
  split at h
  · rename_i c e fz hh
    split at h
    · cases h
    · rename_i hs
      obtain ⟨b, o, s⟩ := a
      cases s with
      | some s => simp at hs
      | none => exact ⟨b, o, c, e, fz, rfl, hh, h⟩
  · cases h

theorem open_cells {ts ta ti : TypeId} {fuel : Nat} {cs : List Value} {x : DataW H × List MemPlace} (hts : P.underlying ts = some (.slice ta)) (hta : P.underlying ta = some (.array 3 ti)) (hti : P.underlying ti = some (.int .i64)) (hca : P.cellsOf ta = 3) (hci : P.cellsOf ti = 1)
    (h : DataW.trod enc P w 0 (fun _ => true) held fuel ts cs = some x) : ∃ a len cap ds, cs = [.slice a len cap] ∧ RowOf w a len cap ds := by
  rcases Go.Deep.open_slice hts h with ⟨rfl, _⟩ | ⟨a, len, cap, m, n, D, Pl, rfl, _, hl, hm, hme, _, hel⟩
  · exact ⟨none, 0, 0, [], rfl, rfl, Nat.le_refl _, Nat.zero_le _, .inl rfl⟩
  · have hmc : m = cap := by simpa using hme
    subst hmc
    have hel' : ∀ i, i < m → ∃ z : Cell, ∀ j v, z.row[j]? = some (.I v) → w.cell? (a.add (i * 3 + j)) = some (.int .i64 v) := fun i hi => by
      obtain ⟨cs', h1, h2⟩ := hel i hi
      rw [hca] at h1
      have r3 : List.range 3 = [0, 1, 2] := rfl
      simp only [World.cells?, Nat.zero_le, if_true, r3, List.mapM_cons, List.mapM_nil, Option.bind_eq_bind, Option.bind_eq_some_iff, Option.pure_def, Option.some.injEq] at h1
      obtain ⟨c0, e0, r, ⟨c1, e1, r', ⟨c2, e2, r'', rfl, rfl⟩, rfl⟩, rfl⟩ := h1
      obtain ⟨y0, y1, y2, n', _, k0, k1, k2⟩ := Go.ChangeShapes.trod_array3 hta hci h2
      obtain ⟨z0, q0, _, _⟩ := DataW.trod_int hti k0
      obtain ⟨z1, q1, _, _⟩ := DataW.trod_int hti k1
      obtain ⟨z2, q2, _, _⟩ := DataW.trod_int hti k2
      simp only [List.cons.injEq, and_true] at q0 q1 q2
      subst q0; subst q1; subst q2
      simp only [Go.Deep.add_add] at e0 e1 e2
      refine ⟨⟨z0, z1, z2⟩, fun j v hj => ?_⟩
      match j with
      | 0 => cases hj; exact e0
      | 1 => cases hj; exact e1
      | 2 => cases hj; exact e2
      | j + 3 => cases hj
    obtain ⟨f, hf⟩ : ∃ f : Nat → Cell, ∀ i, i < m → ∀ j v, (f i).row[j]? = some (.I v) → w.cell? (a.add (i * 3 + j)) = some (.int .i64 v) :=
      ⟨fun i => if h : i < m then Classical.choose (hel' i h) else default, fun i hi => by simp only [hi, dif_pos]; exact Classical.choose_spec (hel' i hi)⟩
    refine ⟨some a, len, m, (List.range len).map f, rfl, by simp, hl, hm, ?_⟩
    rcases Nat.eq_zero_or_pos m with h0 | h0
    · exact .inl h0
    · refine .inr ?_
      have hc0 := hf 0 h0 0 (f 0).a rfl
      obtain ⟨b, o, c, e, fz, ha, hh, _⟩ := cell_heap hc0
      have ha' : a = ⟨b, o, none⟩ := by simpa [Addr.add] using ha
      subst ha'
      refine ⟨b, o, c, e, fz, rfl, hh, fun i hi j v hj => ?_⟩
      have hg : ((List.range len).map f).getD i default = f i := by simp [hi]
      rw [hg] at hj
      have hcell := hf i (by omega) j v hj
      have hadd : (⟨b, o, none⟩ : Addr).add (i * 3 + j) = ⟨b, o + (i * 3 + j), none⟩ := addr_add _ _ _
      rw [hadd] at hcell
      unfold World.cell? at hcell
      simp only [hh] at hcell
      simpa using hcell
end

/-- A row that came in is laid into the abstract memory, to be read. -/
theorem Inv.addRow {G : Gh} {M : Mem} {w : World} (hi : Inv G M w) (hno : NoOwn M) {a : Option Addr} {len cap esz : Nat} {ls : List LV} (hl : len ≤ cap) (hll : ls.length ≤ cap * esz)
    (h : (cap = 0 ∧ ls = []) ∨ ∃ b o c e fz, a = some ⟨b, o, none⟩ ∧ w.heap[b]? = some (.cells c e fz) ∧ ∀ j l, ls[j]? = some l → ∃ x, c[o + j]? = some x ∧ VR1 G l x) :
    ∃ G', Ext G G' ∧ Inv G' (M ++ [some (.row ls false esz)]) w ∧ NoOwn (M ++ [some (.row ls false esz)]) ∧ VR1 G' (.ref M.length 0 len) (.slice a len cap) := by
  obtain ⟨β, hβ, hv⟩ : ∃ β : Base, (∀ G' : Gh, Ext G G' → EmbB G' w (.row ls false esz) β) ∧ (∀ G' : Gh, G' M.length = some β → VR1 G' (.ref M.length 0 len) (.slice a len cap)) := by
    rcases h with ⟨rfl, rfl⟩ | ⟨b, o, c, e, fz, rfl, hh, hc⟩
    · refine ⟨⟨0, 0, esz, 0, true⟩, fun G' _ => ⟨rfl, .inl ⟨rfl, rfl⟩⟩, fun G' hg => ⟨_, hg, a, 0, rfl, .inl ⟨by omega, rfl⟩⟩⟩
    · refine ⟨⟨b, o, esz, cap * esz, false⟩, fun G' hx => ⟨rfl, .inr ⟨rfl, c, e, fz, hh, (fun h => by cases h), hll, fun j l hj => ?_⟩⟩, fun G' hg => ⟨_, hg, _, cap, rfl, .inr ⟨rfl, rfl, hl, by simp⟩⟩⟩
      obtain ⟨x, h1, h2⟩ := hc j l hj
      exact ⟨x, h1, h2.ext hx⟩
  have hx : Ext G (G.put M.length β) := Gh.put_ext (hi.top _ (Nat.le_refl _))
  have hat : (G.put M.length β) M.length = some β := by simp [Gh.put]
  have hno' : NoOwn (M ++ [some (.row ls false esz)]) := fun t b hb => by
    rcases live_push hb with ⟨_, h1⟩ | ⟨_, rfl⟩
    · exact hno t b h1
    · rfl
  refine ⟨G.put M.length β, hx, ⟨fun t b hb => ?_, fun t t' b b' γ γ' _ hb _ ho => ?_, fun t ht => ?_⟩, hno', hv _ hat⟩
  · rcases live_push hb with ⟨hlt, h1⟩ | ⟨rfl, rfl⟩
    · obtain ⟨γ, hg, he⟩ := hi.emb t b h1
      exact ⟨γ, hx _ _ hg, he.ext hx fun _ => rfl⟩
    · exact ⟨β, hat, hβ _ hx⟩
  · rw [hno' t b hb] at ho; cases ho
  · simp at ht
    unfold Gh.put
    rw [if_neg (by omega)]
    exact hi.top t (by omega)

theorem Inv.none (w : World) : Inv (fun _ => Option.none) [] w := ⟨fun t b h => by unfold Live at h; simp at h, fun t t' b b' _ _ _ h => by unfold Live at h; simp at h, fun _ _ => rfl⟩
theorem NoOwn.none : NoOwn [] := fun t b h => by unfold Live at h; simp at h

theorem Inv.addCells {G : Gh} {M : Mem} {w : World} (hi : Inv G M w) (hno : NoOwn M) {a : Option Addr} {len cap : Nat} {cs : List Cell} (h : RowOf w a len cap cs) :
    ∃ G', Ext G G' ∧ Inv G' (M ++ [some (.row (triL cs) false 3)]) w ∧ NoOwn (M ++ [some (.row (triL cs) false 3)]) ∧ VR1 G' (.ref M.length 0 len) (.slice a len cap) := by
  obtain ⟨h1, h2, h3, h4⟩ := h
  refine hi.addRow hno h2 (by rw [triL_len]; omega) ?_
  rcases h4 with h0 | ⟨b, o, c, e, fz, ha, hh, hc⟩
  · refine .inl ⟨h0, ?_⟩
    have : cs = [] := List.eq_nil_of_length_eq_zero (by omega)
    rw [this]; rfl
  · refine .inr ⟨b, o, c, e, fz, ha, hh, fun j l hj => ?_⟩
    have hjl : j < cs.length * 3 := by
      rw [← triL_len]
      rcases Nat.lt_or_ge j (triL cs).length with h | h
      · exact h
      · rw [List.getElem?_eq_none h] at hj; cases hj
    have hat := triL_at (cs := cs) (k := j / 3) (by omega)
    have hrow : (cs.getD (j / 3) default).row[j % 3]? = some l := by
      rw [← hat, List.getElem?_take, if_pos (Nat.mod_lt _ (by omega)), List.getElem?_drop]
      rw [show j / 3 * 3 + j % 3 = j by omega]; exact hj
    have hI : ∃ v, l = .I v := by
      have hm : j % 3 < 3 := Nat.mod_lt _ (by omega)
      generalize j % 3 = r at hrow hm
      match r with
      | 0 => cases hrow; exact ⟨_, rfl⟩
      | 1 => cases hrow; exact ⟨_, rfl⟩
      | 2 => cases hrow; exact ⟨_, rfl⟩
    obtain ⟨v, rfl⟩ := hI
    refine ⟨.int .i64 v, ?_, rfl, rfl⟩
    have := hc (j / 3) (by omega) (j % 3) v hrow
    rwa [show j / 3 * 3 + j % 3 = j by omega] at this
end Go.Ab
