/- Parts of the proof of FnExactFirstAlikeSaid: Cb Cc C_Bc K_Bc C_Bb K_Bb Bb C_Ba K_Ba C_Jw K_Jw C_Jv K_Jv C_Ju K_Ju Tx C_Vd K_Vd Vd Ve Jo Js Ju C_Ty K_Ty Ty C_Pf K_Pf Pf Jv Jt C_Tr K_Tr C_Tp K_Tp C_Tn K_Tn Tn Tp Tr Jw C_Bf K_Bf Bf C_Jp K_Jp C_Jg K_Jg Jg Jp C_El K_El C_Ej K_Ej C_Ed2 K_Ed2 C_Ec2 K_Ec2 C_Eg K_Eg C_Ef K_Ef C_Ee K_Ee C_Ed K_Ed C_Ec K_Ec C_Eb3 K_Eb3 C_Eb2 K_Eb2 Eb2 Eb3 Mb Mc Md Ec Ed Ee Ef C_Dh K_Dh C_Dg K_Dg C_Df K_Df Df Dg Dh Eg Me Mf Ec2 Ed2 Mh Ej Mg Mi C_Ek K_Ek Ek El Ba. -/
import Derived.Test.YtggnfklcgopflaaA5
import Derived.Test.YtggnfklcgopflaaA4
import Derived.Test.YtggnfklcgopflaaA7
import Derived.Test.YtggnfklcgopflaaA3
import Derived.Test.YtggnfklcgopflaaProg
import Derived.KernelRfl
import Derived.Test.YtggnfklcgopflaaA6
import Derived.Laws.Bits64
set_option linter.all false
/- Contracts: all rows and all tables with given sums, the reference's side. -/
namespace Go.Ab
open Go
set_option linter.unusedSimpArgs false
set_option linter.unusedVariables false
set_option maxRecDepth 20000

theorem h_l4Rows : ∀ (n : Nat) {s : Int} {M : Mem}, n ≤ 4 → 0 ≤ s → s ≤ 1000 →
    CallsR PG F.spec_l4Rows [.I n, .I s] M fun v N => ∃ u, v = .ref u 0 (rowsL n s).length ∧ Pre M N ∧ M.length ≤ u ∧ ∀ av : List Nat, (∀ a ∈ av, a < M.length) → TabR N u (rowsL n s) av
  | 0, s, M, hn, h0, h1 => by
    refine callsR_run K.spec_l4Rows rfl ?_
    unfold rowsL
    by_cases hs : s = 0
    · rw [if_pos hs]
      simp (disch := omega) only [C.spec_l4Rows, hs, ↓SXd, SXu, slBounds, ↓sop, ↓aop, ↓reduceIte, LV.cells, AOp.dst, LV.I, LV.B, LV.U, LV.S, LV.nil, Nat.reduceEqDiff, Nat.reduceAdd, Nat.reduceMul, Nat.reduceSub, Nat.reduceLeDiff, Nat.reduceBEq, Nat.reduceDiv, Nat.reduceMod, Int.reduceToNat, Int.reduceLT, Int.reduceLE, Int.reduceAdd, Int.reduceSub, Int.reduceMul, Int.reduceEq, Int.reduceNeg, reduceCtorEq, resV, resAll, ARes.ev, LV.flat, ite_true, ite_false, exists_eq_left', exists_eq_left, keyOf, implies_true, fillC, capOf]
      refine ⟨_, rfl, Pre.app _ _, by omega, fun av hav => ?_⟩
      have := tabR_one (N := M ++ [some (.row (intL []) true 1)]) (l := []) (u := M.length) (av := av) (Live.new (b := .row (intL []) true 1)).has (fun hm => by have := hav _ hm; omega) fun a ha => by have := hav a ha; simp; omega
      rw [List.append_assoc, List.length_append] at this
      exact this
    · rw [if_neg hs]
      simp (disch := omega) only [C.spec_l4Rows, hs, ↓SXd, SXu, slBounds, ↓sop, ↓aop, ↓reduceIte, LV.cells, AOp.dst, LV.I, LV.B, LV.U, LV.S, LV.nil, Nat.reduceEqDiff, Nat.reduceAdd, Nat.reduceMul, Nat.reduceSub, Nat.reduceLeDiff, Nat.reduceBEq, Nat.reduceDiv, Nat.reduceMod, Int.reduceToNat, Int.reduceLT, Int.reduceLE, Int.reduceAdd, Int.reduceSub, Int.reduceMul, Int.reduceEq, Int.reduceNeg, reduceCtorEq, resV, resAll, ARes.ev, LV.flat, ite_true, ite_false, exists_eq_left', exists_eq_left, keyOf, implies_true, fillC, capOf]
      exact ⟨_, rfl, Pre.app _ _, Nat.le_refl _, fun av hav => TabR.nil Live.new fun hm => by have := hav _ hm; omega⟩
  | n + 1, s, M, hn, h0, h1 => by
    have hne : ¬ ((n + 1 : Nat) : Int) = 0 := by omega
    have hc := rowsL_count (n := n + 1) (s := s)
    have hp : 2 ^ (n + 1) ≤ 2 ^ 4 := Nat.pow_le_pow_right (by omega) (by omega)
    have hpn : 2 ^ n ≤ 2 ^ 4 := Nat.pow_le_pow_right (by omega) (by omega)
    let P : Nat → List (List Int) := fun f => if f = 0 then [] else if f = 1 then (rowsL n s).map (0 :: ·) else rowsL (n + 1) s
    have hP2 : P 2 = rowsL (n + 1) s := rfl
    have hP1 : P 1 = (rowsL n s).map (0 :: ·) := rfl
    have hP0 : P 0 = [] := rfl
    refine callsR_run K.spec_l4Rows rfl ?_
    simp (disch := omega) only [C.spec_l4Rows, hne, ↓SXd, SXu, slBounds, ↓sop, ↓aop, ↓reduceIte, LV.cells, AOp.dst, LV.I, LV.B, LV.U, LV.S, LV.nil, Nat.reduceEqDiff, Nat.reduceAdd, Nat.reduceMul, Nat.reduceSub, Nat.reduceLeDiff, Nat.reduceBEq, Nat.reduceDiv, Nat.reduceMod, Int.reduceToNat, Int.reduceLT, Int.reduceLE, Int.reduceAdd, Int.reduceSub, Int.reduceMul, Int.reduceEq, Int.reduceNeg, reduceCtorEq, resV, resAll, ARes.ev, LV.flat, ite_true, ite_false, exists_eq_left', exists_eq_left, keyOf, implies_true, fillC, capOf]
    refine ev_loop (fun m fr M' => ∃ (f u : Nat), f + m = 2 ∧ (f = 2 → 1 ≤ s) ∧ Pre M M' ∧ M.length ≤ u ∧ (∀ av : List Nat, (∀ a ∈ av, a < M.length) → TabR M' u (P f) av) ∧
      fr 0 = .I ((n + 1 : Nat) : Int) ∧ fr 1 = .I s ∧ fr 5 = .ref u 0 (P f).length ∧ fr 6 = .I f) 2
      ⟨0, M.length, rfl, by omega, Pre.app _ _, Nat.le_refl _, fun av hav => TabR.nil Live.new fun hm => by have := hav _ hm; omega, rfl, rfl, rfl, rfl⟩ ?_
    rintro m fr M' ⟨f, u, hf, hf2, hpre, hu, hT, f0, f1, f5, f6⟩
    have hlast : ∀ f' : Nat, f' = f → (¬ (f : Int) < 2 ∨ ¬ (f : Int) ≤ s) → P f = rowsL (n + 1) s := fun f' _ hh => by
      rcases (show f = 0 ∨ f = 1 ∨ f = 2 by omega) with rfl | rfl | rfl
      · exfalso; omega
      · have : ¬ 1 ≤ s := by omega
        rw [hP1, rowsL_succ, if_pos h0, if_neg this, List.append_nil]
      · rfl
    by_cases hlt : (f : Int) < 2
    rotate_left
    · simp (disch := omega) only [f0, f1, f5, f6, hlt, ↓SXd, SXu, slBounds, ↓sop, ↓aop, ↓reduceIte, LV.cells, AOp.dst, LV.I, LV.B, LV.U, LV.S, LV.nil, Nat.reduceEqDiff, Nat.reduceAdd, Nat.reduceMul, Nat.reduceSub, Nat.reduceLeDiff, Nat.reduceBEq, Nat.reduceDiv, Nat.reduceMod, Int.reduceToNat, Int.reduceLT, Int.reduceLE, Int.reduceAdd, Int.reduceSub, Int.reduceMul, Int.reduceEq, Int.reduceNeg, reduceCtorEq, resV, resAll, ARes.ev, LV.flat, ite_true, ite_false, exists_eq_left', exists_eq_left, keyOf, implies_true, fillC, capOf]
      rw [← hlast f rfl (.inl hlt)] at *
      exact ⟨u, rfl, hpre, hu, hT⟩
    by_cases hle : (f : Int) ≤ s
    rotate_left
    · simp (disch := omega) only [f0, f1, f5, f6, hlt, hle, ↓SXd, SXu, slBounds, ↓sop, ↓aop, ↓reduceIte, LV.cells, AOp.dst, LV.I, LV.B, LV.U, LV.S, LV.nil, Nat.reduceEqDiff, Nat.reduceAdd, Nat.reduceMul, Nat.reduceSub, Nat.reduceLeDiff, Nat.reduceBEq, Nat.reduceDiv, Nat.reduceMod, Int.reduceToNat, Int.reduceLT, Int.reduceLE, Int.reduceAdd, Int.reduceSub, Int.reduceMul, Int.reduceEq, Int.reduceNeg, reduceCtorEq, resV, resAll, ARes.ev, LV.flat, ite_true, ite_false, exists_eq_left', exists_eq_left, keyOf, implies_true, fillC, capOf]
      rw [← hlast f rfl (.inr hle)] at *
      exact ⟨u, rfl, hpre, hu, hT⟩
    have hnx : P (f + 1) = P f ++ (rowsL n (s - f)).map ((f : Int) :: ·) := by
      rcases (show f = 0 ∨ f = 1 by omega) with rfl | rfl
      · rw [hP1, hP0]; simp
      · rw [hP2, hP1, rowsL_succ, if_pos h0, if_pos (by omega)]
        rfl
    have hcn := rowsL_count (n := n) (s := s - f)
    have hcf : (P f).length ≤ 16 := by
      rcases (show f = 0 ∨ f = 1 by omega) with rfl | rfl
      · simp [hP0]
      · rw [hP1, List.length_map]
        have := rowsL_count (n := n) (s := s)
        omega
    have hrl := fun r hr => rowsL_len (n := n) (s := s - f) (r := r) hr
    have hTu := hT [] (by simp)
    have hul := hTu.lt
    simp (disch := omega) only [f0, f1, f5, f6, hlt, hle, ↓SXd, SXu, slBounds, ↓sop, ↓aop, ↓reduceIte, LV.cells, AOp.dst, LV.I, LV.B, LV.U, LV.S, LV.nil, Nat.reduceEqDiff, Nat.reduceAdd, Nat.reduceMul, Nat.reduceSub, Nat.reduceLeDiff, Nat.reduceBEq, Nat.reduceDiv, Nat.reduceMod, Int.reduceToNat, Int.reduceLT, Int.reduceLE, Int.reduceAdd, Int.reduceSub, Int.reduceMul, Int.reduceEq, Int.reduceNeg, reduceCtorEq, resV, resAll, ARes.ev, LV.flat, ite_true, ite_false, exists_eq_left', exists_eq_left, keyOf, implies_true, fillC, capOf]
    have e1 : ((n + 1 : Nat) : Int) - 1 = (n : Int) := by omega
    rw [e1]
    refine callR_of (h_l4Rows n (by omega) (by omega) (by omega)) ?_
    rintro _ N ⟨ur, rfl, hpN, hur, hTr⟩
    have hTru := hTr [u] (fun a ha => by rw [List.mem_singleton.1 ha]; exact hul)
    generalize rowsL n (s - f) = R at hnx hcn hrl hTru ⊢
    have hTN : ∀ av : List Nat, (∀ a ∈ av, a < M.length) → TabR N u (P f ++ (R.take 0).map ((f : Int) :: ·)) av := fun av hav => by
      rw [List.take_zero, List.map_nil, List.append_nil]; exact (hT av hav).pre hpN
    simp (disch := omega) only [f0, f1, f5, f6, ↓SXd, SXu, slBounds, ↓sop, ↓aop, ↓reduceIte, LV.cells, AOp.dst, LV.I, LV.B, LV.U, LV.S, LV.nil, Nat.reduceEqDiff, Nat.reduceAdd, Nat.reduceMul, Nat.reduceSub, Nat.reduceLeDiff, Nat.reduceBEq, Nat.reduceDiv, Nat.reduceMod, Int.reduceToNat, Int.reduceLT, Int.reduceLE, Int.reduceAdd, Int.reduceSub, Int.reduceMul, Int.reduceEq, Int.reduceNeg, reduceCtorEq, resV, resAll, ARes.ev, LV.flat, ite_true, ite_false, exists_eq_left', exists_eq_left, keyOf, implies_true, fillC, capOf]
    refine ev_loop (fun m2 fr M2 => ∃ (i u2 : Nat), i + m2 = R.length ∧ Pre M M2 ∧ M.length ≤ u2 ∧ TabR M2 ur R [u2] ∧ (∀ av : List Nat, (∀ a ∈ av, a < M.length) → TabR M2 u2 (P f ++ (R.take i).map ((f : Int) :: ·)) av) ∧
      fr 0 = .I ((n + 1 : Nat) : Int) ∧ fr 1 = .I s ∧ fr 5 = .ref u2 0 (P f ++ (R.take i).map ((f : Int) :: ·)).length ∧ fr 6 = .I f ∧ fr 7 = .ref ur 0 R.length ∧ fr 8 = .I i) R.length
      ⟨0, u, by omega, hpre.trans hpN, hu, hTru, hTN, f0, f1, by rw [List.take_zero, List.map_nil, List.append_nil]; exact f5, f6, rfl, rfl⟩ ?_
    clear f0 f1 f5 f6 hTN hTru hT hTu
    rintro m2 fr M2 ⟨i, u2, hi, hpre2, hu2, hTr, hT, f0, f1, f5, f6, f7, f8⟩
    simp (disch := omega) only [f0, f1, f5, f6, f7, f8, ↓SXd, SXu, slBounds, ↓sop, ↓aop, ↓reduceIte, LV.cells, AOp.dst, LV.I, LV.B, LV.U, LV.S, LV.nil, Nat.reduceEqDiff, Nat.reduceAdd, Nat.reduceMul, Nat.reduceSub, Nat.reduceLeDiff, Nat.reduceBEq, Nat.reduceDiv, Nat.reduceMod, Int.reduceToNat, Int.reduceLT, Int.reduceLE, Int.reduceAdd, Int.reduceSub, Int.reduceMul, Int.reduceEq, Int.reduceNeg, reduceCtorEq, resV, resAll, ARes.ev, LV.flat, ite_true, ite_false, exists_eq_left', exists_eq_left, keyOf, implies_true, fillC, capOf]
    refine condC_dec (fun hlt2 => ?_) (fun hlt2 => ?_)
    rotate_left
    · have : i = R.length := by omega
      subst this
      rw [List.take_length, ← hnx] at hT f5
      simp (disch := omega) only [f0, f1, f5, f6, f7, f8, ↓SXd, SXu, slBounds, ↓sop, ↓aop, ↓reduceIte, LV.cells, AOp.dst, LV.I, LV.B, LV.U, LV.S, LV.nil, Nat.reduceEqDiff, Nat.reduceAdd, Nat.reduceMul, Nat.reduceSub, Nat.reduceLeDiff, Nat.reduceBEq, Nat.reduceDiv, Nat.reduceMod, Int.reduceToNat, Int.reduceLT, Int.reduceLE, Int.reduceAdd, Int.reduceSub, Int.reduceMul, Int.reduceEq, Int.reduceNeg, reduceCtorEq, resV, resAll, ARes.ev, LV.flat, ite_true, ite_false, exists_eq_left', exists_eq_left, keyOf, implies_true, fillC, capOf]
      exact ⟨m - 1, by omega, f + 1, u2, by omega, by omega, hpre2, hu2, hT, f0, f1, f5, eqI (natI _)⟩
    have hil : i < R.length := by omega
    obtain ⟨w, hg, hI⟩ := hTr.at hil
    have hrow := hrl _ (getD_mem' (d := []) hil)
    have hts : R.take (i + 1) = R.take i ++ [R.getD i []] := by
      rw [List.take_succ, List.getElem?_eq_getElem hil]; simp [hil]
    generalize R.getD i [] = row at hg hI hrow hts
    have hTu2 := hT [] (by simp)
    have hlen2 : (P f ++ (R.take i).map ((f : Int) :: ·)).length ≤ 32 := by
      rw [List.length_append, List.length_map]
      have := List.length_take_le i R
      omega
    have hul2 := hTu2.lt
    have hpl2 := hpre2.1
    have hg' : getCell (M2 ++ [some (.row [.I f] true 1)]) ur i = some (.ref w 0 row.length) := by
      rw [getCell_app hTr.lt]; exact hg
    simp (disch := omega) only [f0, f1, f5, f6, f7, f8, hg', ↓SXd, SXu, slBounds, ↓sop, ↓aop, ↓reduceIte, LV.cells, AOp.dst, LV.I, LV.B, LV.U, LV.S, LV.nil, Nat.reduceEqDiff, Nat.reduceAdd, Nat.reduceMul, Nat.reduceSub, Nat.reduceLeDiff, Nat.reduceBEq, Nat.reduceDiv, Nat.reduceMod, Int.reduceToNat, Int.reduceLT, Int.reduceLE, Int.reduceAdd, Int.reduceSub, Int.reduceMul, Int.reduceEq, Int.reduceNeg, reduceCtorEq, resV, resAll, ARes.ev, LV.flat, ite_true, ite_false, exists_eq_left', exists_eq_left, keyOf, implies_true, fillC, capOf]
    refine appendK_list (e := 1) (b := 8) (acc := [.I f]) (n := 1) (new := intL row) (n2 := row.length) Live.new rfl hI.app (by rw [intL_len]; omega) (by omega) (by omega) fun u5 N5 k1 k2 k3 k4 => ?_
    rw [List.length_append, List.length_singleton] at k1 k3 k4
    have hrow5 : Live N5 u5 (.row (intL ((f : Int) :: row)) true 1) := k2
    have hp5 : ∀ q, q < M2.length → N5[q]? = M2[q]? := fun q hq => by rw [k4 q (by omega) (by omega), List.getElem?_append_left hq]
    have hP5 : Pre M2 N5 := ⟨by omega, hp5⟩
    have hu5 : M2.length ≤ u5 := by omega
    have hone : ∀ av : List Nat, (∀ a ∈ av, a < M2.length) → TabR (N5 ++ [some (.row [.ref u5 0 ((f : Int) :: row).length] true 1)]) N5.length [(f : Int) :: row] av := fun av hav => tabR_one hrow5.has (fun hm => by have := hav _ hm; omega) fun a ha => by have := hav a ha; omega
    have e2 : 1 + row.length = ((f : Int) :: row).length := by simp; omega
    have hone1 := hone [u2] fun a ha => by rw [List.mem_singleton.1 ha]; exact hul2
    rw [e2]
    simp (disch := omega) only [f0, f1, f5, f6, f7, f8, ↓SXd, SXu, slBounds, ↓sop, ↓aop, ↓reduceIte, LV.cells, AOp.dst, LV.I, LV.B, LV.U, LV.S, LV.nil, Nat.reduceEqDiff, Nat.reduceAdd, Nat.reduceMul, Nat.reduceSub, Nat.reduceLeDiff, Nat.reduceBEq, Nat.reduceDiv, Nat.reduceMod, Int.reduceToNat, Int.reduceLT, Int.reduceLE, Int.reduceAdd, Int.reduceSub, Int.reduceMul, Int.reduceEq, Int.reduceNeg, reduceCtorEq, resV, resAll, ARes.ev, LV.flat, ite_true, ite_false, exists_eq_left', exists_eq_left, keyOf, implies_true, fillC, capOf]
    refine appendK_tabs (L2 := [(f : Int) :: row]) (hTu2.pre (hP5.trans (Pre.app _ _))) hone1 (by simp only [List.length_singleton]; omega) fun u6 N6 l1 l2 l3 l4 => ?_
    rw [List.length_append, List.length_singleton] at l1 l3 l4
    simp (disch := omega) only [f0, f1, f5, f6, f7, f8, ↓SXd, SXu, slBounds, ↓sop, ↓aop, ↓reduceIte, LV.cells, AOp.dst, LV.I, LV.B, LV.U, LV.S, LV.nil, Nat.reduceEqDiff, Nat.reduceAdd, Nat.reduceMul, Nat.reduceSub, Nat.reduceLeDiff, Nat.reduceBEq, Nat.reduceDiv, Nat.reduceMod, Int.reduceToNat, Int.reduceLT, Int.reduceLE, Int.reduceAdd, Int.reduceSub, Int.reduceMul, Int.reduceEq, Int.reduceNeg, reduceCtorEq, resV, resAll, ARes.ev, LV.flat, ite_true, ite_false, exists_eq_left', exists_eq_left, keyOf, implies_true, fillC, capOf]
    have hk6 : ∀ q, q ≠ u2 → q < M2.length → N6[q]? = M2[q]? := fun q q1 q2 => by rw [l4 q q1 (by omega), List.getElem?_append_left (by omega)]; exact hp5 q q2
    have hstep : P f ++ (R.take (i + 1)).map ((f : Int) :: ·) = (P f ++ (R.take i).map ((f : Int) :: ·)) ++ [(f : Int) :: row] := by rw [hts, List.map_append, List.append_assoc]; rfl
    refine ⟨m2 - 1, by omega, i + 1, u6, by omega, ⟨by omega, fun q hq => by rw [hk6 q (by omega) (by omega)]; exact hpre2.2 q hq⟩, by omega, hTr.keep (fun q q1 q2 => hk6 q (by simpa using q1) q2) fun q hq => by
      rw [List.mem_singleton.1 hq]
      rcases l3 with rfl | l3
      · exact .inl (by simp)
      · exact .inr (by omega), fun av hav => ?_, f0, f1, ?_, f6, f7, eqI (natI _)⟩
    · rw [hstep]
      exact l2 av ((hT av hav).pre (hP5.trans (Pre.app _ _))) (hone (u2 :: av) fun a ha => by
        rcases List.mem_cons.1 ha with rfl | ha
        · exact hul2
        · have := hav a ha; omega) fun a ha => by have := hav a ha; simp; omega
    · rw [hstep]; simp only [List.length_append, List.length_singleton]; rfl
end Go.Ab

/- Contracts: all tables with given sums, the reference's side. -/
namespace Go.Ab
open Go
set_option linter.unusedSimpArgs false
set_option linter.unusedVariables false
set_option maxRecDepth 20000

theorem Live.getE {M : Mem} {t e : Nat} {cs : List LV} {w : Bool} (h : Live M t (.row cs w e)) : getEsz M t = some e := by
  unfold getEsz
  rw [show M[t]? = some (some (.row cs w e)) from h]
/-- A list of tables none of whose blocks is among av. -/
def Tab3 (N : Mem) (t : Nat) (L : List (List (List Int))) (av : List Nat) : Prop := ∃ refs : List LV, Live N t (.row refs true 1) ∧ refs.length = L.length ∧ t ∉ av ∧ ∀ i, i < L.length → ∃ u, u ≠ t ∧ u ∉ av ∧ refs[i]? = some (.ref u 0 (L.getD i []).length) ∧ TabR N u (L.getD i []) (t :: av)
theorem Tab3.keep {N N' : Mem} {t : Nat} {L : List (List (List Int))} {av av' : List Nat} (h : Tab3 N t L av) (hk : ∀ q, q ∉ av → q < N.length → N'[q]? = N[q]?) (ha : ∀ q, q ∈ av' → q ∈ av ∨ N.length ≤ q) : Tab3 N' t L av' := by
  obtain ⟨refs, h1, h2, h3, h4⟩ := h
  have hno : ∀ q, q ∉ av → q < N.length → q ∉ av' := fun q h1 h2 h3 => (ha q h3).elim h1 (by omega)
  refine ⟨refs, Live.at h1 (hk _ h3 h1.lt), h2, hno _ h3 h1.lt, fun i hi => ?_⟩
  obtain ⟨u, q1, q2, q3, q4⟩ := h4 i hi
  exact ⟨u, q1, hno _ q2 q4.lt, q3, q4.keep (fun q p1 p2 => hk q (fun hm => p1 (by simp [hm])) p2) fun q hq => by
    rcases List.mem_cons.1 hq with rfl | hq
    · exact .inl (by simp)
    · rcases ha q hq with h | h
      · exact .inl (by simp [h])
      · exact .inr h⟩
theorem Tab3.pre {N N' : Mem} {t : Nat} {L : List (List (List Int))} {av : List Nat} (h : Tab3 N t L av) (hp : Pre N N') : Tab3 N' t L av := h.keep (fun q _ h => hp.2 q h) fun q h => .inl h
theorem Tab3.nil {N : Mem} {t : Nat} {av : List Nat} (h : Live N t (.row [] true 1)) (ha : t ∉ av) : Tab3 N t [] av := ⟨[], h, rfl, ha, fun i hi => by simp at hi⟩
theorem Tab3.lt {N : Mem} {t : Nat} {L : List (List (List Int))} {av : List Nat} (h : Tab3 N t L av) : t < N.length := by
  obtain ⟨refs, h1, _⟩ := h
  exact h1.lt
theorem Tab3.at {N : Mem} {t : Nat} {L : List (List (List Int))} {av : List Nat} (h : Tab3 N t L av) {i : Nat} (hi : i < L.length) : ∃ u : Nat, getCell N t i = some (.ref u 0 (L.getD i []).length) ∧ TabR N u (L.getD i []) (t :: av) := by
  obtain ⟨refs, h1, h2, h3, h4⟩ := h
  obtain ⟨u, q1, q2, q3, q4⟩ := h4 i hi
  exact ⟨u, by rw [← q3]; exact h1.cell, q4⟩
theorem tab3_one {N : Mem} {T : List (List Int)} {u : Nat} {av : List Nat} (h : TabR N u T av) (ha : ∀ a ∈ av, a < N.length) : Tab3 (N ++ [some (.row [.ref u 0 T.length] true 1)]) N.length [T] av := by
  have hul := h.lt
  obtain ⟨_, _, _, hua, _⟩ := id h
  refine ⟨[.ref u 0 T.length], Live.new, rfl, fun hm => by have := ha _ hm; omega, fun i hi => ?_⟩
  simp at hi
  subst hi
  refine ⟨u, by omega, hua, rfl, h.keep (fun q _ hq => List.getElem?_append_left hq) fun q hq => ?_⟩
  rcases List.mem_cons.1 hq with rfl | hq
  · exact .inr (Nat.le_refl _)
  · exact .inl hq
/-- Tables go behind a list of tables. -/
theorem appendK_tab3 {N : Mem} {t t2 : Nat} {L L2 : List (List (List Int))} {A : LV → Mem → Prop} (h : Tab3 N t L []) (h2 : Tab3 N t2 L2 [t]) (hl : L.length + L2.length ≤ 1000000000000)
    (hA : ∀ u M', N.length ≤ M'.length → (∀ av : List Nat, Tab3 N t L av → Tab3 N t2 L2 (t :: av) → (∀ a ∈ av, a < N.length) → Tab3 M' u (L ++ L2) av) → (u = t ∨ N.length ≤ u) → (∀ w, w ≠ t → w < N.length → M'[w]? = N[w]?) → A (.ref u 0 (L.length + L2.length)) M') : appendK 1 24 (.ref t 0 L.length) (.ref t2 0 L2.length) N A := by
  obtain ⟨refs, h1, hr, _⟩ := h
  obtain ⟨refs2, g1, gr, _⟩ := h2
  have g1' : Has N t2 0 refs2 := g1.has
  refine appendK_list (acc := refs) (new := refs2) h1 (by omega) g1' (by omega) (by omega) (by omega) fun u M' k1 k2 k3 k4 => hA u M' k1 (fun av h h2 hav => ?_) k3 k4
  obtain ⟨refs', h1', hr', h3, h4⟩ := h
  obtain ⟨refs2', g1'', gr', g3, g4⟩ := h2
  cases live_row h1 h1'
  cases live_row g1 g1''
  refine ⟨refs ++ refs2, k2, by simp [hr, gr], ?_, fun i hi => ?_⟩
  · rcases k3 with rfl | k3
    · exact h3
    · exact fun hm => by have := hav u hm; omega
  · have fin : ∀ v, v ≠ t → v < N.length → v ≠ u := fun v hv hlt e => by
      subst e
      rcases k3 with rfl | k3
      · exact hv rfl
      · omega
    rw [List.length_append] at hi
    by_cases hi2 : i < L.length
    · obtain ⟨v, q1, q2, q3, q4⟩ := h4 i hi2
      have hg : (L ++ L2).getD i [] = L.getD i [] := by simp only [List.getD_eq_getElem?_getD]; rw [List.getElem?_append_left hi2]
      rw [hg]
      refine ⟨v, fin v q1 q4.lt, q2, by rw [List.getElem?_append_left (by omega)]; exact q3, q4.keep (fun q p1 p2 => k4 q (fun e => p1 (by simp [e])) p2) fun q hq => ?_⟩
      rcases List.mem_cons.1 hq with rfl | hq
      · rcases k3 with rfl | k3
        · exact .inl (by simp)
        · exact .inr k3
      · exact .inl (by simp [hq])
    · obtain ⟨v, q1, q2, q3, q4⟩ := g4 (i - L.length) (by omega)
      have hg : (L ++ L2).getD i [] = L2.getD (i - L.length) [] := by simp only [List.getD_eq_getElem?_getD]; rw [List.getElem?_append_right (by omega)]
      rw [hg]
      have hvt : v ≠ t := fun e => q2 (by simp [e])
      refine ⟨v, fin v hvt q4.lt, fun hm => q2 (by simp [hm]), by rw [List.getElem?_append_right (by omega), hr]; exact q3, q4.keep (fun q p1 p2 => k4 q (fun e => p1 (by simp [e])) p2) fun q hq => ?_⟩
      rcases List.mem_cons.1 hq with rfl | hq
      · rcases k3 with rfl | k3
        · exact .inl (by simp)
        · exact .inr k3
      · exact .inl (by simp [hq])

theorem TabR.less {N : Mem} {t : Nat} {L : List (List Int)} {av av' : List Nat} (h : TabR N t L av) (ha : ∀ q ∈ av', q ∈ av) : TabR N t L av' := h.keep (fun q _ _ => rfl) fun q hq => .inl (ha q hq)
theorem Tab3.less {N : Mem} {t : Nat} {L : List (List (List Int))} {av av' : List Nat} (h : Tab3 N t L av) (ha : ∀ q ∈ av', q ∈ av) : Tab3 N t L av' := h.keep (fun q _ _ => rfl) fun q hq => .inl (ha q hq)
theorem TabR.atX {N : Mem} {t uo : Nat} {L : List (List Int)} {P : List Nat → Prop} (h : ∀ av, P av → TabR N t L (uo :: av)) (h0 : P []) {i : Nat} (hi : i < L.length) : ∃ w : Nat, getCell N t i = some (.ref w 0 (L.getD i []).length) ∧ Ints N w 0 (L.getD i []) ∧ ∀ av, P av → w ∉ uo :: av := by
  obtain ⟨refs, h1, h2, h3, h4⟩ := h [] h0
  obtain ⟨w, q1, q2, q3, q4⟩ := h4 i hi
  refine ⟨w, by rw [← q3]; exact h1.cell, q4, fun av hav => ?_⟩
  obtain ⟨refs', g1, g2, g3, g4⟩ := h av hav
  cases live_row h1 g1
  obtain ⟨w', p1, p2, p3, p4⟩ := g4 i hi
  rw [q3] at p3
  cases p3
  exact p2
theorem Tab3.atX {N : Mem} {t uo : Nat} {L : List (List (List Int))} {P : List Nat → Prop} (h : ∀ av, P av → Tab3 N t L (uo :: av)) (h0 : P []) {i : Nat} (hi : i < L.length) : ∃ v : Nat, getCell N t i = some (.ref v 0 (L.getD i []).length) ∧ ∀ av, P av → TabR N v (L.getD i []) (t :: uo :: av) := by
  obtain ⟨refs, h1, h2, h3, h4⟩ := h [] h0
  obtain ⟨w, q1, q2, q3, q4⟩ := h4 i hi
  refine ⟨w, by rw [← q3]; exact h1.cell, fun av hav => ?_⟩
  obtain ⟨refs', g1, g2, g3, g4⟩ := h av hav
  cases live_row h1 g1
  obtain ⟨w', p1, p2, p3, p4⟩ := g4 i hi
  rw [q3] at p3
  cases p3
  exact p4

/-- What is left behind so many columns. -/
def leftK (cols row : List Int) (k : Nat) : List Int := subR (cols.take k) (row.take k) ++ cols.drop k
theorem leftK_zero {cols row : List Int} : leftK cols row 0 = cols := by simp [leftK, subR]
theorem leftK_all {cols row : List Int} (h : row.length = cols.length) : leftK cols row cols.length = subR cols row := by
  unfold leftK
  rw [List.take_of_length_le (Nat.le_refl _), List.take_of_length_le (by omega), List.drop_length, List.append_nil]
theorem leftK_len {cols row : List Int} {k : Nat} (h : row.length = cols.length) (hk : k ≤ cols.length) : (leftK cols row k).length = cols.length := by
  unfold leftK
  rw [List.length_append, subR_len (by simp; omega)]; simp; omega
theorem leftK_get {cols row : List Int} {k : Nat} (h : row.length = cols.length) (hk : k < cols.length) : (leftK cols row k).getD k 0 = cols.getD k 0 := by
  unfold leftK
  have hl : (subR (cols.take k) (row.take k)).length = k := by rw [subR_len (by simp; omega)]; simp; omega
  simp only [List.getD_eq_getElem?_getD]
  rw [List.getElem?_append_right (by omega), hl, Nat.sub_self, List.getElem?_drop, Nat.add_zero]
theorem leftK_succ {cols row : List Int} {k : Nat} (h : row.length = cols.length) (hk : k < cols.length) : leftK cols row (k + 1) = (leftK cols row k).set k (cols.getD k 0 - row.getD k 0) := by
  have hl : (subR (cols.take k) (row.take k)).length = k := by rw [subR_len (by simp; omega)]; simp; omega
  have e1 : cols.take (k + 1) = cols.take k ++ [cols.getD k 0] := by rw [List.take_succ, List.getElem?_eq_getElem hk]; simp [hk]
  have e2 : row.take (k + 1) = row.take k ++ [row.getD k 0] := by rw [List.take_succ, List.getElem?_eq_getElem (by omega)]; simp [show k < row.length by omega]
  have e3 : cols.drop k = cols.getD k 0 :: cols.drop (k + 1) := by rw [List.drop_eq_getElem_cons hk]; simp [hk]
  unfold leftK
  rw [List.set_append_right (h := by omega), hl, Nat.sub_self, e3, List.set_cons_zero, e1, e2]
  unfold subR
  rw [List.zipWith_append (by simp; omega), List.append_assoc]
  rfl
theorem okR_succ {cols row : List Int} {k : Nat} (h : row.length = cols.length) (hk : k < cols.length) : okR (cols.take (k + 1)) (row.take (k + 1)) = (okR (cols.take k) (row.take k) && decide (0 ≤ cols.getD k 0 - row.getD k 0)) := by
  have e1 : cols.take (k + 1) = cols.take k ++ [cols.getD k 0] := by rw [List.take_succ, List.getElem?_eq_getElem hk]; simp [hk]
  have e2 : row.take (k + 1) = row.take k ++ [row.getD k 0] := by rw [List.take_succ, List.getElem?_eq_getElem (by omega)]; simp [show k < row.length by omega]
  unfold okR
  rw [e1, e2, List.zipWith_append (by simp; omega), List.all_append]
  simp
theorem subR_bound {cols row : List Int} {b : Int} (hc : ∀ a ∈ cols, a ≤ b) (hr : ∀ a ∈ row, 0 ≤ a) : ∀ a ∈ subR cols row, a ≤ b := by
  intro a ha
  unfold subR at ha
  rw [List.mem_iff_getElem] at ha
  obtain ⟨i, hi, rfl⟩ := ha
  rw [List.length_zipWith] at hi
  rw [List.getElem_zipWith]
  have h1 := hc cols[i] (List.getElem_mem _)
  have h2 := hr row[i] (List.getElem_mem _)
  omega
theorem take_snocL {α : Type} {l : List α} {i : Nat} (d : α) (h : i < l.length) : l.take (i + 1) = l.take i ++ [l.getD i d] := by
  rw [List.take_succ, List.getElem?_eq_getElem h]; simp [h]
set_option maxHeartbeats 1000000 in
theorem h_l4Tables : ∀ (rows : List Int) {R0 cols : List Int} {tr o tc : Nat} {M : Mem}, rows.length ≤ 4 → cols.length ≤ 4 → (∀ a ∈ cols, 0 ≤ a ∧ a ≤ 1000) → (∀ r ∈ rows, 0 ≤ r ∧ r ≤ 1000) → Live M tr (.row (intL R0) true 1) → R0.drop o = rows → Ints M tc 0 cols →
    CallsR PG F.spec_l4Tables [.ref tr o rows.length, .ref tc 0 cols.length] M fun v N => ∃ u, v = .ref u 0 (tabsL rows cols).length ∧ Pre M N ∧ M.length ≤ u ∧ ∀ av : List Nat, (∀ a ∈ av, a < M.length) → Tab3 N u (tabsL rows cols) av
  | [], R0, cols, tr, o, tc, M, hrl, hcl, hc, hr, hR, hro, hI => by
    refine callsR_run K.spec_l4Tables rfl ?_
    simp (disch := omega) only [C.spec_l4Tables, ↓SXd, SXu, slBounds, ↓sop, ↓aop, ↓reduceIte, LV.cells, AOp.dst, LV.I, LV.B, LV.U, LV.S, LV.nil, Nat.reduceEqDiff, Nat.reduceAdd, Nat.reduceMul, Nat.reduceSub, Nat.reduceLeDiff, Nat.reduceBEq, Nat.reduceDiv, Nat.reduceMod, Int.reduceToNat, Int.reduceLT, Int.reduceLE, Int.reduceAdd, Int.reduceSub, Int.reduceMul, Int.reduceEq, Int.reduceNeg, reduceCtorEq, resV, resAll, ARes.ev, LV.flat, ite_true, ite_false, exists_eq_left', exists_eq_left, keyOf, implies_true, fillC, capOf]
    unfold tabsL
    refine ev_loop (fun m fr M' => ∃ k : Nat, k + m = cols.length ∧ M' = M ∧ (∀ a ∈ cols.take k, a = 0) ∧ fr 1 = .ref tc 0 cols.length ∧ fr 5 = .I k) cols.length
      ⟨0, by omega, rfl, by simp, rfl, rfl⟩ ?_
    rintro m fr M' ⟨k, hk, rfl, hz, f1, f5⟩
    simp (disch := omega) only [f1, f5, ↓SXd, SXu, slBounds, ↓sop, ↓aop, ↓reduceIte, LV.cells, AOp.dst, LV.I, LV.B, LV.U, LV.S, LV.nil, Nat.reduceEqDiff, Nat.reduceAdd, Nat.reduceMul, Nat.reduceSub, Nat.reduceLeDiff, Nat.reduceBEq, Nat.reduceDiv, Nat.reduceMod, Int.reduceToNat, Int.reduceLT, Int.reduceLE, Int.reduceAdd, Int.reduceSub, Int.reduceMul, Int.reduceEq, Int.reduceNeg, reduceCtorEq, resV, resAll, ARes.ev, LV.flat, ite_true, ite_false, exists_eq_left', exists_eq_left, keyOf, implies_true, fillC, capOf]
    refine condC_dec (fun hlt => ?_) (fun hlt => ?_)
    · have hkl : k < cols.length := by omega
      have hg := Ints.get hI hkl
      rw [Nat.zero_add] at hg
      have hts := take_snocL 0 hkl
      have hm := getD_mem' (d := 0) hkl
      generalize cols.getD k 0 = a at hg hts hm
      simp (disch := omega) only [f1, f5, hg, ↓SXd, SXu, slBounds, ↓sop, ↓aop, ↓reduceIte, LV.cells, AOp.dst, LV.I, LV.B, LV.U, LV.S, LV.nil, Nat.reduceEqDiff, Nat.reduceAdd, Nat.reduceMul, Nat.reduceSub, Nat.reduceLeDiff, Nat.reduceBEq, Nat.reduceDiv, Nat.reduceMod, Int.reduceToNat, Int.reduceLT, Int.reduceLE, Int.reduceAdd, Int.reduceSub, Int.reduceMul, Int.reduceEq, Int.reduceNeg, reduceCtorEq, resV, resAll, ARes.ev, LV.flat, ite_true, ite_false, exists_eq_left', exists_eq_left, keyOf, implies_true, fillC, capOf]
      by_cases ha : a = 0
      · simp (disch := omega) only [f1, f5, ha, ↓SXd, SXu, slBounds, ↓sop, ↓aop, ↓reduceIte, LV.cells, AOp.dst, LV.I, LV.B, LV.U, LV.S, LV.nil, Nat.reduceEqDiff, Nat.reduceAdd, Nat.reduceMul, Nat.reduceSub, Nat.reduceLeDiff, Nat.reduceBEq, Nat.reduceDiv, Nat.reduceMod, Int.reduceToNat, Int.reduceLT, Int.reduceLE, Int.reduceAdd, Int.reduceSub, Int.reduceMul, Int.reduceEq, Int.reduceNeg, reduceCtorEq, resV, resAll, ARes.ev, LV.flat, ite_true, ite_false, exists_eq_left', exists_eq_left, keyOf, implies_true, fillC, capOf]
        refine ⟨m - 1, by omega, k + 1, by omega, rfl, fun b hb => ?_, f1, eqI (natI _)⟩
        rw [hts] at hb
        rcases List.mem_append.1 hb with hb | hb
        · exact hz b hb
        · rw [List.mem_singleton.1 hb]; exact ha
      · have hno : ¬ (cols.all fun v => decide (v = 0)) = true := fun e => by
          rw [List.all_eq_true] at e
          exact ha (of_decide_eq_true (e a hm))
        rw [if_neg hno]
        simp (disch := omega) only [f1, f5, ha, ↓SXd, SXu, slBounds, ↓sop, ↓aop, ↓reduceIte, LV.cells, AOp.dst, LV.I, LV.B, LV.U, LV.S, LV.nil, Nat.reduceEqDiff, Nat.reduceAdd, Nat.reduceMul, Nat.reduceSub, Nat.reduceLeDiff, Nat.reduceBEq, Nat.reduceDiv, Nat.reduceMod, Int.reduceToNat, Int.reduceLT, Int.reduceLE, Int.reduceAdd, Int.reduceSub, Int.reduceMul, Int.reduceEq, Int.reduceNeg, reduceCtorEq, resV, resAll, ARes.ev, LV.flat, ite_true, ite_false, exists_eq_left', exists_eq_left, keyOf, implies_true, fillC, capOf]
        exact ⟨_, rfl, Pre.app _ _, Nat.le_refl _, fun av hav => Tab3.nil Live.new fun hm => by have := hav _ hm; omega⟩
    · have : k = cols.length := by omega
      subst this
      rw [List.take_length] at hz
      have hyes : (cols.all fun v => decide (v = 0)) = true := by
        rw [List.all_eq_true]; exact fun a ha => decide_eq_true (hz a ha)
      rw [if_pos hyes]
      simp (disch := omega) only [f1, f5, ↓SXd, SXu, slBounds, ↓sop, ↓aop, ↓reduceIte, LV.cells, AOp.dst, LV.I, LV.B, LV.U, LV.S, LV.nil, Nat.reduceEqDiff, Nat.reduceAdd, Nat.reduceMul, Nat.reduceSub, Nat.reduceLeDiff, Nat.reduceBEq, Nat.reduceDiv, Nat.reduceMod, Int.reduceToNat, Int.reduceLT, Int.reduceLE, Int.reduceAdd, Int.reduceSub, Int.reduceMul, Int.reduceEq, Int.reduceNeg, reduceCtorEq, resV, resAll, ARes.ev, LV.flat, ite_true, ite_false, exists_eq_left', exists_eq_left, keyOf, implies_true, fillC, capOf]
      refine ⟨_, rfl, Pre.app _ _, by omega, fun av hav => ?_⟩
      have := tab3_one (N := M' ++ [some (.row [] true 1)]) (T := []) (u := M'.length) (av := av) (TabR.nil Live.new fun hm => by have := hav _ hm; omega) fun a ha => by have := hav a ha; simp; omega
      rw [List.append_assoc, List.length_append] at this
      exact this
  | r :: rs, R0, cols, tr, o, tc, M, hrl, hcl, hc, hr, hR, hro, hI => by
    have hne : ¬ (((r :: rs).length : Nat) : Int) = 0 := by rw [List.length_cons]; omega
    have hr0 := hr r (by simp)
    have hgr : getCell M tr o = some (.I r) := by
      rw [hR.cell]
      have : R0[o]? = some r := by
        have := congrArg (fun l => l[0]?) hro
        simpa using this
      unfold intL
      rw [List.getElem?_map, this]; rfl
    have hlen : rs.length + 1 ≤ 4 := by simpa using hrl
    have hcount := tabsL_count (n := cols.length) (rs := r :: rs) (cols := cols) rfl
    have hcr : ∀ c' : List Int, c'.length = cols.length → (tabsL rs c').length ≤ (2 ^ cols.length) ^ rs.length := fun c' h => tabsL_count h
    have hp1 : (2 ^ cols.length) ^ (r :: rs).length ≤ 65536 := by
      have h1 : 2 ^ cols.length ≤ 2 ^ 4 := Nat.pow_le_pow_right (by omega) hcl
      have h2 : (2 ^ cols.length) ^ (r :: rs).length ≤ (2 ^ 4) ^ (r :: rs).length := Nat.pow_le_pow_left h1 _
      have h3 : (2 ^ 4) ^ (r :: rs).length ≤ (2 ^ 4) ^ 4 := Nat.pow_le_pow_right (by omega) hrl
      omega
    have hp2 : (2 ^ cols.length) ^ rs.length ≤ 65536 := Nat.le_trans (Nat.pow_le_pow_right (Nat.pos_of_ne_zero (by simp)) (by simp)) hp1
    have htab : tabsL (r :: rs) cols = (rowsL cols.length r).flatMap fun row => if okR cols row then (tabsL rs (subR cols row)).map (row :: ·) else [] := rfl
    have hrowl := fun row h => rowsL_len (n := cols.length) (s := r) (r := row) h
    have hrowb := fun row h => rowsL_bit (n := cols.length) (s := r) (r := row) h
    have hrc := rowsL_count (n := cols.length) (s := r)
    have hp3 : 2 ^ cols.length ≤ 2 ^ 4 := Nat.pow_le_pow_right (by omega) hcl
    refine callsR_run K.spec_l4Tables rfl ?_
    simp (disch := omega) only [C.spec_l4Tables, hne, ↓SXd, SXu, slBounds, ↓sop, ↓aop, ↓reduceIte, LV.cells, AOp.dst, LV.I, LV.B, LV.U, LV.S, LV.nil, Nat.reduceEqDiff, Nat.reduceAdd, Nat.reduceMul, Nat.reduceSub, Nat.reduceLeDiff, Nat.reduceBEq, Nat.reduceDiv, Nat.reduceMod, Int.reduceToNat, Int.reduceLT, Int.reduceLE, Int.reduceAdd, Int.reduceSub, Int.reduceMul, Int.reduceEq, Int.reduceNeg, reduceCtorEq, resV, resAll, ARes.ev, LV.flat, ite_true, ite_false, exists_eq_left', exists_eq_left, keyOf, implies_true, fillC, capOf]
    have htl := hR.lt
    have hgr' : getCell (M ++ [some (.row [] true 1)]) tr o = some (.I r) := by rw [getCell_app htl]; exact hgr
    have h0r : (0 : Int) < ((r :: rs).length : Nat) := by rw [List.length_cons]; omega
    simp (disch := omega) only [hgr', h0r, ↓SXd, SXu, slBounds, ↓sop, ↓aop, ↓reduceIte, LV.cells, AOp.dst, LV.I, LV.B, LV.U, LV.S, LV.nil, Nat.reduceEqDiff, Nat.reduceAdd, Nat.reduceMul, Nat.reduceSub, Nat.reduceLeDiff, Nat.reduceBEq, Nat.reduceDiv, Nat.reduceMod, Int.reduceToNat, Int.reduceLT, Int.reduceLE, Int.reduceAdd, Int.reduceSub, Int.reduceMul, Int.reduceEq, Int.reduceNeg, reduceCtorEq, resV, resAll, ARes.ev, LV.flat, ite_true, ite_false, exists_eq_left', exists_eq_left, keyOf, implies_true, fillC, capOf]
    refine callR_of (h_l4Rows cols.length hcl hr0.1 hr0.2) ?_
    rintro _ N ⟨ua, rfl, hpN, hua, hTa⟩
    simp only [List.length_append, List.length_cons, List.length_nil] at hua hTa
    have hTa0 : ∀ av : List Nat, (∀ a ∈ av, a < M.length) → TabR N ua (rowsL cols.length r) (M.length :: av) := fun av hav => hTa (M.length :: av) fun a ha => by
      rcases List.mem_cons.1 ha with rfl | ha
      · omega
      · have := hav a ha; omega
    rw [htab] at hcount ⊢
    generalize hG : (fun row => if okR cols row then (tabsL rs (subR cols row)).map (row :: ·) else []) = G at hcount ⊢
    generalize rowsL cols.length r = all at hrowl hrowb hrc hTa0 hcount ⊢
    have hpMN : Pre M N := (Pre.app _ _).trans hpN
    have b0 : Live N M.length (.row [] true 1) := Live.new.pre hpN
    simp (disch := omega) only [↓SXd, SXu, slBounds, ↓sop, ↓aop, ↓reduceIte, LV.cells, AOp.dst, LV.I, LV.B, LV.U, LV.S, LV.nil, Nat.reduceEqDiff, Nat.reduceAdd, Nat.reduceMul, Nat.reduceSub, Nat.reduceLeDiff, Nat.reduceBEq, Nat.reduceDiv, Nat.reduceMod, Int.reduceToNat, Int.reduceLT, Int.reduceLE, Int.reduceAdd, Int.reduceSub, Int.reduceMul, Int.reduceEq, Int.reduceNeg, reduceCtorEq, resV, resAll, ARes.ev, LV.flat, ite_true, ite_false, exists_eq_left', exists_eq_left, keyOf, implies_true, fillC, capOf]
    refine ev_loop (fun m fr M' => ∃ (i uo : Nat), i + m = all.length ∧ Pre M M' ∧ M.length ≤ uo ∧ (∀ av : List Nat, (∀ a ∈ av, a < M.length) → TabR M' ua all (uo :: av)) ∧ (∀ av : List Nat, (∀ a ∈ av, a < M.length) → Tab3 M' uo ((all.take i).flatMap G) av) ∧
      fr 0 = .ref tr o (r :: rs).length ∧ fr 1 = .ref tc 0 cols.length ∧ fr 6 = .ref uo 0 ((all.take i).flatMap G).length ∧ fr 7 = .ref ua 0 all.length ∧ fr 8 = .I i) all.length
      ⟨0, M.length, by omega, hpMN, Nat.le_refl _, hTa0, fun av hav => Tab3.nil b0 fun hm => by have := hav _ hm; omega, rfl, rfl, rfl, rfl, rfl⟩ ?_
    clear hTa0 b0 hpMN hgr'
    rintro m fr M' ⟨i, uo, hi, hpre, huo, hTa1, hT3, f0, f1, f6, f7, f8⟩
    simp (disch := omega) only [f0, f1, f6, f7, f8, ↓SXd, SXu, slBounds, ↓sop, ↓aop, ↓reduceIte, LV.cells, AOp.dst, LV.I, LV.B, LV.U, LV.S, LV.nil, Nat.reduceEqDiff, Nat.reduceAdd, Nat.reduceMul, Nat.reduceSub, Nat.reduceLeDiff, Nat.reduceBEq, Nat.reduceDiv, Nat.reduceMod, Int.reduceToNat, Int.reduceLT, Int.reduceLE, Int.reduceAdd, Int.reduceSub, Int.reduceMul, Int.reduceEq, Int.reduceNeg, reduceCtorEq, resV, resAll, ARes.ev, LV.flat, ite_true, ite_false, exists_eq_left', exists_eq_left, keyOf, implies_true, fillC, capOf]
    refine condC_dec (fun hlt => ?_) (fun hlt => ?_)
    rotate_left
    · have : i = all.length := by omega
      subst this
      rw [List.take_length] at hT3 f6
      simp (disch := omega) only [f0, f1, f6, f7, f8, ↓SXd, SXu, slBounds, ↓sop, ↓aop, ↓reduceIte, LV.cells, AOp.dst, LV.I, LV.B, LV.U, LV.S, LV.nil, Nat.reduceEqDiff, Nat.reduceAdd, Nat.reduceMul, Nat.reduceSub, Nat.reduceLeDiff, Nat.reduceBEq, Nat.reduceDiv, Nat.reduceMod, Int.reduceToNat, Int.reduceLT, Int.reduceLE, Int.reduceAdd, Int.reduceSub, Int.reduceMul, Int.reduceEq, Int.reduceNeg, reduceCtorEq, resV, resAll, ARes.ev, LV.flat, ite_true, ite_false, exists_eq_left', exists_eq_left, keyOf, implies_true, fillC, capOf]
      exact ⟨uo, rfl, hpre, huo, hT3⟩
    have hil : i < all.length := by omega
    have hts := take_snocL [] hil
    obtain ⟨w, hgw, hIw, hwn⟩ := TabR.atX hTa1 (by simp) hil
    have hrm := getD_mem' (d := []) hil
    have hrowl1 := hrowl _ hrm
    have hrowb1 := hrowb _ hrm
    have hcnt : ((all.take (i + 1)).flatMap G).length ≤ 65536 := by
      have : (all.take (i + 1)).flatMap G ++ (all.drop (i + 1)).flatMap G = all.flatMap G := by rw [← List.flatMap_append, List.take_append_drop]
      have h2 := congrArg List.length this
      rw [List.length_append] at h2
      omega
    generalize hrow0 : all.getD i [] = row at hts hgw hIw hrowl1 hrowb1
    rw [hts, List.flatMap_append, List.length_append, List.flatMap_singleton] at hcnt
    have hGr : G row = if okR cols row then (tabsL rs (subR cols row)).map (row :: ·) else [] := by rw [← hG]
    have hstep : (all.take (i + 1)).flatMap G = (all.take i).flatMap G ++ G row := by rw [hts, List.flatMap_append, List.flatMap_singleton]
    have hT0 := hT3 [] (by simp)
    have hul := hT0.lt
    have hual := (hTa1 [] (by simp)).lt
    have hpl := hpre.1
    simp (disch := omega) only [f0, f1, f6, f7, f8, ↓SXd, SXu, slBounds, ↓sop, ↓aop, ↓reduceIte, LV.cells, AOp.dst, LV.I, LV.B, LV.U, LV.S, LV.nil, Nat.reduceEqDiff, Nat.reduceAdd, Nat.reduceMul, Nat.reduceSub, Nat.reduceLeDiff, Nat.reduceBEq, Nat.reduceDiv, Nat.reduceMod, Int.reduceToNat, Int.reduceLT, Int.reduceLE, Int.reduceAdd, Int.reduceSub, Int.reduceMul, Int.reduceEq, Int.reduceNeg, reduceCtorEq, resV, resAll, ARes.ev, LV.flat, ite_true, ite_false, exists_eq_left', exists_eq_left, keyOf, implies_true, fillC, capOf]
    refine callK_of (h_l1Own (hI.pre hpre) (by omega)) ?_
    simp (disch := omega) only [f0, f1, f6, f7, f8, ↓SXd, SXu, slBounds, ↓sop, ↓aop, ↓reduceIte, LV.cells, AOp.dst, LV.I, LV.B, LV.U, LV.S, LV.nil, Nat.reduceEqDiff, Nat.reduceAdd, Nat.reduceMul, Nat.reduceSub, Nat.reduceLeDiff, Nat.reduceBEq, Nat.reduceDiv, Nat.reduceMod, Int.reduceToNat, Int.reduceLT, Int.reduceLE, Int.reduceAdd, Int.reduceSub, Int.reduceMul, Int.reduceEq, Int.reduceNeg, reduceCtorEq, resV, resAll, ARes.ev, LV.flat, ite_true, ite_false, exists_eq_left', exists_eq_left, keyOf, implies_true, fillC, capOf]
    refine ev_loop (fun m2 fr M2 => ∃ k : Nat, k + m2 = cols.length ∧ Pre M' M2 ∧ Live M2 M'.length (.row (intL (leftK cols row k)) true 1) ∧
      fr 0 = .ref tr o (r :: rs).length ∧ fr 1 = .ref tc 0 cols.length ∧ fr 6 = .ref uo 0 ((all.take i).flatMap G).length ∧ fr 7 = .ref ua 0 all.length ∧ fr 8 = .I i ∧ fr 9 = .ref M'.length 0 cols.length ∧ fr 10 = .B (okR (cols.take k) (row.take k)) ∧ fr 11 = .I k) cols.length
      ⟨0, by omega, Pre.app _ _, by rw [leftK_zero]; exact Live.new, f0, f1, f6, f7, f8, rfl, by rw [List.take_zero, List.take_zero]; rfl, rfl⟩ ?_
    clear f0 f1 f6 f7 f8 hlt
    rintro m2 fr M2 ⟨k, hk, hp2, bl, f0, f1, f6, f7, f8, f9, f10, f11⟩
    simp (disch := omega) only [f0, f1, f6, f7, f8, f9, f10, f11, ↓SXd, SXu, slBounds, ↓sop, ↓aop, ↓reduceIte, LV.cells, AOp.dst, LV.I, LV.B, LV.U, LV.S, LV.nil, Nat.reduceEqDiff, Nat.reduceAdd, Nat.reduceMul, Nat.reduceSub, Nat.reduceLeDiff, Nat.reduceBEq, Nat.reduceDiv, Nat.reduceMod, Int.reduceToNat, Int.reduceLT, Int.reduceLE, Int.reduceAdd, Int.reduceSub, Int.reduceMul, Int.reduceEq, Int.reduceNeg, reduceCtorEq, resV, resAll, ARes.ev, LV.flat, ite_true, ite_false, exists_eq_left', exists_eq_left, keyOf, implies_true, fillC, capOf]
    refine condC_dec (fun hlt => ?_) (fun hlt => ?_)
    · have hkl : k < cols.length := by omega
      have hgl := Ints.get bl.has (k := k) (by rw [leftK_len hrowl1 (by omega)]; omega)
      rw [Nat.zero_add, leftK_get hrowl1 hkl] at hgl
      have hgw2 : getCell M2 ua i = some (.ref w 0 row.length) := by
        unfold getCell getRow at hgw ⊢
        rw [hp2.2 ua hual]; exact hgw
      have hgr2 := Ints.get (hIw.pre hp2) (k := k) (by omega)
      rw [Nat.zero_add] at hgr2
      have hcb := hc _ (getD_mem' (d := 0) hkl)
      have hrb := hrowb1 _ (getD_mem' (d := 0) (show k < row.length by omega))
      have hls := leftK_succ hrowl1 hkl
      have hos := okR_succ hrowl1 hkl
      have hbl := bl.lt
      have hkr : (k : Int) < (row.length : Nat) := by omega
      generalize cols.getD k 0 = a at hgl hcb hls hos
      generalize row.getD k 0 = b at hgr2 hrb hls hos
      simp (disch := omega) only [f0, f1, f6, f7, f8, f9, f10, f11, hgl, hgw2, hgr2, hkr, Nat.mul_one, Nat.zero_add, ↓SXd, SXu, slBounds, ↓sop, ↓aop, ↓reduceIte, LV.cells, AOp.dst, LV.I, LV.B, LV.U, LV.S, LV.nil, Nat.reduceEqDiff, Nat.reduceAdd, Nat.reduceMul, Nat.reduceSub, Nat.reduceLeDiff, Nat.reduceBEq, Nat.reduceDiv, Nat.reduceMod, Int.reduceToNat, Int.reduceLT, Int.reduceLE, Int.reduceAdd, Int.reduceSub, Int.reduceMul, Int.reduceEq, Int.reduceNeg, reduceCtorEq, resV, resAll, ARes.ev, LV.flat, ite_true, ite_false, exists_eq_left', exists_eq_left, keyOf, implies_true, fillC, capOf]
      refine memK_int bl (by rw [leftK_len hrowl1 (by omega)]; omega) fun N3 k1 k2 k3 => ?_
      rw [← hls] at k2
      have hg3 := Ints.get k2.has (k := k) (by rw [leftK_len hrowl1 (by omega)]; omega)
      rw [Nat.zero_add, hls] at hg3
      have hg3' : getCell N3 M'.length k = some (.I (a - b)) := by
        rw [hg3]
        congr 2
        simp only [List.getD_eq_getElem?_getD]
        rw [List.getElem?_set_self (by rw [leftK_len hrowl1 (by omega)]; omega)]
        rfl
      have hpN3 : Pre M' N3 := pre_step hp2 (Nat.le_refl _) (j := 0) k1 k3
      cases hok : okR (cols.take k) (row.take k) with
      | false =>
        rw [hok, Bool.false_and] at hos
        rw [hok] at f10
        simp (disch := omega) only [f0, f1, f6, f7, f8, f9, f10, f11, hok, ↓SXd, SXu, slBounds, ↓sop, ↓aop, ↓reduceIte, LV.cells, AOp.dst, LV.I, LV.B, LV.U, LV.S, LV.nil, Nat.reduceEqDiff, Nat.reduceAdd, Nat.reduceMul, Nat.reduceSub, Nat.reduceLeDiff, Nat.reduceBEq, Nat.reduceDiv, Nat.reduceMod, Int.reduceToNat, Int.reduceLT, Int.reduceLE, Int.reduceAdd, Int.reduceSub, Int.reduceMul, Int.reduceEq, Int.reduceNeg, reduceCtorEq, resV, resAll, ARes.ev, LV.flat, ite_true, ite_false, exists_eq_left', exists_eq_left, keyOf, implies_true, fillC, capOf]
        exact ⟨m2 - 1, by omega, k + 1, by omega, hpN3, k2, f0, f1, f6, f7, f8, f9, by rw [hos]; rfl, eqI (natI _)⟩
      | true =>
        rw [hok, Bool.true_and] at hos
        rw [hok] at f10
        simp (disch := omega) only [f0, f1, f6, f7, f8, f9, f10, f11, hok, hg3', ↓SXd, SXu, slBounds, ↓sop, ↓aop, ↓reduceIte, LV.cells, AOp.dst, LV.I, LV.B, LV.U, LV.S, LV.nil, Nat.reduceEqDiff, Nat.reduceAdd, Nat.reduceMul, Nat.reduceSub, Nat.reduceLeDiff, Nat.reduceBEq, Nat.reduceDiv, Nat.reduceMod, Int.reduceToNat, Int.reduceLT, Int.reduceLE, Int.reduceAdd, Int.reduceSub, Int.reduceMul, Int.reduceEq, Int.reduceNeg, reduceCtorEq, resV, resAll, ARes.ev, LV.flat, ite_true, ite_false, exists_eq_left', exists_eq_left, keyOf, implies_true, fillC, capOf]
        exact ⟨m2 - 1, by omega, k + 1, by omega, hpN3, k2, f0, f1, f6, f7, f8, f9, by rw [hos]; rfl, eqI (natI _)⟩
    have : k = cols.length := by omega
    subst this
    rw [leftK_all hrowl1] at bl
    rw [List.take_of_length_le (Nat.le_refl _), List.take_of_length_le (by omega)] at f10
    have hT3b : ∀ av : List Nat, (∀ a ∈ av, a < M.length) → Tab3 M2 uo ((all.take i).flatMap G) av := fun av hav => (hT3 av hav).pre hp2
    have hTab : ∀ av : List Nat, (∀ a ∈ av, a < M.length) → TabR M2 ua all (uo :: av) := fun av hav => (hTa1 av hav).pre hp2
    have hp2l := hp2.1
    have hbl := bl.lt
    cases hok : okR cols row with
    | false =>
      rw [hok, if_neg (by simp)] at hGr
      rw [hok] at f10
      simp (disch := omega) only [f0, f1, f6, f7, f8, f9, f10, f11, ↓SXd, SXu, slBounds, ↓sop, ↓aop, ↓reduceIte, LV.cells, AOp.dst, LV.I, LV.B, LV.U, LV.S, LV.nil, Nat.reduceEqDiff, Nat.reduceAdd, Nat.reduceMul, Nat.reduceSub, Nat.reduceLeDiff, Nat.reduceBEq, Nat.reduceDiv, Nat.reduceMod, Int.reduceToNat, Int.reduceLT, Int.reduceLE, Int.reduceAdd, Int.reduceSub, Int.reduceMul, Int.reduceEq, Int.reduceNeg, reduceCtorEq, resV, resAll, ARes.ev, LV.flat, ite_true, ite_false, exists_eq_left', exists_eq_left, keyOf, implies_true, fillC, capOf]
      exact ⟨m - 1, by omega, i + 1, uo, by omega, hpre.trans hp2, huo, hTab, by rw [hstep, hGr, List.append_nil]; exact hT3b, f0, f1, by rw [hstep, hGr, List.append_nil]; exact f6, f7, eqI (natI _)⟩
    | true =>
      rw [hok, if_pos rfl] at hGr
      rw [hok] at f10
      have hsl := subR_len (B := cols) (row := row) hrowl1
      have hcnr := hcr (subR cols row) hsl
      have hrec := h_l4Tables rs (R0 := R0) (cols := subR cols row) (tr := tr) (o := o + 1) (tc := M'.length) (M := M2) (by omega) (by omega) (fun a ha => ⟨okR_nonneg hok a ha, subR_bound (b := 1000) (fun a ha => (hc a ha).2) (fun a ha => by rcases hrowb1 a ha with h | h <;> omega) a ha⟩) (fun a ha => hr a (by simp [ha])) ((hR.pre hpre).pre hp2) (by
        have := congrArg List.tail hro
        rwa [List.tail_drop] at this) bl.has
      have hesz := ((hR.pre hpre).pre hp2).getE
      have h1l : (1 : Int) ≤ ((r :: rs).length : Nat) := by rw [List.length_cons]; omega
      have hln : (((r :: rs).length : Nat) : Int).toNat - 1 = rs.length := by simp
      have hln2 : (r :: rs).length - 1 = rs.length := by simp
      rw [hsl] at hrec
      simp (disch := omega) only [f0, f1, f6, f7, f8, f9, f10, f11, hesz, h1l, hln, hln2, if_true, ite_true, ↓SXd, SXu, slBounds, ↓sop, ↓aop, ↓reduceIte, LV.cells, AOp.dst, LV.I, LV.B, LV.U, LV.S, LV.nil, Nat.reduceEqDiff, Nat.reduceAdd, Nat.reduceMul, Nat.reduceSub, Nat.reduceLeDiff, Nat.reduceBEq, Nat.reduceDiv, Nat.reduceMod, Int.reduceToNat, Int.reduceLT, Int.reduceLE, Int.reduceAdd, Int.reduceSub, Int.reduceMul, Int.reduceEq, Int.reduceNeg, reduceCtorEq, resV, resAll, ARes.ev, LV.flat, ite_true, ite_false, exists_eq_left', exists_eq_left, keyOf, implies_true, fillC, capOf]
      refine callR_of hrec ?_
      rintro _ N0 ⟨ur, rfl, hp0, hur, hTR⟩
      have hp0l := hp0.1
      have hMN0 : Pre M N0 := (hpre.trans hp2).trans hp0
      have hTR0 : ∀ av : List Nat, (∀ a ∈ av, a < M.length) → Tab3 N0 ur (tabsL rs (subR cols row)) (uo :: av) := fun av hav => hTR (uo :: av) fun a ha => by
        rcases List.mem_cons.1 ha with rfl | ha
        · omega
        · have := hav a ha; omega
      have hw0 : Ints N0 w 0 row := (hIw.pre hp2).pre hp0
      have hgR : (G row).length = (tabsL rs (subR cols row)).length := by rw [hGr, List.length_map]
      have hpl0 := hpre.1
      have hrl2 : ∀ T ∈ tabsL rs (subR cols row), T.length ≤ 4 := fun T hT => by rw [(tabsL_mem hsl hT).1]; omega
      generalize tabsL rs (subR cols row) = rest at hTR0 hGr hgR hrl2
      clear hTR hrec hcnr
      simp (disch := omega) only [f0, f1, f6, f7, f8, f9, f10, f11, ↓SXd, SXu, slBounds, ↓sop, ↓aop, ↓reduceIte, LV.cells, AOp.dst, LV.I, LV.B, LV.U, LV.S, LV.nil, Nat.reduceEqDiff, Nat.reduceAdd, Nat.reduceMul, Nat.reduceSub, Nat.reduceLeDiff, Nat.reduceBEq, Nat.reduceDiv, Nat.reduceMod, Int.reduceToNat, Int.reduceLT, Int.reduceLE, Int.reduceAdd, Int.reduceSub, Int.reduceMul, Int.reduceEq, Int.reduceNeg, reduceCtorEq, resV, resAll, ARes.ev, LV.flat, ite_true, ite_false, exists_eq_left', exists_eq_left, keyOf, implies_true, fillC, capOf]
      refine ev_loop (fun m3 fr M3 => ∃ (k uo : Nat), k + m3 = rest.length ∧ Pre M M3 ∧ M.length ≤ uo ∧ (∀ av : List Nat, (∀ a ∈ av, a < M.length) → TabR M3 ua all (uo :: av)) ∧ (∀ av : List Nat, (∀ a ∈ av, a < M.length) → Tab3 M3 ur rest (uo :: av)) ∧ (∀ av : List Nat, (∀ a ∈ av, a < M.length) → Tab3 M3 uo ((all.take i).flatMap G ++ (rest.take k).map (row :: ·)) av) ∧
        fr 0 = .ref tr o (r :: rs).length ∧ fr 1 = .ref tc 0 cols.length ∧ fr 6 = .ref uo 0 ((all.take i).flatMap G ++ (rest.take k).map (row :: ·)).length ∧ fr 7 = .ref ua 0 all.length ∧ fr 8 = .I i ∧ fr 12 = .ref ur 0 rest.length ∧ fr 13 = .I k) rest.length
        ⟨0, uo, by omega, hMN0, huo, fun av hav => (hTab av hav).pre hp0, hTR0, fun av hav => by rw [List.take_zero, List.map_nil, List.append_nil]; exact (hT3b av hav).pre hp0, f0, f1, by rw [List.take_zero, List.map_nil, List.append_nil]; exact f6, f7, f8, rfl, rfl⟩ ?_
      clear f0 f1 f6 f7 f8 f9 f10 f11 hTa1 hT3 hT3b hTab hT0 hul hp2l hgw hIw hwn hTR0 hpre huo hw0 bl
      rintro m3 fr M3 ⟨k, uo, hk, hpre, huo, hTa1, hTR, hT3, f0, f1, f6, f7, f8, f12, f13⟩
      simp (disch := omega) only [f0, f1, f6, f7, f8, f12, f13, ↓SXd, SXu, slBounds, ↓sop, ↓aop, ↓reduceIte, LV.cells, AOp.dst, LV.I, LV.B, LV.U, LV.S, LV.nil, Nat.reduceEqDiff, Nat.reduceAdd, Nat.reduceMul, Nat.reduceSub, Nat.reduceLeDiff, Nat.reduceBEq, Nat.reduceDiv, Nat.reduceMod, Int.reduceToNat, Int.reduceLT, Int.reduceLE, Int.reduceAdd, Int.reduceSub, Int.reduceMul, Int.reduceEq, Int.reduceNeg, reduceCtorEq, resV, resAll, ARes.ev, LV.flat, ite_true, ite_false, exists_eq_left', exists_eq_left, keyOf, implies_true, fillC, capOf]
      refine condC_dec (fun hlt => ?_) (fun hlt => ?_)
      rotate_left
      · have : k = rest.length := by omega
        subst this
        rw [List.take_length, ← hGr, ← hstep] at hT3 f6
        simp (disch := omega) only [f0, f1, f6, f7, f8, f12, f13, ↓SXd, SXu, slBounds, ↓sop, ↓aop, ↓reduceIte, LV.cells, AOp.dst, LV.I, LV.B, LV.U, LV.S, LV.nil, Nat.reduceEqDiff, Nat.reduceAdd, Nat.reduceMul, Nat.reduceSub, Nat.reduceLeDiff, Nat.reduceBEq, Nat.reduceDiv, Nat.reduceMod, Int.reduceToNat, Int.reduceLT, Int.reduceLE, Int.reduceAdd, Int.reduceSub, Int.reduceMul, Int.reduceEq, Int.reduceNeg, reduceCtorEq, resV, resAll, ARes.ev, LV.flat, ite_true, ite_false, exists_eq_left', exists_eq_left, keyOf, implies_true, fillC, capOf]
        exact ⟨m - 1, by omega, i + 1, uo, by omega, hpre, huo, hTa1, hT3, f0, f1, f6, f7, eqI (natI _)⟩
      have hkl : k < rest.length := by omega
      obtain ⟨w, hgw, hIw, hwn⟩ := TabR.atX hTa1 (by simp) hil
      obtain ⟨v, hgv, hTv⟩ := Tab3.atX hTR (by simp) hkl
      have hts3 := take_snocL [] hkl
      have hrow : all.getD i [] = row := hrow0
      rw [hrow] at hgw hIw
      have hTc := hT3 [] (by simp)
      have hul := hTc.lt
      have hpl := hpre.1
      have hual := (hTa1 [] (by simp)).lt
      have hurl := (hTR [] (by simp)).lt
      have hvl := (hTv [] (by simp)).lt
      have hwl := hIw.lt
      have hln1 : ((all.take i).flatMap G ++ (rest.take k).map (row :: ·)).length + 1 ≤ 65536 := by
        rw [List.length_append, List.length_map]
        have := List.length_take_le k rest
        have : (rest.take k).length = k := by rw [List.length_take]; omega
        omega
      have hll : (rest.getD k []).length ≤ 4 := hrl2 _ (getD_mem' (d := []) hkl)
      have hstep3 : (all.take i).flatMap G ++ (rest.take (k + 1)).map (row :: ·) = ((all.take i).flatMap G ++ (rest.take k).map (row :: ·)) ++ [row :: rest.getD k []] := by rw [hts3, List.map_append, List.append_assoc]; rfl
      generalize rest.getD k [] = tb at hgv hTv hstep3 hll
      generalize (all.take i).flatMap G ++ (rest.take k).map (row :: ·) = acc at *
      have hgv' : getCell M3 ur k = some (.ref v 0 tb.length) := hgv
      have hkb : (k : Int) < (rest.length : Nat) := by omega
      simp (disch := omega) only [f0, f1, f6, f7, f8, f12, f13, hgw, hgv', Nat.mul_one, Nat.zero_add, ↓SXd, SXu, slBounds, ↓sop, ↓aop, ↓reduceIte, LV.cells, AOp.dst, LV.I, LV.B, LV.U, LV.S, LV.nil, Nat.reduceEqDiff, Nat.reduceAdd, Nat.reduceMul, Nat.reduceSub, Nat.reduceLeDiff, Nat.reduceBEq, Nat.reduceDiv, Nat.reduceMod, Int.reduceToNat, Int.reduceLT, Int.reduceLE, Int.reduceAdd, Int.reduceSub, Int.reduceMul, Int.reduceEq, Int.reduceNeg, reduceCtorEq, resV, resAll, ARes.ev, LV.flat, ite_true, ite_false, exists_eq_left', exists_eq_left, keyOf, implies_true, fillC, capOf]
      have hA1 : ∀ av : List Nat, (∀ a ∈ av, a < M.length) → TabR (M3 ++ [some (.row [.ref w 0 row.length] true 1)]) M3.length [row] (uo :: av) := fun av hav => tabR_one hIw (hwn av hav) fun a ha => by
        rcases List.mem_cons.1 ha with rfl | ha
        · omega
        · have := hav a ha; omega
      have hv1 : ∀ av : List Nat, (∀ a ∈ av, a < M.length) → TabR (M3 ++ [some (.row [.ref w 0 row.length] true 1)]) v tb (M3.length :: uo :: av) := fun av hav => (hTv av hav).keep (fun q _ hq => List.getElem?_append_left hq) fun q hq => by
        rcases List.mem_cons.1 hq with rfl | hq
        · exact .inr (Nat.le_refl _)
        · exact .inl (by simp [hq])
      have hcl1 : [row].length + tb.length ≤ 1000000000000 := by simp only [List.length_singleton]; omega
      refine appendK_tabs (L := [row]) ((hA1 [] (by simp)).less (by simp)) ((hv1 [] (by simp)).less (by simp)) hcl1 fun u4 N4 k1 k2 k3 k4 => ?_
      simp only [List.length_append, List.length_singleton] at k1 k3 k4
      have hT4 : ∀ av : List Nat, (∀ a ∈ av, a < M.length) → TabR N4 u4 (row :: tb) (uo :: av) := fun av hav => k2 (uo :: av) (hA1 av hav) (hv1 av hav) fun a ha => by
        simp only [List.length_append, List.length_singleton]
        rcases List.mem_cons.1 ha with rfl | ha
        · omega
        · have := hav a ha; omega
      have hk4 : ∀ q, q < M3.length → N4[q]? = M3[q]? := fun q hq => by rw [k4 q (by omega) (by omega), List.getElem?_append_left hq]
      have hP4 : Pre M3 N4 := ⟨by omega, hk4⟩
      have hlx : [row].length + tb.length = (row :: tb).length := by simp; omega
      rw [hlx]
      simp (disch := omega) only [f0, f1, f6, f7, f8, f12, f13, ↓SXd, SXu, slBounds, ↓sop, ↓aop, ↓reduceIte, LV.cells, AOp.dst, LV.I, LV.B, LV.U, LV.S, LV.nil, Nat.reduceEqDiff, Nat.reduceAdd, Nat.reduceMul, Nat.reduceSub, Nat.reduceLeDiff, Nat.reduceBEq, Nat.reduceDiv, Nat.reduceMod, Int.reduceToNat, Int.reduceLT, Int.reduceLE, Int.reduceAdd, Int.reduceSub, Int.reduceMul, Int.reduceEq, Int.reduceNeg, reduceCtorEq, resV, resAll, ARes.ev, LV.flat, ite_true, ite_false, exists_eq_left', exists_eq_left, keyOf, implies_true, fillC, capOf]
      have hone : ∀ av : List Nat, (∀ a ∈ av, a < M.length) → Tab3 (N4 ++ [some (.row [.ref u4 0 (row :: tb).length] true 1)]) N4.length [row :: tb] (uo :: av) := fun av hav => tab3_one (hT4 av hav) fun a ha => by
        rcases List.mem_cons.1 ha with rfl | ha
        · omega
        · have := hav a ha; omega
      have hone1 : [row :: tb].length = 1 := rfl
      have hacc : ∀ av : List Nat, (∀ a ∈ av, a < M.length) → Tab3 (N4 ++ [some (.row [.ref u4 0 (row :: tb).length] true 1)]) uo acc av := fun av hav => (hT3 av hav).pre (hP4.trans (Pre.app _ _))
      refine appendK_tab3 (L2 := [row :: tb]) (hacc [] (by simp)) (hone [] (by simp)) (by omega) fun u6 N6 l1 l2 l3 l4 => ?_
      simp only [List.length_append, List.length_singleton] at l1 l3 l4
      simp (disch := omega) only [f0, f1, f6, f7, f8, f12, f13, ↓SXd, SXu, slBounds, ↓sop, ↓aop, ↓reduceIte, LV.cells, AOp.dst, LV.I, LV.B, LV.U, LV.S, LV.nil, Nat.reduceEqDiff, Nat.reduceAdd, Nat.reduceMul, Nat.reduceSub, Nat.reduceLeDiff, Nat.reduceBEq, Nat.reduceDiv, Nat.reduceMod, Int.reduceToNat, Int.reduceLT, Int.reduceLE, Int.reduceAdd, Int.reduceSub, Int.reduceMul, Int.reduceEq, Int.reduceNeg, reduceCtorEq, resV, resAll, ARes.ev, LV.flat, ite_true, ite_false, exists_eq_left', exists_eq_left, keyOf, implies_true, fillC, capOf]
      have hk6 : ∀ q, q ≠ uo → q < M3.length → N6[q]? = M3[q]? := fun q q1 q2 => by rw [l4 q q1 (by omega), List.getElem?_append_left (by omega)]; exact hk4 q q2
      refine ⟨m3 - 1, by omega, k + 1, u6, by omega, ⟨by omega, fun q hq => by rw [hk6 q (by omega) (by omega)]; exact hpre.2 q hq⟩, by omega, fun av hav => (hTa1 av hav).keep (fun q q1 q2 => hk6 q (fun e => q1 (by simp [e])) q2) fun q hq => ?_, fun av hav => (hTR av hav).keep (fun q q1 q2 => hk6 q (fun e => q1 (by simp [e])) q2) fun q hq => ?_, fun av hav => ?_, f0, f1, ?_, f7, f8, f12, eqI (natI _)⟩
      · rcases List.mem_cons.1 hq with rfl | hq
        · rcases l3 with rfl | l3
          · exact .inl (by simp)
          · exact .inr (by omega)
        · exact .inl (by simp [hq])
      · rcases List.mem_cons.1 hq with rfl | hq
        · rcases l3 with rfl | l3
          · exact .inl (by simp)
          · exact .inr (by omega)
        · exact .inl (by simp [hq])
      · rw [hstep3]
        exact l2 av (hacc av hav) (hone av hav) fun a ha => by
          have := hav a ha
          simp only [List.length_append, List.length_singleton]; omega
      · rw [hstep3]; simp only [List.length_append, List.length_singleton]; rfl
end Go.Ab

/- The abstract code of some functions (written by a program of mine from the translation, by way of prepF). -/
namespace Go.Ab.C
open Go.Ab
def spec_l2Layer : AFn :=
 ⟨3, 59, [.tmp 6],
 .seq (.ops [(none, .box 3 (.t 0)),
 (none, .mv 6 (.c .nil))])
 (.seq (.ops [(none, .mv 15 (.t 1)),
 (none, .call (some 16) F.spec_l2Others [(.t 15)]),
 (none, .mv 14 (.t 16)),
 (none, .extract 17 (.t 14) 0),
 (none, .extract 18 (.t 14) 1),
 (none, .mv 7 (.t 17)),
 (none, .mv 8 (.t 18))])
 (.seq (.ops [(none, .buildSl 19 0 1 [] []),
 (none, .mv 9 (.t 19))])
 (.seq (.seq (.ops [(none, .mv 10 (.c (.I 0)))])
 (.block 0 (.loop (.seq (.seq (.ops [(none, .mv 20 (.t 10)),
 (none, .loadN 21 4 (.t 3)),
 (none, .mv 22 (.t 7)),
 (none, .call (some 23) F.spec_l2Long [(.t 21), (.t 22)]),
 (none, .bin 24 .lss (.t 20) (.t 23))])
 (.cond (.t 24) (.skip)
 (.exit 0)))
 (.seq (.block 1 (.seq (.ops [(none, .buildSl 27 0 1 [] []),
 (none, .mv 11 (.t 27))])
 (.seq (.seq (.ops [(none, .mv 12 (.c (.I 0)))])
 (.block 2 (.loop (.seq (.seq (.ops [(none, .mv 28 (.t 12)),
 (none, .loadN 29 4 (.t 3)),
 (none, .mv 30 (.t 8)),
 (none, .call (some 31) F.spec_l2Long [(.t 29), (.t 30)]),
 (none, .bin 32 .lss (.t 28) (.t 31))])
 (.cond (.t 32) (.skip)
 (.exit 2)))
 (.seq (.block 3 (.seq (.ops [(none, .build 35 [(.I 0), (.I 0), (.I 0)] []),
 (none, .alloc 13 [(.I 0), (.I 0), (.I 0)]),
 (none, .store 3 (.t 13) (.t 35))])
 (.seq (.ops [(none, .mv 36 (.t 1)),
 (none, .mv 37 (.t 2)),
 (none, .idxA 38 3 1 (.t 13) (.t 36)),
 (none, .store 1 (.t 38) (.t 37))])
 (.seq (.ops [(none, .mv 39 (.t 7)),
 (none, .mv 40 (.t 10)),
 (none, .idxA 41 3 1 (.t 13) (.t 39)),
 (none, .store 1 (.t 41) (.t 40))])
 (.seq (.ops [(none, .mv 42 (.t 8)),
 (none, .mv 43 (.t 12)),
 (none, .idxA 44 3 1 (.t 13) (.t 42)),
 (none, .store 1 (.t 44) (.t 43))])
 (.seq (.ops [(none, .loadN 45 4 (.t 3)),
 (none, .loadN 46 3 (.t 13)),
 (none, .call (some 47) F.spec_l2Has [(.t 45), (.t 46)])])
 (.cond (.t 47) (.ops [(none, .mv 48 (.t 11)),
 (none, .buildSl 49 1 1 [(.I 0)] [(0, 1, (.c (.I 1)))]),
 (none, .append 50 1 8 (.t 48) (.t 49)),
 (none, .mv 11 (.t 50))])
 (.ops [(none, .mv 51 (.t 11)),
 (none, .buildSl 52 1 1 [(.I 0)] [(0, 1, (.c (.I 0)))]),
 (none, .append 53 1 8 (.t 51) (.t 52)),
 (none, .mv 11 (.t 53))]))))))))
 (.ops [(none, .mv 33 (.t 12)),
 (none, .bin 34 .add (.t 33) (.c (.I 1))),
 (none, .mv 12 (.t 34))]))))))
 (.ops [(none, .mv 54 (.t 9)),
 (none, .mv 55 (.t 11)),
 (none, .buildSl 56 1 1 [.nil] [(0, 1, (.t 55))]),
 (none, .append 57 1 24 (.t 54) (.t 56)),
 (none, .mv 9 (.t 57))]))))
 (.ops [(none, .mv 25 (.t 10)),
 (none, .bin 26 .add (.t 25) (.c (.I 1))),
 (none, .mv 10 (.t 26))]))))))
 (.seq (.ops [(none, .mv 58 (.t 9)),
 (none, .mv 6 (.t 58))])
 (.ret)))))⟩
end Go.Ab.C

/- That the program has this code. -/
namespace Go.Ab.K
open Go Go.Ab
theorem spec_l2Layer : prepF Go.Proofs.Try.prog F.spec_l2Layer = some C.spec_l2Layer := by kernel_rfl
end Go.Ab.K

/- The abstract code of some functions (written by a program of mine from the translation, by way of prepF). -/
namespace Go.Ab.C
open Go.Ab
end Go.Ab.C

/- That the program has this code. -/
namespace Go.Ab.K
open Go Go.Ab
end Go.Ab.K

/- Tables: lists of lists of numbers in memory; how they grow; the law's comparison. -/
namespace Go.Ab
open Go
set_option linter.unusedSimpArgs false
set_option linter.unusedVariables false
set_option maxRecDepth 20000

/-- A table that is one's own: its blocks lie before b and not before lo. -/
def TabO (N : Mem) (t : Nat) (L : List (List Int)) (b lo : Nat) : Prop := ∃ refs : List LV, Live N t (.row refs true 1) ∧ refs.length = L.length ∧ t < b ∧ lo ≤ t ∧ ∀ i, i < L.length → ∃ u, lo ≤ u ∧ u < b ∧ u ≠ t ∧ refs[i]? = some (.ref u 0 (L.getD i []).length) ∧ Live N u (.row (intL (L.getD i [])) true 1)
theorem TabO.pre {N N' : Mem} {t : Nat} {L : List (List Int)} {b lo : Nat} (h : TabO N t L b lo) (hp : Pre N N') : TabO N' t L b lo := by
  obtain ⟨refs, h1, h2, h3, h0, h4⟩ := h
  exact ⟨refs, h1.pre hp, h2, h3, h0, fun i hi => by obtain ⟨u, q0, q1, q2, q3, q4⟩ := h4 i hi; exact ⟨u, q0, q1, q2, q3, q4.pre hp⟩⟩
theorem TabO.nil {N : Mem} {t lo : Nat} (h : Live N t (.row [] true 1)) (hl : lo ≤ t) : TabO N t [] N.length lo := ⟨[], h, rfl, h.lt, hl, fun i hi => by simp at hi⟩
/-- All that lies from lo on stays. -/
theorem TabO.hold {N N' : Mem} {t : Nat} {L : List (List Int)} {b lo : Nat} (h : TabO N t L b lo) (hk : ∀ q, lo ≤ q → q < N.length → N'[q]? = N[q]?) : TabO N' t L b lo := by
  obtain ⟨refs, h1, h2, h3, h0, h4⟩ := h
  have key : ∀ {q : Nat} {bl : Blk}, lo ≤ q → Live N q bl → Live N' q bl := fun {q bl} hq hl => by
    have := hl.lt
    unfold Live at hl ⊢
    rw [hk q hq this]; exact hl
  exact ⟨refs, key h0 h1, h2, h3, h0, fun i hi => by obtain ⟨u, q0, q1, q2, q3, q4⟩ := h4 i hi; exact ⟨u, q0, q1, q2, q3, key q0 q4⟩⟩
/-- A row goes behind a table. -/
theorem appendK_tab {M0 N0 N : Mem} {t r lo : Nat} {L : List (List Int)} {l : List Int} {A : LV → Mem → Prop} (h : TabO N0 t L N0.length lo) (hp : Pre N0 N) (hr : Live N r (.row (intL l) true 1)) (hr0 : N0.length ≤ r) (hl : L.length ≤ 1000) (hM : Pre M0 N) (ht : M0.length ≤ t)
    (hA : ∀ u M', TabO M' u (L ++ [l]) M'.length lo → Pre M0 M' → (u = t ∨ N.length ≤ u) → (∀ w, w ≠ t → w < N.length → M'[w]? = N[w]?) → N.length ≤ M'.length → A (.ref u 0 (L ++ [l]).length) M') :
    appendK 1 24 (.ref t 0 L.length) (.ref N.length 0 1) (N ++ [some (.row [.ref r 0 l.length] true 1)]) A := by
  obtain ⟨refs, h1, h2, h3, h0, h4⟩ := h
  have hN := hp.1
  have hrl := hr.lt
  refine appendK_list (acc := refs) (new := [.ref r 0 l.length]) (h1.pre (hp.trans (Pre.app _ _))) (by omega) (Live.new (b := .row [.ref r 0 l.length] true 1)).has (by simp) (by omega) (by omega) fun u M' k1 k2 k3 k4 => ?_
  rw [List.length_append, List.length_singleton] at k1 k3 k4
  have hu : u ≠ r := by rcases k3 with e | e <;> omega
  have hold : ∀ w, w ≠ t → w < N.length → M'[w]? = N[w]? := fun w hw hwl => by
    rw [k4 w hw (by omega)]; exact List.getElem?_append_left hwl
  have e : L.length + 1 = (L ++ [l]).length := by simp
  rw [e]
  refine hA u M' ⟨refs ++ [.ref r 0 l.length], k2, by simp [h2], k2.lt, by rcases k3 with e | e <;> omega, fun i hi => ?_⟩ ?_ ?_ hold (by omega)
  · rw [List.length_append, List.length_singleton] at hi
    by_cases hi2 : i < L.length
    · obtain ⟨v, q0, q1, q2, q3, q4⟩ := h4 i hi2
      have hg : (L ++ [l]).getD i [] = L.getD i [] := by simp only [List.getD_eq_getElem?_getD]; rw [List.getElem?_append_left hi2]
      rw [hg]
      refine ⟨v, q0, by omega, by rcases k3 with e | e <;> omega, by rw [List.getElem?_append_left (by omega)]; exact q3, ?_⟩
      have := q4.pre hp
      unfold Live at this ⊢
      rw [hold v q2 (by omega)]; exact this
    · have : i = L.length := by omega
      subst this
      have hg : (L ++ [l]).getD L.length [] = l := by simp
      rw [hg]
      refine ⟨r, by omega, by omega, fun e => hu e.symm, by rw [← h2, List.getElem?_concat_length], ?_⟩
      unfold Live at hr ⊢
      rw [hold r (by omega) hrl]; exact hr
  · exact ⟨by have := hM.1; omega, fun w hw => by rw [hold w (by omega) (Nat.lt_of_lt_of_le hw hM.1)]; exact hM.2 w hw⟩
  · rcases k3 with e | e
    · exact .inl e
    · exact .inr (by omega)
/-- A table that may be read. -/
def TabV (N : Mem) (v : LV) (L : List (List Int)) : Prop := (v = .nil ∧ L = []) ∨ ∃ (t : Nat) (refs : List LV), v = .ref t 0 L.length ∧ Live N t (.row refs true 1) ∧ refs.length = L.length ∧ ∀ i, i < L.length → ∃ u : Nat, refs[i]? = some (.ref u 0 (L.getD i []).length) ∧ Ints N u 0 (L.getD i [])
theorem TabO.v {N : Mem} {t : Nat} {L : List (List Int)} {b lo : Nat} (h : TabO N t L b lo) : TabV N (.ref t 0 L.length) L := by
  obtain ⟨refs, h1, h2, h3, h0, h4⟩ := h
  exact .inr ⟨t, refs, rfl, h1, h2, fun i hi => by obtain ⟨u, q0, q1, q2, q3, q4⟩ := h4 i hi; exact ⟨u, q3, q4.has⟩⟩
theorem TabV.pre {N N' : Mem} {v : LV} {L : List (List Int)} (h : TabV N v L) (hp : Pre N N') : TabV N' v L := by
  rcases h with h | ⟨t, refs, h1, h2, h3, h4⟩
  · exact .inl h
  · exact .inr ⟨t, refs, h1, h2.pre hp, h3, fun i hi => by obtain ⟨u, q3, q4⟩ := h4 i hi; exact ⟨u, q3, q4.pre hp⟩⟩
theorem TabV.lenV {N : Mem} {v : LV} {L : List (List Int)} (h : TabV N v L) : lenV v = some (L.length : Int) := by
  rcases h with ⟨rfl, rfl⟩ | ⟨t, refs, rfl, _⟩ <;> rfl
theorem TabV.at {N : Mem} {v : LV} {L : List (List Int)} {i : Nat} (h : TabV N v L) (hi : i < L.length) : ∃ t u : Nat, v = .ref t 0 L.length ∧ getCell N t i = some (.ref u 0 (L.getD i []).length) ∧ Ints N u 0 (L.getD i []) := by
  rcases h with ⟨_, rfl⟩ | ⟨t, refs, rfl, h2, h3, h4⟩
  · simp at hi
  · obtain ⟨u, q3, q4⟩ := h4 i hi
    refine ⟨t, u, rfl, ?_, q4⟩
    rw [← q3]
    exact h2.cell
end Go.Ab

/- The abstract code of some functions (written by a program of mine from the translation, by way of prepF). -/
namespace Go.Ab.C
open Go.Ab
end Go.Ab.C

/- That the program has this code. -/
namespace Go.Ab.K
open Go Go.Ab
end Go.Ab.K

/- The abstract code of some functions (written by a program of mine from the translation, by way of prepF). -/
namespace Go.Ab.C
open Go.Ab
end Go.Ab.C

/- That the program has this code. -/
namespace Go.Ab.K
open Go Go.Ab
end Go.Ab.K

/- The abstract code of some functions (written by a program of mine from the translation, by way of prepF). -/
namespace Go.Ab.C
open Go.Ab
end Go.Ab.C

/- That the program has this code. -/
namespace Go.Ab.K
open Go Go.Ab
end Go.Ab.K

/- The abstract code of some functions (written by a program of mine from the translation, by way of prepF). -/
namespace Go.Ab.C
open Go.Ab
end Go.Ab.C

/- That the program has this code. -/
namespace Go.Ab.K
open Go Go.Ab
end Go.Ab.K

/- Plain words: bare faces; they stay when a heap is turned. -/
namespace Go.Ab
open Go
set_option linter.unusedVariables false
set_option linter.unusedSimpArgs false
set_option maxRecDepth 20000

/-- The cell beyond a face. -/
def nbC (c : Cell) (f : Nat) : Cell := ⟨c.a + if f = 0 then -1 else if f = 1 then 1 else 0, c.b + if f = 2 then -1 else if f = 3 then 1 else 0, c.c + if f = 4 then -1 else if f = 5 then 1 else 0⟩
def bareN (S : List Cell) (c : Cell) : Nat := (List.range 6).countP fun f => decide (nbC c f ∉ S)
/-- The bare faces of one kind. -/
def faceN (cs : List Cell) (f : Nat) : Nat := cs.countP fun c => decide (nbC c f ∉ cs)
def surfN (cs : List Cell) : Nat := ((List.range 6).map (faceN cs)).sum
/-- The face of a cell that a turn brings to a face. -/
def sigT (T : Turn) (f : Nat) : Nat := (T.fr.at (f / 2 : Nat)).toNat * 2 + (xorI ((f % 2 : Nat) : Int) (T.fl.at (f / 2 : Nat))).toNat
end Go.Ab

/- The abstract code of some functions (written by a program of mine from the translation, by way of prepF). -/
namespace Go.Ab.C
open Go.Ab
end Go.Ab.C

/- That the program has this code. -/
namespace Go.Ab.K
open Go Go.Ab
end Go.Ab.K

/- Contracts: cells that must be, the reference's side; MustCells and SpareCells, both sides. -/
namespace Go.Ab
open Go
set_option linter.unusedSimpArgs false
set_option linter.unusedVariables false
set_option maxRecDepth 20000

/-- Of the allowed cells those that must be (sp false), or the others. -/
def shdPart (x y z : Int) (tp fr sd : List Int) (sp : Bool) : List Cell := (pick x y z (allowedB y z tp fr sd)).filter fun c => aloneK y z (pick x y z (allowedB y z tp fr sd)) 3 c != sp
section
variable {x y z : Int} {t o t' o' t2 o2 : Nat} {tp fr sd : List Int} {M : Mem} (h1 : Ints M t o tp) (h2 : Ints M t' o' fr) (h3 : Ints M t2 o2 sd)
include h1 h2 h3
end
end Go.Ab

/- Contracts: MustCells and SpareCells, both sides. -/
namespace Go.Ab
open Go
set_option linter.unusedSimpArgs false
set_option linter.unusedVariables false
set_option maxRecDepth 20000

/-- A valid shadow whose lists fit together. -/
def Fits (x y z : Int) (tp fr sd : List Int) : Prop := ShdOK x y z tp fr sd ∧ HasShd x y z tp fr sd (pick x y z (allowedB y z tp fr sd))
instance (x y z : Int) (tp fr sd : List Int) : Decidable (Fits x y z tp fr sd) := by unfold Fits; exact inferInstance
def partOf (x y z : Int) (tp fr sd : List Int) (sp : Bool) : Option (List Cell) := if Fits x y z tp fr sd then some (shdPart x y z tp fr sd sp) else none
section
variable {x y z : Int} {t o t' o' t2 o2 : Nat} {tp fr sd : List Int} {M : Mem} (h1 : Ints M t o tp) (h2 : Ints M t' o' fr) (h3 : Ints M t2 o2 sd) (l1 : tp.length ≤ 1000000000) (l2 : fr.length ≤ 1000000000) (l3 : sd.length ≤ 1000000000)
include h1 h2 h3 l1 l2 l3
end
end Go.Ab

/- Plain: what the law of shadows says. -/
namespace Go.Ab
open Go
set_option linter.unusedSimpArgs false
set_option linter.unusedVariables false
set_option maxRecDepth 20000

section
variable {x y z : Int} {tp fr sd : List Int} (hok : ShdOK x y z tp fr sd)
include hok
end
/-- The number of lit lines. -/
def litSum : List Int → Int
  | [] => 0
  | a :: l => a + litSum l
theorem litSum_snoc {l : List Int} {a : Int} : litSum (l ++ [a]) = litSum l + a := by
  induction l with
  | nil => simp [litSum]
  | cons b l ih => simp only [List.cons_append, litSum, ih]; omega
theorem litSum_take {l : List Int} {k : Nat} (hk : k < l.length) : litSum (l.take (k + 1)) = litSum (l.take k) + l.getD k 0 := by
  rw [List.take_succ, List.getElem?_eq_getElem hk, Option.toList_some, litSum_snoc]
  simp [hk]
theorem litSum_zero : ∀ n : Nat, litSum (List.replicate n 0) = 0
  | 0 => rfl
  | n + 1 => by simp only [List.replicate_succ, litSum, litSum_zero n]; rfl
end Go.Ab

/- Plain: faces of heaps, of filled heaps, and shadows. -/
namespace Go.Ab
open Go
set_option linter.unusedSimpArgs false
set_option linter.unusedVariables false
set_option maxRecDepth 20000

def oppF (f : Nat) : Nat := if f % 2 = 0 then f + 1 else f - 1
theorem six {f : Nat} (hf : f < 6) : f = 0 ∨ f = 1 ∨ f = 2 ∨ f = 3 ∨ f = 4 ∨ f = 5 := by omega
def nearN (cs : List Cell) (c : Cell) : Nat := (List.range 6).countP fun f => decide (nbC c f ∈ cs)
def nearSum (cs : List Cell) : Nat := (cs.map (nearN cs)).sum
section
variable {x y z : Int} {cs : List Cell} (hH : HeapOK x y z cs)
/-- All cells of the heap or enclosed. -/
noncomputable def filL (x y z : Int) (cs : List Cell) : List Cell := pick x y z fun c => decide (c ∈ cs) || closed x y z (fun c => decide (c ∈ cs)) c
include hH
omit hH in
end
end Go.Ab

/- Contracts: the reference's bare and outside faces. -/
namespace Go.Ab
open Go
set_option linter.unusedSimpArgs false
set_option linter.unusedVariables false
set_option maxRecDepth 20000

/-- Counters of six kinds, behind some cells and some faces of the next one. -/
def cntQ (p : Cell → Nat → Bool) (cs : List Cell) (i d f : Nat) : Nat := (cs.take i).countP (fun c => p c f) + if f < d ∧ p (cs.getD i default) f = true then 1 else 0
def rowQ (p : Cell → Nat → Bool) (cs : List Cell) (i d : Nat) : List LV := (List.range 6).map fun (f : Nat) => LV.I ((cntQ p cs i d f : Nat) : Int)
section
variable {p : Cell → Nat → Bool} {cs : List Cell} {i d f : Nat}
end
/-- A face beyond which there is neither a cube nor a hidden cell. -/
def bareP (cs es : List Cell) (c : Cell) (f : Nat) : Bool := decide (nbC c f ∉ cs) && decide (nbC c f ∉ es)
def bareC (cs es : List Cell) (f : Nat) : Nat := cs.countP fun c => bareP cs es c f
section
variable {x y z : Int} {t : Nat} {w : Bool} {cs : List Cell} {M : Mem} (h : Live M t (.row (triL cs) w 3)) (hn : cs.length ≤ 1000000000)
include h hn
def faceV (cs : List Cell) : List LV := [.I (faceN cs 0 : Nat), .I (faceN cs 1 : Nat), .I (faceN cs 2 : Nat), .I (faceN cs 3 : Nat), .I (faceN cs 4 : Nat), .I (faceN cs 5 : Nat)]
end
end Go.Ab

/- The abstract code of some functions (written by a program of mine from the translation, by way of prepF). -/
namespace Go.Ab.C
open Go.Ab
end Go.Ab.C

/- That the program has this code. -/
namespace Go.Ab.K
open Go Go.Ab
end Go.Ab.K

/- Contracts: the program's bare faces and surface. -/
namespace Go.Ab
open Go
set_option linter.unusedSimpArgs false
set_option linter.unusedVariables false
set_option maxRecDepth 20000

def cntR (cs : List Cell) (i d f : Nat) : Nat := (cs.take i).countP (fun c => decide (nbC c f ∉ cs)) + if f < d ∧ nbC (cs.getD i default) f ∉ cs then 1 else 0
def rowF (cs : List Cell) (i d : Nat) : List LV := (List.range 6).map fun (f : Nat) => LV.I ((cntR cs i d f : Nat) : Int)
/-- What SurfaceOf answers. -/
noncomputable def surfOf (x y z : Int) (cs : List Cell) : Option Nat := by
  classical
  exact if HeapOK x y z cs then some (surfN cs) else none
end Go.Ab

/- The abstract code of some functions (written by a program of mine from the translation, by way of prepF). -/
namespace Go.Ab.C
open Go.Ab
end Go.Ab.C

/- That the program has this code. -/
namespace Go.Ab.K
open Go Go.Ab
end Go.Ab.K

/- Contracts: the reference's FillCavities. -/
namespace Go.Ab
open Go
set_option linter.unusedSimpArgs false
set_option linter.unusedVariables false

end Go.Ab

/- Contracts: touching faces, both sides; the program's bare and outside faces. -/
namespace Go.Ab
open Go
set_option linter.unusedSimpArgs false
set_option linter.unusedVariables false
set_option maxRecDepth 20000

/-- What the first cells have. -/
def sumK (f : Cell → Nat) (cs : List Cell) (k : Nat) : Nat := ((cs.take k).map f).sum
section
variable {x y z : Int} {t : Nat} {w : Bool} {cs : List Cell} {M : Mem} (h : Live M t (.row (triL cs) w 3))
include h
end
end Go.Ab

/- Plain: the square of the number of cubes is at most the product of the three shadows. -/
namespace Go.Ab
open Go
set_option linter.unusedSimpArgs false
set_option linter.unusedVariables false
set_option maxRecDepth 20000

section
variable {x y z : Int}
/-- How many cells lie on a line. -/
def lineN (y z : Int) (d : Nat) (cs : List Cell) (i : Nat) : Nat := cs.countP (onLine y z d i)
/-- The lit lines of a direction. -/
def litX (x y z : Int) (d : Nat) (cs : List Cell) : List Nat := (List.range (linesOf x y z d).toNat).filter fun i => decide (0 < lineN y z d cs i)
end
end Go.Ab

/- The abstract code of some functions (written by a program of mine from the translation, by way of prepF). -/
namespace Go.Ab.C
open Go.Ab
def impl_isDirection : AFn :=
 ⟨1, 5, [.tmp 2],
 .seq (.ops [(none, .mv 2 (.c (.B false)))])
 (.seq (.ops [(none, .mv 3 (.t 0)),
 (none, .call (some 4) F.impl_within [(.t 3), (.c (.I 0)), (.c (.I 2))]),
 (none, .mv 2 (.t 4))])
 (.ret))⟩
end Go.Ab.C

/- That the program has this code. -/
namespace Go.Ab.K
open Go Go.Ab
theorem impl_isDirection : prepF Go.Proofs.Try.prog F.impl_isDirection = some C.impl_isDirection := by kernel_rfl
end Go.Ab.K

/- The abstract code of some functions (written by a program of mine from the translation, by way of prepF). -/
namespace Go.Ab.C
open Go.Ab
end Go.Ab.C

/- That the program has this code. -/
namespace Go.Ab.K
open Go Go.Ab
end Go.Ab.K

/- The abstract code of some functions (written by a program of mine from the translation, by way of prepF). -/
namespace Go.Ab.C
open Go.Ab
end Go.Ab.C

/- That the program has this code. -/
namespace Go.Ab.K
open Go Go.Ab
end Go.Ab.K

/- Contracts: the program's positions and forms. -/
namespace Go.Ab
open Go
set_option linter.unusedSimpArgs false
set_option linter.unusedVariables false

/-- Heaps, as the elements of a slice; each with the block of its cells. -/
def hrow (p : Nat × Hp) : List LV := [.I p.2.x, .I p.2.y, .I p.2.z, .ref p.1 0 p.2.cs.length]
def hpL (l : List (Nat × Hp)) : List LV := l.flatMap hrow
theorem hpL_len (l : List (Nat × Hp)) : (hpL l).length = l.length * 4 := by
  induction l with
  | nil => rfl
  | cons t l ih => rw [show hpL (t :: l) = hrow t ++ hpL l from rfl, List.length_append, ih, List.length_cons]; simp [hrow]; omega
theorem hpL_at {l : List (Nat × Hp)} : ∀ {k : Nat}, (hk : k < l.length) → ((hpL l).drop (k * 4)).take 4 = hrow l[k] := by
  induction l with
  | nil => intro k hk; simp at hk
  | cons t l ih =>
    intro k hk
    have e : hpL (t :: l) = hrow t ++ hpL l := rfl
    have hr : (hrow t).length = 4 := rfl
    cases k with
    | zero => rw [e, Nat.zero_mul, List.drop_zero, List.take_append_of_le_length (by omega), List.take_of_length_le (by omega)]; rfl
    | succ k =>
      rw [e, List.drop_append, List.drop_eq_nil_of_le (by omega), List.nil_append, hr, show (k + 1) * 4 - 4 = k * 4 by omega, ih (by simpa using hk)]
      rfl
theorem Live.hp {N : Mem} {t k e : Nat} {w : Bool} {l : List (Nat × Hp)} (h : Live N t (.row (hpL l) w e)) (hk : k < l.length) : getCells N t (k * 4) 4 = some (hrow l[k]) := by
  rw [h.cells, if_pos (by rw [hpL_len]; omega), hpL_at hk]
/-- All these heaps' cells are there, behind M. -/
def HpsOK (M N : Mem) (l : List (Nat × Hp)) : Prop := ∀ p ∈ l, Live N p.1 (.row (triL p.2.cs) true 3) ∧ M.length ≤ p.1 ∧ p.2.cs.length ≤ 64
theorem HpsOK.pre {M N N' : Mem} {l : List (Nat × Hp)} (h : HpsOK M N l) (hp : Pre N N') : HpsOK M N' l := fun p hpl => ⟨(h p hpl).1.pre hp, (h p hpl).2⟩

def bestP (b : Nat × Hp) (l : List (Nat × Hp)) : Nat × Hp := l.foldl (fun b n => if lessHp n.2 b.2 then n else b) b
/-- A form as a value: its cells are in a block behind M. -/
def FormRes (M : Mem) (f : Hp) (v : LV) (N : Mem) : Prop := ∃ u : Nat, v = .agg [.I f.x, .I f.y, .I f.z, .ref u 0 f.cs.length] ∧ M.length ≤ u ∧ Live N u (.row (triL f.cs) true 3) ∧ Pre M N
end Go.Ab

/- Contracts: the program's statements on forms. -/
namespace Go.Ab
open Go
set_option linter.unusedSimpArgs false
set_option linter.unusedVariables false

end Go.Ab

/- Contracts: the program's mirrored heaps; IsHanded. -/
namespace Go.Ab
open Go
set_option linter.unusedSimpArgs false
set_option linter.unusedVariables false

end Go.Ab

/- Contracts: bare squares by lines, both sides. -/
namespace Go.Ab
open Go
set_option linter.unusedSimpArgs false
set_option linter.unusedVariables false
set_option maxRecDepth 20000

/-- A number is added at a place of a list. -/
def addAt (v : List Int) (j : Nat) (a : Int) : List Int := v.set j (v.getD j 0 + a)
/-- Each cell's weight is added to its line. -/
def sqStep (y z : Int) (d : Nat) (g : Cell → Nat) (v : List Int) (c : Cell) : List Int := addAt v (lineOf y z c d).toNat (g c)
def sqF (x y z : Int) (d : Nat) (g : Cell → Nat) (l : List Cell) : List Int := l.foldl (sqStep y z d g) (List.replicate (linesOf x y z d).toNat 0)
section
variable {x y z : Int} {d : Nat} {g : Cell → Nat}
end
/-- The ends of stretches count twice. -/
def gEnd (cs : List Cell) (d : Nat) (c : Cell) : Nat := if nbC c (2 * d + 1) ∉ cs then 2 else 0
/-- The first faces of two count. -/
def gTwo (cs : List Cell) (d e : Nat) (c : Cell) : Nat := (List.range e).countP fun f => decide (nbC c (2 * d + f) ∉ cs)
section
variable {x y z : Int} {d : Nat} {cs : List Cell} (hH : HeapOK x y z cs) (hd : d < 3)
include hH hd
end
/-- What BareSquares answers. -/
noncomputable def sqrOf (x y z : Int) (cs : List Cell) (d : Int) : List Int := by
  classical
  exact if HeapOK x y z cs ∧ Dir d then sqF x y z d.toNat (gEnd cs d.toNat) cs else []
noncomputable def sqrB (x y z : Int) (cs : List Cell) (d : Int) : Bool := by
  classical
  exact decide (HeapOK x y z cs ∧ Dir d)
/-- A list of numbers that may be read, and a truth. -/
def IntsG (M : Mem) (l : List Int) (b : Bool) (v : LV) (N : Mem) : Prop := ∃ w, v = .tup [w, .B b] ∧ IntsV N w l ∧ Pre M N
section
variable {x y z : Int} {t : Nat} {w : Bool} {cs : List Cell} {M : Mem} (h : Live M t (.row (triL cs) w 3))
include h
end
end Go.Ab

/- The abstract code of some functions (written by a program of mine from the translation, by way of prepF). -/
namespace Go.Ab.C
open Go.Ab
end Go.Ab.C

/- That the program has this code. -/
namespace Go.Ab.K
open Go Go.Ab
end Go.Ab.K

/- The code of ViewOf. -/
namespace Go.Ab
end Go.Ab

/- The abstract code of some functions (written by a program of mine from the translation, by way of prepF). -/
namespace Go.Ab.C
open Go.Ab
end Go.Ab.C

/- That the program has this code. -/
namespace Go.Ab.K
open Go Go.Ab
end Go.Ab.K

/- The abstract code of some functions (written by a program of mine from the translation, by way of prepF). -/
namespace Go.Ab.C
open Go.Ab
end Go.Ab.C

/- That the program has this code. -/
namespace Go.Ab.K
open Go Go.Ab
end Go.Ab.K

/- Contracts: the reference's mirrored, other, cropped, widened and shifted heaps. -/
namespace Go.Ab
open Go
set_option linter.unusedSimpArgs false
set_option linter.unusedVariables false
set_option maxRecDepth 20000

section
variable {x y z : Int} {t : Nat} {w : Bool} {cs : List Cell} {M : Mem} (h : Live M t (.row (triL cs) w 3)) (hn : cs.length ≤ 1000000000)
include h hn
end
end Go.Ab

/- Contracts: shadows that fit together, greatest heaps, bounds, clean shadows, taken cubes. -/
namespace Go.Ab
open Go
set_option linter.unusedSimpArgs false
set_option linter.unusedVariables false
set_option maxRecDepth 20000

structure Shd where
  x : Int
  y : Int
  z : Int
  tp : List Int
  fr : List Int
  sd : List Int
def Shd.none : Shd := ⟨0, 0, 0, [], [], []⟩
/-- A shadow, or the one of all zeros and false; its lists may be read. -/
def ShdX (M : Mem) (r : Option Shd) (v : LV) (N : Mem) : Prop := ∃ a b c : Nat, v = .tup [.agg [.I (r.getD Shd.none).x, .I (r.getD Shd.none).y, .I (r.getD Shd.none).z, .ref a 0 (r.getD Shd.none).tp.length, .ref b 0 (r.getD Shd.none).fr.length, .ref c 0 (r.getD Shd.none).sd.length], .B r.isSome] ∧
  Ints N a 0 (r.getD Shd.none).tp ∧ Ints N b 0 (r.getD Shd.none).fr ∧ Ints N c 0 (r.getD Shd.none).sd ∧ Pre M N
section
variable (x y z : Int) (tp fr sd : List Int)
noncomputable def grtOf : Option Hp := by
  classical
  exact if Fits x y z tp fr sd then some ⟨x, y, z, pick x y z (allowedB y z tp fr sd)⟩ else none
noncomputable def clnOf : Option Shd := by
  classical
  exact if ShdOK x y z tp fr sd then some ⟨x, y, z, shdOf x y z 2 (pick x y z (allowedB y z tp fr sd)), shdOf x y z 1 (pick x y z (allowedB y z tp fr sd)), shdOf x y z 0 (pick x y z (allowedB y z tp fr sd))⟩ else none
noncomputable def lbdOf : Option Int := by
  classical
  exact if ShdOK x y z tp fr sd then some (max (litSum tp) (max (litSum fr) (litSum sd))) else none
end
section
variable {x y z : Int} {t o t' o' t2 o2 : Nat} {tp fr sd : List Int} {M : Mem} (h1 : Ints M t o tp) (h2 : Ints M t' o' fr) (h3 : Ints M t2 o2 sd) (l1 : tp.length ≤ 1000000000) (l2 : fr.length ≤ 1000000000) (l3 : sd.length ≤ 1000000000)
include h1 h2 h3 l1 l2 l3
end
end Go.Ab

/- The abstract code of some functions (written by a program of mine from the translation, by way of prepF). -/
namespace Go.Ab.C
open Go.Ab
end Go.Ab.C

/- That the program has this code. -/
namespace Go.Ab.K
open Go Go.Ab
end Go.Ab.K

/- The abstract code of some functions (written by a program of mine from the translation, by way of prepF). -/
namespace Go.Ab.C
open Go.Ab
end Go.Ab.C

/- That the program has this code. -/
namespace Go.Ab.K
open Go Go.Ab
end Go.Ab.K

/- The abstract code of some functions (written by a program of mine from the translation, by way of prepF). -/
namespace Go.Ab.C
open Go.Ab
end Go.Ab.C

/- That the program has this code. -/
namespace Go.Ab.K
open Go Go.Ab
end Go.Ab.K

/- The abstract code of some functions (written by a program of mine from the translation, by way of prepF). -/
namespace Go.Ab.C
open Go.Ab
end Go.Ab.C

/- That the program has this code. -/
namespace Go.Ab.K
open Go Go.Ab
end Go.Ab.K

/- The abstract code of some functions (written by a program of mine from the translation, by way of prepF). -/
namespace Go.Ab.C
open Go.Ab
end Go.Ab.C

/- That the program has this code. -/
namespace Go.Ab.K
open Go Go.Ab
end Go.Ab.K

/- The abstract code of some functions (written by a program of mine from the translation, by way of prepF). -/
namespace Go.Ab.C
open Go.Ab
end Go.Ab.C

/- That the program has this code. -/
namespace Go.Ab.K
open Go Go.Ab
end Go.Ab.K

/- The abstract code of some functions (written by a program of mine from the translation, by way of prepF). -/
namespace Go.Ab.C
open Go.Ab
end Go.Ab.C

/- That the program has this code. -/
namespace Go.Ab.K
open Go Go.Ab
end Go.Ab.K

/- The abstract code of some functions (written by a program of mine from the translation, by way of prepF). -/
namespace Go.Ab.C
open Go.Ab
end Go.Ab.C

/- That the program has this code. -/
namespace Go.Ab.K
open Go Go.Ab
end Go.Ab.K

/- The abstract code of some functions (written by a program of mine from the translation, by way of prepF). -/
namespace Go.Ab.C
open Go.Ab
end Go.Ab.C

/- That the program has this code. -/
namespace Go.Ab.K
open Go Go.Ab
end Go.Ab.K

/- The abstract code of some functions (written by a program of mine from the translation, by way of prepF). -/
namespace Go.Ab.C
open Go.Ab
end Go.Ab.C

/- That the program has this code. -/
namespace Go.Ab.K
open Go Go.Ab
end Go.Ab.K

/- The abstract code of some functions (written by a program of mine from the translation, by way of prepF). -/
namespace Go.Ab.C
open Go.Ab
def impl_Heap_heights : AFn :=
 ⟨1, 37, [.tmp 2],
 .seq (.ops [(none, .box 1 (.t 0)),
 (none, .mv 2 (.c .nil))])
 (.seq (.ops [(none, .fieldAddr 7 (.t 1) 0),
 (none, .load1 8 (.t 7)),
 (none, .fieldAddr 9 (.t 1) 1),
 (none, .load1 10 (.t 9)),
 (none, .bin 11 .mul (.t 8) (.t 10)),
 (none, .mksl 12 1 8 [(.I 0)] (.t 11) (.t 11)),
 (none, .mv 3 (.t 12))])
 (.seq (.seq (.ops [(none, .fieldAddr 13 (.t 1) 3),
 (none, .load1 14 (.t 13)),
 (none, .len 15 (.t 14)),
 (none, .mv 16 (.c (.I 0)))])
 (.block 0 (.loop (.seq (.ops [(none, .bin 17 .lss (.t 16) (.t 15))])
 (.seq (.cond (.t 17) (.skip)
 (.exit 0))
 (.seq (.block 1 (.seq (.ops [(none, .idxS 18 3 (.t 14) (.t 16)),
 (none, .loadN 19 3 (.t 18)),
 (none, .alloc 5 [(.I 0), (.I 0), (.I 0)]),
 (none, .store 3 (.t 5) (.t 19))])
 (.seq (.draw [⟨(none, .loadN 20 4 (.t 1)), [], []⟩,
 ⟨(none, .loadN 22 3 (.t 5)), [], []⟩,
 ⟨(none, .call (some 21) F.impl_Heap_box [(.t 20)]), [], [1]⟩,
 ⟨(none, .call (some 23) F.impl_box_line [(.t 21), (.t 22), (.c (.I 2))]), [], []⟩,
 ⟨(none, .mv 6 (.t 23)), [], []⟩])
 (.draw [⟨(none, .mv 24 (.t 3)), [], []⟩,
 ⟨(none, .mv 25 (.t 6)), [], []⟩,
 ⟨(none, .mv 26 (.t 3)), [], []⟩,
 ⟨(none, .mv 27 (.t 6)), [], []⟩,
 ⟨(none, .idxS 28 1 (.t 26) (.t 27)), [], []⟩,
 ⟨(none, .load1 29 (.t 28)), [], []⟩,
 ⟨(none, .idxA 30 3 1 (.t 5) (.c (.I 2))), [], []⟩,
 ⟨(none, .load1 31 (.t 30)), [], []⟩,
 ⟨(none, .bin 32 .add (.t 31) (.c (.I 1))), [], []⟩,
 ⟨(none, .mm 33 true [(.t 29), (.t 32)]), [], []⟩,
 ⟨(none, .idxS 34 1 (.t 24) (.t 25)), [], []⟩,
 ⟨(none, .store 1 (.t 34) (.t 33)), [], []⟩]))))
 (.ops [(none, .bin 35 .add (.t 16) (.c (.I 1))),
 (none, .mv 16 (.t 35))])))))))
 (.seq (.ops [(none, .mv 36 (.t 3)),
 (none, .mv 2 (.t 36))])
 (.ret))))⟩
end Go.Ab.C

/- That the program has this code. -/
namespace Go.Ab.K
open Go Go.Ab
theorem impl_Heap_heights : prepF Go.Proofs.Try.prog F.impl_Heap_heights = some C.impl_Heap_heights := by kernel_rfl
end Go.Ab.K

/- Contracts: g_heights. -/
namespace Go.Ab
open Go
set_option linter.unusedSimpArgs false
set_option linter.unusedVariables false
set_option maxRecDepth 20000

theorem g_heights {x y z : Int} {t o : Nat} {cs : List Cell} {M : Mem} (h : Tri M t o cs) (hn : cs.length ≤ 1000000000) (hH : HeapOK x y z cs) :
    CallsTo PG F.impl_Heap_heights [.agg [.I x, .I y, .I z, .ref t o cs.length]] M (.ref M.length 0 (x * y).toNat) (M ++ [some (.row (intL (topsOf x y cs)) true 1)]) := by
  have hb := mul_bound hH.1.1 hH.1.2.1
  refine calls_run K.impl_Heap_heights rfl ?_
  simp (disch := omega) only [C.impl_Heap_heights, made_int, ↓SXd, SXu, slBounds, ↓sop, ↓aop, ↓reduceIte, LV.cells, AOp.dst, LV.I, LV.B, LV.U, LV.S, LV.nil, Nat.reduceEqDiff, Nat.reduceAdd, Nat.reduceMul, Nat.reduceSub, Nat.reduceLeDiff, Nat.reduceBEq, Nat.reduceDiv, Nat.reduceMod, Int.reduceToNat, Int.reduceLT, Int.reduceLE, Int.reduceAdd, Int.reduceSub, Int.reduceMul, Int.reduceEq, Int.reduceNeg, reduceCtorEq, resV, resAll, ARes.ev, LV.flat, ite_true, ite_false, exists_eq_left', exists_eq_left, keyOf, implies_true, fillC, capOf]
  refine ev_loop (fun m fr M' => ∃ (k : Nat) (out : List Int), k + m = cs.length ∧ Pre M M' ∧ Live M' M.length (.row [.I x, .I y, .I z, .ref t o cs.length] true 0) ∧ Live M' (M.length + 1) (.row (intL out) true 1) ∧
    fr 1 = .ptr M.length 0 ∧ fr 3 = .ref (M.length + 1) 0 (x * y).toNat ∧ fr 14 = .ref t o cs.length ∧ fr 15 = .I (cs.length : Nat) ∧ fr 16 = .I k ∧
    out = (cs.take k).foldl (topStep y) (List.replicate (x * y).toNat 0) ∧ out.length = (x * y).toNat) cs.length ⟨0, _, by omega, Pre.app _ _, Live.new, Live.newj rfl, rfl, rfl, rfl, rfl, rfl, rfl, by simp⟩ ?_
  rintro m fr M' ⟨k, out, hk, hpre, hbox, hout, h1, h3, h14, h15, h16, ho, hol⟩
  have h' : Tri M' t o cs := h.pre hpre
  have ht := h'.lt
  simp (disch := omega) only [h1, h3, h14, h15, h16, ↓SXd, SXu, slBounds, ↓sop, ↓aop, ↓reduceIte, LV.cells, AOp.dst, LV.I, LV.B, LV.U, LV.S, LV.nil, Nat.reduceEqDiff, Nat.reduceAdd, Nat.reduceMul, Nat.reduceSub, Nat.reduceLeDiff, Nat.reduceBEq, Nat.reduceDiv, Nat.reduceMod, Int.reduceToNat, Int.reduceLT, Int.reduceLE, Int.reduceAdd, Int.reduceSub, Int.reduceMul, Int.reduceEq, Int.reduceNeg, reduceCtorEq, resV, resAll, ARes.ev, LV.flat, ite_true, ite_false, exists_eq_left', exists_eq_left, keyOf, implies_true, fillC, capOf]
  refine condC_dec (fun hlt => ?_) (fun hlt => ?_)
  · obtain ⟨ca, cb, cc⟩ := hH.cell' (k := k) (by omega)
    have hS := hH.1
    obtain ⟨b1, b2, b3, b4⟩ := col_bound hS.1 hS.2.1 ca cb
    obtain ⟨_, hy, hz⟩ := hS
    have hbox' : ∀ {L : Mem} {o n : Nat}, getCells (M' ++ L) M.length o n = _ := fun {L o n} => (hbox.app (L := L)).cells
    have houtc : ∀ {L : Mem} {o : Nat}, getCell (M' ++ L) (M.length + 1) o = _ := fun {L o} => (hout.app (L := L)).cell
    simp (disch := omega) only [h1, h3, h14, h15, h16, Tri.get h', Cell.row, hbox', ↓SXd, SXu, slBounds, ↓sop, ↓aop, ↓reduceIte, LV.cells, AOp.dst, LV.I, LV.B, LV.U, LV.S, LV.nil, Nat.reduceEqDiff, Nat.reduceAdd, Nat.reduceMul, Nat.reduceSub, Nat.reduceLeDiff, Nat.reduceBEq, Nat.reduceDiv, Nat.reduceMod, Int.reduceToNat, Int.reduceLT, Int.reduceLE, Int.reduceAdd, Int.reduceSub, Int.reduceMul, Int.reduceEq, Int.reduceNeg, reduceCtorEq, resV, resAll, ARes.ev, LV.flat, ite_true, ite_false, exists_eq_left', exists_eq_left, keyOf, implies_true, fillC, capOf]
    refine callK_of g_box ?_
    simp (disch := omega) only [h1, h3, h14, h15, h16, Tri.get h', Cell.row, hbox', ↓SXd, SXu, slBounds, ↓sop, ↓aop, ↓reduceIte, LV.cells, AOp.dst, LV.I, LV.B, LV.U, LV.S, LV.nil, Nat.reduceEqDiff, Nat.reduceAdd, Nat.reduceMul, Nat.reduceSub, Nat.reduceLeDiff, Nat.reduceBEq, Nat.reduceDiv, Nat.reduceMod, Int.reduceToNat, Int.reduceLT, Int.reduceLE, Int.reduceAdd, Int.reduceSub, Int.reduceMul, Int.reduceEq, Int.reduceNeg, reduceCtorEq, resV, resAll, ARes.ev, LV.flat, ite_true, ite_false, exists_eq_left', exists_eq_left, keyOf, implies_true, fillC, capOf]
    refine callK_of (g_line2 (by omega) (by omega)) ?_
    simp (disch := omega) only [h1, h3, h14, h15, h16, Tri.get h', Cell.row, hbox', houtc, intL_get, maxV, if_true, ↓SXd, SXu, slBounds, ↓sop, ↓aop, ↓reduceIte, LV.cells, AOp.dst, LV.I, LV.B, LV.U, LV.S, LV.nil, Nat.reduceEqDiff, Nat.reduceAdd, Nat.reduceMul, Nat.reduceSub, Nat.reduceLeDiff, Nat.reduceBEq, Nat.reduceDiv, Nat.reduceMod, Int.reduceToNat, Int.reduceLT, Int.reduceLE, Int.reduceAdd, Int.reduceSub, Int.reduceMul, Int.reduceEq, Int.reduceNeg, reduceCtorEq, resV, resAll, ARes.ev, LV.flat, ite_true, ite_false, exists_eq_left', exists_eq_left, keyOf, implies_true, fillC, capOf]
    refine memK_int hout.app (by omega) fun N l1 l2 l3 => ?_
    simp (disch := omega) only [h1, h3, h14, h15, h16, ↓SXd, SXu, slBounds, ↓sop, ↓aop, ↓reduceIte, LV.cells, AOp.dst, LV.I, LV.B, LV.U, LV.S, LV.nil, Nat.reduceEqDiff, Nat.reduceAdd, Nat.reduceMul, Nat.reduceSub, Nat.reduceLeDiff, Nat.reduceBEq, Nat.reduceDiv, Nat.reduceMod, Int.reduceToNat, Int.reduceLT, Int.reduceLE, Int.reduceAdd, Int.reduceSub, Int.reduceMul, Int.reduceEq, Int.reduceNeg, reduceCtorEq, resV, resAll, ARes.ev, LV.flat, ite_true, ite_false, exists_eq_left', exists_eq_left, keyOf, implies_true, fillC, capOf]
    refine ⟨m - 1, by omega, k + 1, _, by omega, pre_step (Pre.app' hpre) (by omega) (j := 0) l1 l3, live_step hbox.app (by omega) l3, l2, h1, h3, h14, h15, eqI (natI _), ?_, by simpa using hol⟩
    rw [take_succ_foldl _ _ _ _ default (by omega), ← ho]
    rfl
  · simp (disch := omega) only [h1, h3, h14, h15, h16, ↓SXd, SXu, slBounds, ↓sop, ↓aop, ↓reduceIte, LV.cells, AOp.dst, LV.I, LV.B, LV.U, LV.S, LV.nil, Nat.reduceEqDiff, Nat.reduceAdd, Nat.reduceMul, Nat.reduceSub, Nat.reduceLeDiff, Nat.reduceBEq, Nat.reduceDiv, Nat.reduceMod, Int.reduceToNat, Int.reduceLT, Int.reduceLE, Int.reduceAdd, Int.reduceSub, Int.reduceMul, Int.reduceEq, Int.reduceNeg, reduceCtorEq, resV, resAll, ARes.ev, LV.flat, ite_true, ite_false, exists_eq_left', exists_eq_left, keyOf, implies_true, fillC, capOf]
    have : k = cs.length := by omega
    subst this
    rw [List.take_length] at ho
    rw [show topsOf x y cs = out from ho.symm]
    exact cmp_keepL hpre (by omega) hout (intL_lo out) (by simp [rn, rn0, rn1])

end Go.Ab

/- Contracts: g_top g_isTop g_isTop_nil. -/
namespace Go.Ab
open Go
set_option linter.unusedSimpArgs false
set_option linter.unusedVariables false
set_option maxRecDepth 20000

end Go.Ab

/- Plain words: how far columns are, step by step. -/
namespace Go.Ab

theorem getD_mem {α : Type} {l : List α} {k : Nat} {d : α} (h : k < l.length) : l.getD k d ∈ l := by
  simp [h]

/-- One neighbour of column p is looked at. -/
def visit (p : Int) (st : List Int × List Int) (q : Int) : List Int × List Int :=
  if st.1.getD q.toNat 0 < 0 then (st.1.set q.toNat (st.1.getD p.toNat 0 + 1), st.2 ++ [q]) else st
def bfs (N : Int → List Int) : Nat → Nat → List Int × List Int → List Int
  | 0, _, st => st.1
  | f + 1, n, st => if n < st.2.length then bfs N f (n + 1) ((N (st.2.getD n 0)).foldl (visit (st.2.getD n 0)) st) else st.1
/-- How many steps lead from column p to each column, or -1. -/
def farFrom (c : Nat) (N : Int → List Int) (p : Int) : List Int := bfs N c 0 ((List.replicate c (-1)).set p.toNat 0, [p])

structure BInv (c : Nat) (st : List Int × List Int) : Prop where
  len : st.1.length = c
  cnt : st.1.countP (fun v => decide (v < 0)) + st.2.length = c
  mem : ∀ q ∈ st.2, 0 ≤ q ∧ q < (c : Int)
  val : ∀ k, k < c → -1 ≤ st.1.getD k 0 ∧ st.1.getD k 0 ≤ (st.2.length : Int)

theorem BInv.visit {c : Nat} {st : List Int × List Int} {p q : Int} (h : BInv c st) (hp : 0 ≤ p ∧ p < c) (hq : 0 ≤ q ∧ q < c) : BInv c (Go.Ab.visit p st q) := by
  unfold Go.Ab.visit
  split
  · rename_i hlt
    have hql : q.toNat < st.1.length := by rw [h.len]; omega
    have hvp := h.val p.toNat (by omega)
    refine ⟨by simpa using h.len, ?_, fun r hr => ?_, fun k hk => ?_⟩
    · have h1 := h.cnt
      simp only [List.length_append, List.length_singleton]
      rw [List.countP_set hql]
      have e : st.1[q.toNat] = st.1.getD q.toNat 0 := by simp [hql]
      have h2 : 0 < st.1.countP (fun v => decide (v < 0)) := List.countP_pos_iff.2 ⟨st.1[q.toNat], List.getElem_mem _, by rw [e]; simpa using hlt⟩
      rw [e]
      simp only [hlt, decide_true, if_true, show decide (st.1.getD p.toNat 0 + 1 < 0) = false from decide_eq_false (by omega), Bool.false_eq_true, if_false]
      omega
    · rcases List.mem_append.1 hr with hr | hr
      · exact h.mem r hr
      · rw [List.mem_singleton.1 hr]; exact hq
    · simp only [List.length_append, List.length_singleton]
      rw [getD_set]
      have := h.val k hk
      split <;> omega
  · exact h

theorem BInv.fold {c : Nat} {p : Int} (hp : 0 ≤ p ∧ p < c) : ∀ (l : List Int) (st : List Int × List Int), BInv c st → (∀ q ∈ l, 0 ≤ q ∧ q < (c : Int)) → BInv c (l.foldl (Go.Ab.visit p) st)
  | [], st, h, _ => h
  | q :: l, st, h, hl => BInv.fold hp l _ (h.visit hp (hl q (by simp))) fun r hr => hl r (by simp [hr])

theorem BInv.start {c : Nat} {p : Int} (hp : 0 ≤ p ∧ p < c) : BInv c ((List.replicate c (-1)).set p.toNat 0, [p]) := by
  refine ⟨by simp, ?_, fun q hq => by rw [List.mem_singleton.1 hq]; exact hp, fun k hk => ?_⟩
  · have hl : p.toNat < (List.replicate c (-1 : Int)).length := by simp; omega
    simp only
    rw [List.countP_set hl, List.countP_replicate]
    simp
    omega
  · simp only [getD_set]
    split
    · simp
    · simp [hk]

end Go.Ab

/- Plain words: regions. -/
namespace Go.Ab

def spreadOf (x y : Int) (cs : List Cell) (p s : Int) : List Int := farFrom (x * y).toNat (fun q => stepsOf x y (topsOf x y cs) q s) p
def regionOf (x y : Int) (cs : List Cell) (p s : Int) : List Int := (nums (x * y).toNat).filter fun q => decide (0 ≤ (spreadOf x y cs p s).getD q.toNat 0)
def countRegions (x y : Int) (cs : List Cell) (s : Int) : Int := ((nums (x * y).toNat).filter fun p => decide ((regionOf x y cs p s).getD 0 0 = p)).length
end Go.Ab

/- Plain words: the neighbours of a column, the program's way; they are those of the reference. -/
namespace Go.Ab

def nearL (y c p : Int) : List Int :=
  (if y ≤ p then [p - y] else []) ++ ((if 0 < p.tmod y then [p - 1] else []) ++ ((if p.tmod y < y - 1 then [p + 1] else []) ++ (if p + y < c then [p + y] else [])))

end Go.Ab

/- Contracts: the program's steps between columns. -/
namespace Go.Ab
open Go
set_option linter.unusedSimpArgs false
set_option linter.unusedVariables false

end Go.Ab

/- Contracts: searching and deleting in slices, by a function. -/
namespace Go.Ab
open Go
set_option linter.unusedSimpArgs false
set_option linter.unusedVariables false

/-- The place of the first number with a mark, or -1. -/
def idxF (pr : Int → Bool) (xs : List Int) : Int := match xs.findIdx? pr with | some i => (i : Int) | none => -1
/-- What DeleteFunc leaves in the block: what stays, then zeros. -/
def delRow (pr : Int → Bool) (xs : List Int) : List Int := xs.filter (fun v => !pr v) ++ List.replicate (xs.length - (xs.filter fun v => !pr v).length) 0

end Go.Ab

/- Contracts: the program's steps; repeated numbers. -/
namespace Go.Ab
open Go
set_option linter.unusedSimpArgs false
set_option linter.unusedVariables false
set_option maxRecDepth 20000

/-- The row that the program's steps leave: the steps, then zeros. -/
def stepRow (x y : Int) (ts : List Int) (p s : Int) : List Int := stepsOf x y ts p s ++ List.replicate ((nexts x y p).length - (stepsOf x y ts p s).length) 0

end Go.Ab

/- Contracts: the program's distances. -/
namespace Go.Ab
open Go
set_option linter.unusedSimpArgs false
set_option linter.unusedVariables false

end Go.Ab

/- The abstract code of some functions (written by a program of mine from the translation, by way of prepF). -/
namespace Go.Ab.C
open Go.Ab
end Go.Ab.C

/- That the program has this code. -/
namespace Go.Ab.K
open Go Go.Ab
end Go.Ab.K

/- The abstract code of some functions (written by a program of mine from the translation, by way of prepF). -/
namespace Go.Ab.C
open Go.Ab
end Go.Ab.C

/- That the program has this code. -/
namespace Go.Ab.K
open Go Go.Ab
end Go.Ab.K

/- The abstract code of some functions (written by a program of mine from the translation, by way of prepF). -/
namespace Go.Ab.C
open Go.Ab
end Go.Ab.C

/- That the program has this code. -/
namespace Go.Ab.K
open Go Go.Ab
end Go.Ab.K

/- Contracts: the reference's steps. -/
namespace Go.Ab
open Go
set_option linter.unusedSimpArgs false
set_option linter.unusedVariables false

def Low (ts : List Int) : Prop := ∀ k, k < ts.length → -100 ≤ ts.getD k 0 ∧ ts.getD k 0 ≤ 100

end Go.Ab

/- Contracts: the reference's spread. -/
namespace Go.Ab
open Go
set_option linter.unusedSimpArgs false
set_option linter.unusedVariables false

end Go.Ab

/- Contracts: the reference's regions. -/
namespace Go.Ab
open Go
set_option linter.unusedSimpArgs false
set_option linter.unusedVariables false

/-- What TopRegion answers. -/
noncomputable def topRegionOf (x y z : Int) (cs : List Cell) (p s : Int) : Option (List Int) := if HeapOK x y z cs ∧ (0 ≤ p ∧ p ≤ x * y - 1) ∧ 0 ≤ s then some (regionOf x y cs p s) else none

/-- What CountRegions answers. -/
noncomputable def rcOf (x y z : Int) (cs : List Cell) (s : Int) : Option Int := if HeapOK x y z cs ∧ 0 ≤ s then some (countRegions x y cs s) else none

end Go.Ab

/- Contracts: the program's regions. -/
namespace Go.Ab
open Go
set_option linter.unusedSimpArgs false
set_option linter.unusedVariables false

end Go.Ab

/- Plain words: what a spread tells: the least number of steps. -/
namespace Go.Ab

/-- What is known of column v. -/
def dist (st : List Int × List Int) (v : Int) : Int := st.1.getD v.toNat 0

structure FInv (c : Nat) (N : Int → List Int) (p : Int) (n : Nat) (st : List Int × List Int) : Prop where
  base : BInv c st
  here : dist st p = 0
  nonneg : ∀ i, i < st.2.length → 0 ≤ dist st (st.2.getD i 0)
  listed : ∀ v : Int, 0 ≤ v → v < c → 0 ≤ dist st v → ∃ i, i < st.2.length ∧ st.2.getD i 0 = v
  sorted : ∀ i j, i ≤ j → j < st.2.length → dist st (st.2.getD i 0) ≤ dist st (st.2.getD j 0)
  parent : ∀ v : Int, 0 ≤ v → v < c → 0 < dist st v → ∃ a : Int, (0 ≤ a ∧ a < c) ∧ v ∈ N a ∧ 0 ≤ dist st a ∧ dist st v = dist st a + 1
  root : ∀ v : Int, 0 ≤ v → v < c → dist st v = 0 → v = p
  done : ∀ i, i < n → i < st.2.length → ∀ b ∈ N (st.2.getD i 0), 0 ≤ dist st b ∧ dist st b ≤ dist st (st.2.getD i 0) + 1

/-- One more neighbour of the column at place n. -/
theorem FInv.visit1 {c : Nat} {N : Int → List Int} {p a q : Int} {n : Nat} {st : List Int × List Int} (h : FInv c N p n st) (hn : n < st.2.length) (ha : st.2.getD n 0 = a) (hb : ∀ i, i < st.2.length → dist st (st.2.getD i 0) ≤ dist st a + 1)
    (hq : 0 ≤ q ∧ q < c) (hqa : q ∈ N a) : FInv c N p n (visit a st q) ∧ n < (visit a st q).2.length ∧ (visit a st q).2.getD n 0 = a ∧ (∀ i, i < (visit a st q).2.length → dist (visit a st q) ((visit a st q).2.getD i 0) ≤ dist (visit a st q) a + 1) ∧
    (0 ≤ dist (visit a st q) q ∧ dist (visit a st q) q ≤ dist (visit a st q) a + 1) ∧ (∀ v : Int, 0 ≤ dist st v → dist (visit a st q) v = dist st v) := by
  have hac := h.base.mem a (by rw [← ha]; exact getD_mem hn)
  have ha0 := h.nonneg n hn
  rw [ha] at ha0
  have hbase := h.base.visit hac hq
  by_cases hlt : st.1.getD q.toNat 0 < 0
  · have hv : visit a st q = (st.1.set q.toNat (st.1.getD a.toNat 0 + 1), st.2 ++ [q]) := by unfold Go.Ab.visit; rw [if_pos hlt]
    have hql : q.toNat < st.1.length := by rw [h.base.len]; omega
    rw [hv] at hbase ⊢
    have hd : ∀ v : Int, dist (st.1.set q.toNat (st.1.getD a.toNat 0 + 1), st.2 ++ [q]) v = if v.toNat = q.toNat then dist st a + 1 else dist st v := fun v => by
      unfold dist; rw [getD_set]
      by_cases e : v.toNat = q.toNat
      · rw [if_pos ⟨e, hql⟩, if_pos e]
      · rw [if_neg (fun h => e h.1), if_neg e]
    have hold : ∀ v : Int, 0 ≤ dist st v → dist (st.1.set q.toNat (st.1.getD a.toNat 0 + 1), st.2 ++ [q]) v = dist st v := fun v hv => by
      rw [hd, if_neg]; intro e; unfold dist at hv; rw [e] at hv; omega
    have hqd : dist (st.1.set q.toNat (st.1.getD a.toNat 0 + 1), st.2 ++ [q]) q = dist st a + 1 := by rw [hd, if_pos rfl]
    have hl1 : ∀ i, i < st.2.length → (st.2 ++ [q]).getD i 0 = st.2.getD i 0 := fun i hi => by simp only [List.getD_eq_getElem?_getD]; rw [List.getElem?_append_left hi]
    have hl2 : (st.2 ++ [q]).getD st.2.length 0 = q := by simp
    have hlen : (st.2 ++ [q]).length = st.2.length + 1 := by simp
    have hcase : ∀ i, i < (st.2 ++ [q]).length → i < st.2.length ∨ i = st.2.length := fun i hi => by omega
    refine ⟨⟨hbase, by rw [hold _ (by rw [h.here]; omega)]; exact h.here, fun i hi => ?_, fun v h0 hc hv => ?_, fun i j hij hj => ?_, fun v h0 hc hv => ?_, fun v h0 hc hv => ?_, fun i hi hi' b hb' => ?_⟩, by simp only [hlen]; omega, by rw [hl1 n hn, ha], fun i hi => ?_, ?_, hold⟩
    · rcases hcase i hi with h1 | rfl
      · rw [hl1 i h1, hold _ (h.nonneg i h1)]; exact h.nonneg i h1
      · simp only [hl2]; rw [hqd]; omega
    · rw [hd] at hv
      by_cases e : v.toNat = q.toNat
      · exact ⟨st.2.length, by simp only [hlen]; omega, by rw [hl2]; omega⟩
      · rw [if_neg e] at hv
        obtain ⟨i, h1, h2⟩ := h.listed v h0 hc hv
        exact ⟨i, by simp only [hlen]; omega, by rw [hl1 i h1]; exact h2⟩
    · rcases hcase j hj with h1 | rfl
      · rw [hl1 i (by omega), hl1 j h1, hold _ (h.nonneg i (by omega)), hold _ (h.nonneg j h1)]; exact h.sorted i j hij h1
      · simp only [hl2]; rw [hqd]
        rcases Nat.lt_or_ge i st.2.length with h2 | h2
        · rw [hl1 i h2, hold _ (h.nonneg i h2)]; exact hb i h2
        · rw [show i = st.2.length by omega, hl2, hqd]; omega
    · by_cases e : v.toNat = q.toNat
      · have hvq : v = q := by omega
        subst hvq
        exact ⟨a, hac, hqa, by rw [hold _ ha0]; exact ha0, by rw [hqd, hold _ ha0]⟩
      · rw [hd, if_neg e] at hv
        obtain ⟨b, h1, h2, h3, h4⟩ := h.parent v h0 hc hv
        exact ⟨b, h1, h2, by rw [hold _ h3]; exact h3, by rw [hold _ (by omega), hold _ h3]; exact h4⟩
    · by_cases e : v.toNat = q.toNat
      · rw [hd, if_pos e] at hv; omega
      · rw [hd, if_neg e] at hv; exact h.root v h0 hc hv
    · rw [hl1 i (by omega)] at hb' ⊢
      have h1 := h.done i hi (by omega) b hb'
      rw [hold _ h1.1, hold _ (h.nonneg i (by omega))]; exact h1
    · rw [hold _ ha0]
      rcases hcase i hi with h1 | rfl
      · rw [hl1 i h1, hold _ (h.nonneg i h1)]; exact hb i h1
      · simp only [hl2]; rw [hqd]; exact Int.le_refl _
    · rw [hqd, hold _ ha0]; omega
  · have hv : visit a st q = st := by unfold Go.Ab.visit; rw [if_neg hlt]
    rw [hv]
    obtain ⟨i, h1, h2⟩ := h.listed q hq.1 hq.2 (by unfold dist; omega)
    have := hb i h1
    rw [h2] at this
    exact ⟨h, hn, ha, hb, ⟨by unfold dist; omega, this⟩, fun _ _ => rfl⟩

theorem FInv.fold {c : Nat} {N : Int → List Int} {p a : Int} {n : Nat} (hN : ∀ p q, q ∈ N p → 0 ≤ q ∧ q < (c : Int)) : ∀ (l done : List Int) (st : List Int × List Int), FInv c N p n st → n < st.2.length → st.2.getD n 0 = a → (∀ i, i < st.2.length → dist st (st.2.getD i 0) ≤ dist st a + 1) →
    (∀ q ∈ l, q ∈ N a) → (∀ q ∈ done, 0 ≤ dist st q ∧ dist st q ≤ dist st a + 1) →
    FInv c N p n (l.foldl (Go.Ab.visit a) st) ∧ n < (l.foldl (Go.Ab.visit a) st).2.length ∧ (l.foldl (Go.Ab.visit a) st).2.getD n 0 = a ∧ (∀ i, i < (l.foldl (Go.Ab.visit a) st).2.length → dist (l.foldl (Go.Ab.visit a) st) ((l.foldl (Go.Ab.visit a) st).2.getD i 0) ≤ dist (l.foldl (Go.Ab.visit a) st) a + 1) ∧
    (∀ q, q ∈ done ∨ q ∈ l → 0 ≤ dist (l.foldl (Go.Ab.visit a) st) q ∧ dist (l.foldl (Go.Ab.visit a) st) q ≤ dist (l.foldl (Go.Ab.visit a) st) a + 1) := by
  intro l
  induction l with
  | nil => intro done st h hn ha hb _ hd; exact ⟨h, hn, ha, hb, fun q hq => hd q (by simpa using hq)⟩
  | cons q l ih =>
    intro done st h hn ha hb hl hd
    have hqa := hl q (by simp)
    obtain ⟨h1, h2, h3, h4, h5, h6⟩ := h.visit1 hn ha hb (hN a q hqa) hqa
    have ha0 := h.nonneg n hn
    rw [ha] at ha0
    obtain ⟨k1, k2, k3, k4, k5⟩ := ih (q :: done) _ h1 h2 h3 h4 (fun r hr => hl r (by simp [hr])) (fun r hr => by
      rcases List.mem_cons.1 hr with rfl | hr
      · exact h5
      · rw [h6 _ (hd r hr).1, h6 _ ha0]; exact hd r hr)
    exact ⟨k1, k2, k3, k4, fun r hr => k5 r (by simp only [List.mem_cons] at hr ⊢; rcases hr with h | h | h <;> simp [h])⟩

theorem FInv.next {c : Nat} {N : Int → List Int} {p : Int} {n : Nat} {st : List Int × List Int} (hN : ∀ p q, q ∈ N p → 0 ≤ q ∧ q < (c : Int)) (h : FInv c N p n st) (hn : n < st.2.length) (hb : ∀ i, i < st.2.length → dist st (st.2.getD i 0) ≤ dist st (st.2.getD n 0) + 1) :
    FInv c N p (n + 1) ((N (st.2.getD n 0)).foldl (visit (st.2.getD n 0)) st) ∧ ∀ i, n + 1 < ((N (st.2.getD n 0)).foldl (visit (st.2.getD n 0)) st).2.length → i < ((N (st.2.getD n 0)).foldl (visit (st.2.getD n 0)) st).2.length →
      dist ((N (st.2.getD n 0)).foldl (visit (st.2.getD n 0)) st) (((N (st.2.getD n 0)).foldl (visit (st.2.getD n 0)) st).2.getD i 0) ≤ dist ((N (st.2.getD n 0)).foldl (visit (st.2.getD n 0)) st) (((N (st.2.getD n 0)).foldl (visit (st.2.getD n 0)) st).2.getD (n + 1) 0) + 1 := by
  obtain ⟨k1, k2, k3, k4, k5⟩ := FInv.fold hN (N (st.2.getD n 0)) [] st h hn rfl hb (fun q hq => hq) (fun q hq => by cases hq)
  generalize (N (st.2.getD n 0)).foldl (visit (st.2.getD n 0)) st = st' at k1 k2 k3 k4 k5 ⊢
  refine ⟨⟨k1.base, k1.here, k1.nonneg, k1.listed, k1.sorted, k1.parent, k1.root, fun i hi hi' b hb' => ?_⟩, fun i h1 h2 => ?_⟩
  · rcases Nat.lt_or_ge i n with h3 | h3
    · exact k1.done i h3 hi' b hb'
    · have : i = n := by omega
      subst this
      rw [k3] at hb' ⊢
      exact k5 b (.inr hb')
  · have h3 := k4 i h2
    have h4 := k1.sorted n (n + 1) (by omega) h1
    rw [k3] at h4
    omega

theorem FInv.start {c : Nat} {N : Int → List Int} {p : Int} (hp : 0 ≤ p ∧ p < c) : FInv c N p 0 ((List.replicate c (-1)).set p.toNat 0, [p]) := by
  have hd : ∀ v : Int, 0 ≤ v → v < c → dist ((List.replicate c (-1)).set p.toNat 0, [p]) v = if v = p then 0 else -1 := fun v h0 hc => by
    unfold dist
    simp only [getD_set, List.length_replicate]
    by_cases e : v = p
    · subst e; rw [if_pos ⟨rfl, by omega⟩, if_pos rfl]
    · rw [if_neg (fun h => e (by omega)), if_neg e]
      simp only [List.getD_eq_getElem?_getD, List.getElem?_replicate]
      rw [if_pos (by omega)]; rfl
  refine ⟨BInv.start hp, by rw [hd p hp.1 hp.2, if_pos rfl], fun i hi => ?_, fun v h0 hc hv => ?_, fun i j hij hj => ?_, fun v h0 hc hv => ?_, fun v h0 hc hv => ?_, fun i hi => by omega⟩
  · have : i = 0 := by simp at hi; omega
    subst this
    show 0 ≤ dist _ p
    rw [hd p hp.1 hp.2, if_pos rfl]; exact Int.le_refl 0
  · rw [hd v h0 hc] at hv
    split at hv
    · rename_i e; exact ⟨0, by simp, by simp [e]⟩
    · omega
  · have h1 : j = 0 := by simp at hj; omega
    have h2 : i = 0 := by omega
    subst h1; subst h2; exact Int.le_refl _
  · rw [hd v h0 hc] at hv; split at hv <;> omega
  · rw [hd v h0 hc] at hv; split at hv
    · assumption
    · omega

/-- Steps one behind the other. -/
inductive Way (N : Int → List Int) (p : Int) : Nat → Int → Prop
  | nil : Way N p 0 p
  | snoc {n : Nat} {a b : Int} : Way N p n a → b ∈ N a → Way N p (n + 1) b

theorem Way.cons {N : Int → List Int} {n : Nat} {p a b : Int} (h : b ∈ N p) (w : Way N b n a) : Way N p (n + 1) a := by
  induction w with
  | nil => exact .snoc .nil h
  | snoc _ h' ih => exact .snoc ih h'
section
variable {c : Nat} {N : Int → List Int} {p : Int} (hN : ∀ p q, q ∈ N p → 0 ≤ q ∧ q < (c : Int)) (hp : 0 ≤ p ∧ p < c)
include hN hp

end

end Go.Ab

/- Plain words: least numbers; the grid is one region; walks. -/
namespace Go.Ab

/-- The least number of which f holds. -/
noncomputable def leastN (f : Nat → Prop) : Nat := by
  classical
  exact if h : ∃ k, f k ∧ ∀ j, j < k → ¬ f j then Classical.choose h else 0
theorem nexts_comm {x y p q : Int} (hp : 0 ≤ p ∧ p < x * y) (h : q ∈ nexts x y p) : p ∈ nexts x y q := by
  unfold nexts at *
  rw [List.mem_filter] at *
  refine ⟨List.mem_map.2 ⟨p.toNat, List.mem_range.2 (by omega), by simp only [Int.ofNat_eq_natCast]; omega⟩, ?_⟩
  have h2 := of_decide_eq_true h.2
  refine decide_eq_true ?_
  unfold apart at *
  omega
end Go.Ab

/- Contracts: distances and least reaches, both sides. -/
namespace Go.Ab
open Go
set_option linter.unusedSimpArgs false
set_option linter.unusedVariables false

/-- The distance of two columns, or -1. -/
noncomputable def tdOf (x y z : Int) (cs : List Cell) (p q s : Int) : Int := by
  classical
  exact if (HeapOK x y z cs ∧ (0 ≤ p ∧ p ≤ x * y - 1)) ∧ (0 ≤ q ∧ q ≤ x * y - 1) ∧ 0 ≤ s then (spreadOf x y cs p s).getD q.toNat 0 else -1

end Go.Ab

/- Contracts: least reaches, both sides. -/
namespace Go.Ab
open Go
set_option linter.unusedSimpArgs false
set_option linter.unusedVariables false

/-- Column q is reached from p at the reach s. -/
def Near' (x y : Int) (cs : List Cell) (p q : Int) (s : Nat) : Prop := 0 ≤ (spreadOf x y cs p s).getD q.toNat 0
/-- What LeastReach answers. -/
noncomputable def reachOf (x y z : Int) (cs : List Cell) (p q : Int) : Option Nat := by
  classical
  exact if (HeapOK x y z cs ∧ (0 ≤ p ∧ p ≤ x * y - 1)) ∧ (0 ≤ q ∧ q ≤ x * y - 1) then some (leastN (Near' x y cs p q)) else none

end Go.Ab

/- Plain words: least climbs. -/
namespace Go.Ab

def relax1 (ts : List Int) (a c : Int) (st : List Int × Bool) (b : Int) : List Int × Bool :=
  if st.1.getD b.toNat 0 < 0 ∨ c + max (ts.getD b.toNat 0 - ts.getD a.toNat 0) 0 < st.1.getD b.toNat 0 then (st.1.set b.toNat (c + max (ts.getD b.toNat 0 - ts.getD a.toNat 0) 0), true) else st
def relaxCol (ts : List Int) (St : Int → List Int) (st : List Int × Bool) (a : Int) : List Int × Bool :=
  if st.1.getD a.toNat 0 < 0 then st else (St a).foldl (relax1 ts a (st.1.getD a.toNat 0)) st
def climbRound (ts : List Int) (St : Int → List Int) (c : Nat) (best : List Int) : List Int × Bool := (nums c).foldl (relaxCol ts St) (best, false)
def climbLoop (ts : List Int) (St : Int → List Int) (c : Nat) : Nat → List Int → List Int
  | 0, best => best
  | f + 1, best => if (climbRound ts St c best).2 then climbLoop ts St c f (climbRound ts St c best).1 else (climbRound ts St c best).1

def phiOf (v : Int) : Nat := if v < 0 then 100 else v.toNat
def phi (best : List Int) : Nat := (best.map phiOf).sum

def cnt0 (l : List Int) : Nat := l.countP fun v => decide (0 ≤ v)
structure CI (c : Nat) (N : Int → List Int) (p : Int) (best : List Int) : Prop where
  len : best.length = c
  lo : ∀ k, k < c → -1 ≤ best.getD k 0
  hi : ∀ k, k < c → best.getD k 0 ≤ 4 * (cnt0 best : Int) - 4
  root : 0 ≤ best.getD p.toNat 0
  way : ∀ v : Int, 0 ≤ v → v < c → 0 ≤ best.getD v.toNat 0 → ∃ n, Way N p n v

theorem CI.top {c : Nat} {N : Int → List Int} {p : Int} {best : List Int} (h : CI c N p best) (hc : c ≤ 16) : ∀ k, k < c → best.getD k 0 ≤ 60 := fun k hk => by
  have h1 := h.hi k hk
  have h2 : cnt0 best ≤ best.length := List.countP_le_length
  have h3 := h.len
  omega

section
variable {c : Nat} {N : Int → List Int} {p : Int} {ts : List Int} (hN : ∀ p q, q ∈ N p → 0 ≤ q ∧ q < (c : Int)) (hne : ∀ p, p ∉ N p) (hts : ∀ k, 0 ≤ ts.getD k 0 ∧ ts.getD k 0 ≤ 4) (hc : c ≤ 16)
include hN hne hts hc

end

def climbStart (c : Nat) (p : Int) : List Int := (List.replicate c (-1)).set p.toNat 0
end Go.Ab

/- Contracts: least climbs, both sides. -/
namespace Go.Ab
open Go
set_option linter.unusedSimpArgs false
set_option linter.unusedVariables false

/-- The least climbs from a column to all others. -/
def climbs (x y : Int) (cs : List Cell) (p s : Int) : List Int := climbLoop (topsOf x y cs) (fun r => stepsOf x y (topsOf x y cs) r s) (x * y).toNat 2000 (climbStart (x * y).toNat p)
/-- What LeastClimb answers. -/
noncomputable def climbOf (x y z : Int) (cs : List Cell) (p q s : Int) : Option Int := by
  classical
  exact if ((HeapOK x y z cs ∧ (0 ≤ p ∧ p ≤ x * y - 1)) ∧ (0 ≤ q ∧ q ≤ x * y - 1) ∧ 0 ≤ s) ∧ 0 ≤ (spreadOf x y cs p s).getD q.toNat 0 then some ((climbs x y cs p s).getD q.toNat 0) else none

section
variable {x y z s p : Int} {cs : List Cell} (hH : HeapOK x y z cs)
include hH

end

end Go.Ab

/- Plain words: the first walk. -/
namespace Go.Ab

def nextOf (D : List Int) (d : Int) (l : List Int) : Int := l.getD (idxF (fun r => decide (D.getD r.toNat 0 = d)) l).toNat 0
/-- The walk from a column on, that many steps long. -/
def walkW (D : List Int) (St : Int → List Int) : Nat → Int → List Int
  | 0, now => [now]
  | f + 1, now => now :: walkW D St f (nextOf D f (St now))
section
variable {x y s q : Int} {cs : List Cell} (hq : 0 ≤ q ∧ q ≤ x * y - 1)
include hq
end

/-- What FirstTopWalk answers. -/
noncomputable def walkOf (x y z : Int) (cs : List Cell) (p q s : Int) : Option (List Int) := by
  classical
  exact if ((HeapOK x y z cs ∧ (0 ≤ p ∧ p ≤ x * y - 1)) ∧ (0 ≤ q ∧ q ≤ x * y - 1) ∧ 0 ≤ s) ∧ 0 ≤ (spreadOf x y cs q s).getD p.toNat 0 then
    some (walkW (spreadOf x y cs q s) (fun r => stepsOf x y (topsOf x y cs) r s) ((spreadOf x y cs q s).getD p.toNat 0).toNat p) else none
end Go.Ab

/- Plain words: the reach and the climb of a walk; what the law of the walks says of them. -/
namespace Go.Ab
open Go
set_option linter.unusedSimpArgs false
set_option linter.unusedVariables false

def sumN (f : Nat → Int) : Nat → Int
  | 0 => 0
  | k + 1 => sumN f k + f k
/-- The reach of the first k steps. -/
def gapN (u : Nat → Int) : Nat → Int
  | 0 => 0
  | k + 1 => max (gapN u k) (gap (u (k + 1)) (u k))
def upN (u : Nat → Int) (k : Nat) : Int := sumN (fun i => max (u (i + 1) - u i) 0) k
/-- The heights along a walk. -/
def along (ts w : List Int) (i : Nat) : Int := ts.getD (w.getD i 0).toNat 0
def WalkOK (x y z : Int) (cs : List Cell) (w : List Int) : Prop := HeapOK x y z cs ∧ 0 < w.length ∧ (∀ i, i < w.length → 0 ≤ w.getD i 0 ∧ w.getD i 0 ≤ x * y - 1) ∧ ∀ i, i + 1 < w.length → w.getD (i + 1) 0 ∈ nexts x y (w.getD i 0)
/-- What WalkClimb answers. -/
noncomputable def wcOf (x y z : Int) (cs : List Cell) (w : List Int) : Option (Int × Int) := by
  classical
  exact if WalkOK x y z cs w then some (gapN (along (topsOf x y cs) w) (w.length - 1), upN (along (topsOf x y cs) w) (w.length - 1)) else none
theorem getD_reverse {l : List Int} {i : Nat} (h : i < l.length) : l.reverse.getD i 0 = l.getD (l.length - 1 - i) 0 := by
  simp [List.getD_eq_getElem?_getD, List.getElem?_reverse h]
theorem WalkOK.reverse {x y z : Int} {cs : List Cell} {w : List Int} (h : WalkOK x y z cs w) : WalkOK x y z cs w.reverse := by
  obtain ⟨h1, h2, h3, h4⟩ := h
  refine ⟨h1, by simpa using h2, fun i hi => ?_, fun i hi => ?_⟩
  · rw [List.length_reverse] at hi
    rw [getD_reverse hi]; exact h3 _ (by omega)
  · rw [List.length_reverse] at hi
    rw [getD_reverse (by omega), getD_reverse (by omega)]
    have e := h4 (w.length - 1 - (i + 1)) (by omega)
    rw [show w.length - 1 - (i + 1) + 1 = w.length - 1 - i by omega] at e
    have e2 := h3 (w.length - 1 - (i + 1)) (by omega)
    exact nexts_comm (by omega) e
theorem Way.mono {N N' : Int → List Int} (h : ∀ p q, q ∈ N p → q ∈ N' p) {p : Int} {n : Nat} {q : Int} (w : Way N p n q) : Way N' p n q := by
  induction w with
  | nil => exact .nil
  | snoc _ h' ih => exact .snoc ih (h _ _ h')
end Go.Ab

/- The abstract code of some functions (written by a program of mine from the translation, by way of prepF). -/
namespace Go.Ab.C
open Go.Ab
end Go.Ab.C

/- That the program has this code. -/
namespace Go.Ab.K
open Go Go.Ab
end Go.Ab.K

/- Contracts: least climbs, the program's side. -/
namespace Go.Ab
open Go
set_option linter.unusedSimpArgs false
set_option linter.unusedVariables false

end Go.Ab

/- Contracts: steps between columns and the climbs of walks, both sides; heights. -/
namespace Go.Ab
open Go
set_option linter.unusedSimpArgs false
set_option linter.unusedVariables false
set_option maxRecDepth 20000

/-- What StepColumns answers. -/
noncomputable def stepRes (x y z : Int) (cs : List Cell) (p s : Int) : Option (List Int) := by
  classical
  exact if HeapOK x y z cs ∧ (0 ≤ p ∧ p ≤ x * y - 1) ∧ 0 ≤ s then some (stepsOf x y (topsOf x y cs) p s) else none
/-- What TopHeights answers. -/
noncomputable def topRes (x y z : Int) (cs : List Cell) : Option (List Int) := by
  classical
  exact if HeapOK x y z cs then some (topsOf x y cs) else none
section
variable {x y z : Int} {t o : Nat} {cs : List Cell} {M : Mem} (h : Tri M t o cs) (hn : cs.length ≤ 1000000000)
include h hn
end
end Go.Ab

/- Contracts: views, shadows and heights of columns, both sides, for all heaps. -/
namespace Go.Ab
open Go
set_option linter.unusedSimpArgs false
set_option linter.unusedVariables false
set_option maxRecDepth 20000

noncomputable def vwOf (x y z : Int) (cs : List Cell) (d : Int) : List Int := by
  classical
  exact if HeapOK x y z cs ∧ Dir d then viewL x y z d.toNat cs else []
noncomputable def shsOf (x y z : Int) (cs : List Cell) : Option Shd := by
  classical
  exact if HeapOK x y z cs then some ⟨x, y, z, shdOf x y z 2 cs, shdOf x y z 1 cs, shdOf x y z 0 cs⟩ else none
noncomputable def tpsOf (x y z : Int) (cs : List Cell) : List Int := by
  classical
  exact if HeapOK x y z cs then topsOf x y cs else []
section
variable {x y z : Int} {t : Nat} {cs : List Cell} {M : Mem} (h : Tri M t 0 cs) (hn : cs.length ≤ 1000000000)
include h hn
end
end Go.Ab
