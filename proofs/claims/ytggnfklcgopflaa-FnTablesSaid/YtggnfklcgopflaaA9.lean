/- Parts of the proof of FnTablesSaid: Cd C_Kd K_Kd C_Kc K_Kc Kc Kd Ce C_Cf K_Cf C_Cc K_Cc C_Cb K_Cb Cb Cc C_Bc K_Bc C_Ba K_Ba C_Jw K_Jw C_Jv K_Jv C_Ju K_Ju Tx Js Ju C_Ty K_Ty Ty C_Pf K_Pf Pf Jv Jt Jw C_Bf K_Bf Bf C_Jp K_Jp C_Jg K_Jg Jg Jp Ba. -/
import Derived.Test.YtggnfklcgopflaaA8
import Derived.Test.YtggnfklcgopflaaA4
import Derived.Test.YtggnfklcgopflaaA6
import Derived.Test.YtggnfklcgopflaaA3
import Derived.Test.YtggnfklcgopflaaProg
import Derived.KernelRfl
import Derived.Test.YtggnfklcgopflaaA7
set_option linter.all false
/- Contracts: the program's search for tables. -/
namespace Go.Ab
open Go
set_option linter.unusedSimpArgs false
set_option linter.unusedVariables false
set_option maxRecDepth 20000

/-- A table, cell by cell, as a set. -/
def setT (T : List Int) : BitVec 64 := bsN T.length fun i => decide (T.getD i 0 = 1)
theorem bsN_congr {f g : Nat → Bool} : ∀ {n : Nat}, (∀ i, i < n → f i = g i) → bsN n f = bsN n g
  | 0, _ => rfl
  | n + 1, h => by rw [bsN_succ, bsN_succ, bsN_congr (n := n) fun i hi => h i (by omega), h n (by omega)]
theorem setT_snoc {T : List Int} {a : Int} : setT (T ++ [a]) = if a = 1 then setT T ||| 1#64 <<< T.length else setT T := by
  unfold setT
  rw [List.length_append, List.length_singleton, bsN_succ]
  have e1 : (T ++ [a]).getD T.length 0 = a := by
    simp only [List.getD_eq_getElem?_getD]; rw [List.getElem?_append_right (Nat.le_refl _)]; simp
  have e2 : bsN T.length (fun i => decide ((T ++ [a]).getD i 0 = 1)) = bsN T.length fun i => decide (T.getD i 0 = 1) := bsN_congr fun i hi => by
    simp only [List.getD_eq_getElem?_getD]; rw [List.getElem?_append_left hi]
  rw [e1, e2]
  by_cases h : a = 1 <;> simp [h]
theorem setT_bit {T : List Int} (h : T.length ≤ 64) (i : Nat) : (setT T).getLsbD i = (decide (i < T.length) && decide (T.getD i 0 = 1)) := bsN_bit h i
/-- What a search leaves alone: all but some blocks. -/
def FrmL (ws : List Nat) (M N : Mem) : Prop := M.length ≤ N.length ∧ ∀ q, q < M.length → q ∉ ws → N[q]? = M[q]?
theorem FrmL.trans {ws : List Nat} {M N N' : Mem} (h : FrmL ws M N) (k : FrmL ws N N') : FrmL ws M N' := ⟨Nat.le_trans h.1 k.1, fun q h1 h2 => by rw [k.2 q (Nat.lt_of_lt_of_le h1 h.1) h2]; exact h.2 q h1 h2⟩
theorem FrmL.of {ws : List Nat} {M N : Mem} (h : Pre M N) : FrmL ws M N := ⟨h.1, fun q h1 _ => h.2 q h1⟩
theorem Live.frmL {ws : List Nat} {q : Nat} {M N : Mem} {b : Blk} (h : Live M q b) (k : FrmL ws M N) (h1 : q ∉ ws) : Live N q b := Live.at h (k.2 q h.lt h1)
def TEnv (n : Nat) (R : List Int) (B : Mem) (tr pn pr pl pv pf w : Nat) (fv : FuncId) (cps : List (Nat × Nat)) (M : Mem) : Prop :=
  Pre B M ∧ Live M pn (.row [.I n] true 0) ∧ Live M pr (.row [.ref tr 0 R.length] true 0) ∧ Live M pl (.row [.ref w 0 n] true 0) ∧ Live M pv (.row [.clo fv cps] true 0) ∧ Live M pf (.row [.clo F.impl_tables_1 [(pn, 0), (pr, 0), (pl, 0), (pv, 0), (pf, 0)]] true 0)
def TDis (B : Mem) (pn pr pl pv pf : Nat) (ws : List Nat) : Prop := ∀ c ∈ ws, B.length ≤ c ∧ c ≠ pn ∧ c ≠ pr ∧ c ≠ pl ∧ c ≠ pv ∧ c ≠ pf
theorem TEnv.frm {n : Nat} {R : List Int} {B : Mem} {tr pn pr pl pv pf w : Nat} {fv : FuncId} {cps : List (Nat × Nat)} {ws : List Nat} {M N : Mem} (hD : TDis B pn pr pl pv pf ws) (h : TEnv n R B tr pn pr pl pv pf w fv cps M) (k : FrmL ws M N) : TEnv n R B tr pn pr pl pv pf w fv cps N := by
  obtain ⟨h0, h1, h2, h3, h4, h5⟩ := h
  exact ⟨⟨Nat.le_trans h0.1 k.1, fun q hq => by rw [k.2 q (Nat.lt_of_lt_of_le hq h0.1) (fun hm => by have := (hD q hm).1; omega)]; exact h0.2 q hq⟩, h1.frmL k fun hm => (hD _ hm).2.1 rfl, h2.frmL k fun hm => (hD _ hm).2.2.1 rfl, h3.frmL k fun hm => (hD _ hm).2.2.2.1 rfl, h4.frmL k fun hm => (hD _ hm).2.2.2.2.1 rfl, h5.frmL k fun hm => (hD _ hm).2.2.2.2.2 rfl⟩
theorem set_back {l : List Int} {j : Nat} (v : Int) (h : j < l.length) : (l.set j v).set j (l.getD j 0) = l := by
  rw [List.set_set]
  simp only [List.getD_eq_getElem?_getD, List.getElem?_eq_getElem h, Option.getD_some]
  exact List.set_getElem_self h
section
variable {n : Nat} {R : List Int} {once : Bool} {B : Mem} {tr pn pr pl pv pf w : Nat} {cc : List Nat} {fv : FuncId} {cps : List (Nat × Nat)} {Inv : List (List Int) → Mem → Prop}
  (hn : 1 ≤ n ∧ n ≤ 4) (hR4 : R.length ≤ 4) (hRb : ∀ r ∈ R, 0 ≤ r ∧ r ≤ 1000) (hRI : Ints B tr 0 R) (hD : TDis B pn pr pl pv pf (w :: cc)) (hwc : w ∉ cc)
  (hInv : ∀ {P : List (List Int)} {N N' : Mem}, Inv P N → N.length ≤ N'.length → (∀ q, q < N.length → q ≠ w → N'[q]? = N[q]?) → Inv P N')
  (hVis : ∀ {P : List (List Int)} {T : List Int} {N : Mem}, (once = true → P = []) → Inv P N → T.length = R.length * n → P.length + 1 ≤ 1000000000 →
    CallsR PG fv (.W (setT T) :: cps.map fun p => .ptr p.1 p.2) N fun r N' => r = .B (!once) ∧ N.length ≤ N'.length ∧ (∀ q, q < N.length → q ∉ cc → N'[q]? = N[q]?) ∧ Inv (P ++ [T]) N')
include hn hR4 hRb hRI hD hwc hInv hVis
theorem g_fillT : ∀ (f : Nat) {rs : List Int} {k : Nat} {s : Int} {left T : List Int} {P0 : List (List Int)} {M : Mem}, f = rs.length * n + k → rs.length ≤ R.length → k < n → R.drop (R.length - rs.length) = rs → 0 ≤ s ∧ s ≤ 1000 → left.length = n → (∀ a ∈ left, 0 ≤ a ∧ a ≤ 1000) → T.length + f = R.length * n → TEnv n R B tr pn pr pl pv pf w fv cps M → Live M w (.row (intL left) true 1) → Inv P0 M → (once = true → P0 = []) → P0.length + (fillK n rs k s left).length ≤ 1000000000 →
    CallsR PG F.impl_tables_1 [.I (T.length : Nat), .I s, .W (setT T), .ptr pn 0, .ptr pr 0, .ptr pl 0, .ptr pv 0, .ptr pf 0] M fun r N => r = .B (!(once && !(fillK n rs k s left).isEmpty)) ∧ FrmL (w :: cc) M N ∧ Live N w (.row (intL left) true 1) ∧ Inv (P0 ++ selP once ((fillK n rs k s left).map (T ++ ·))) N := by
  intro f
  induction f using Nat.strongRecOn with
  | ind f ih =>
  intro rs k s left T P0 M hf hrl hk hdr hs hln hlb hT hE hw hI hz hb
  obtain ⟨hB, bN, bR, bL, bV, bF⟩ := id hE
  have hnl := bN.lt
  have hrll := bR.lt
  have hll := bL.lt
  have hvl := bV.lt
  have hfl := bF.lt
  have hwl := hw.lt
  have hTb : T.length ≤ 16 := by
    have : R.length * n ≤ 4 * 4 := Nat.mul_le_mul hR4 hn.2
    omega
  have hne : ¬ ((n : Nat) : Int) = 0 := by omega
  have hTe : T.length = (R.length - rs.length) * n - k := by
    rw [Nat.sub_mul]; omega
  have hkk : k = 0 ∨ 1 ≤ R.length - rs.length := by
    rcases Nat.eq_zero_or_pos (R.length - rs.length) with h | h
    · left
      have e : R.length = rs.length := by omega
      rw [e, hf] at hT; omega
    · exact .inr h
  have hmod : T.length % n = if k = 0 then 0 else n - k := by
    by_cases h0 : k = 0
    · rw [if_pos h0, hTe, h0, Nat.sub_zero, Nat.mul_mod_left]
    · rw [if_neg h0, hTe]
      obtain ⟨q, hq⟩ : ∃ q, R.length - rs.length = q + 1 := ⟨R.length - rs.length - 1, by omega⟩
      rw [hq, Nat.add_mul, Nat.one_mul, show q * n + n - k = (n - k) + q * n by omega, Nat.add_mul_mod_self_right, Nat.mod_eq_of_lt (by omega)]
  refine callsR_run K.impl_tables_1 rfl ?_
  simp (disch := omega) only [C.impl_tables_1, tmodNN, hne, ne_eq, not_false_eq_true, bN.cell, ↓SXd, SXu, slBounds, ↓sop, ↓aop, ↓reduceIte, LV.cells, AOp.dst, LV.I, LV.B, LV.U, LV.S, LV.nil, Nat.reduceEqDiff, Nat.reduceAdd, Nat.reduceMul, Nat.reduceSub, Nat.reduceLeDiff, Nat.reduceBEq, Nat.reduceDiv, Nat.reduceMod, Int.reduceToNat, Int.reduceLT, Int.reduceLE, Int.reduceAdd, Int.reduceSub, Int.reduceMul, Int.reduceEq, Int.reduceNeg, reduceCtorEq, resV, resAll, ARes.ev, LV.flat, ite_true, ite_false, exists_eq_left', exists_eq_left, keyOf, implies_true, fillC, capOf]
  refine cond_cut (fun fr' M' => M' = M ∧ ∃ (rs' : List Int) (k' : Nat) (s' : Int), fillK n rs k s left = fillK n rs' (k' + 1) s' left ∧ f = rs'.length * n + (k' + 1) ∧ rs'.length ≤ R.length ∧ k' < n ∧ R.drop (R.length - rs'.length) = rs' ∧ (0 ≤ s' ∧ s' ≤ 1000) ∧ T.length % n = n - (k' + 1) ∧
    fr' 0 = .I (T.length : Nat) ∧ fr' 1 = .I s' ∧ fr' 2 = .W (setT T) ∧ fr' 3 = .ptr pn 0 ∧ fr' 4 = .ptr pr 0 ∧ fr' 5 = .ptr pl 0 ∧ fr' 6 = .ptr pv 0 ∧ fr' 7 = .ptr pf 0) ?_ ?_
  · refine condC_dec (fun hm0 => ?_) (fun hm0 => ?_)
    · have hk0 : k = 0 := by
        rw [hmod] at hm0
        split at hm0
        · assumption
        · omega
      subst hk0
      rw [Nat.add_zero] at hf
      simp (disch := omega) only [↓SXd, SXu, slBounds, ↓sop, ↓aop, ↓reduceIte, LV.cells, AOp.dst, LV.I, LV.B, LV.U, LV.S, LV.nil, Nat.reduceEqDiff, Nat.reduceAdd, Nat.reduceMul, Nat.reduceSub, Nat.reduceLeDiff, Nat.reduceBEq, Nat.reduceDiv, Nat.reduceMod, Int.reduceToNat, Int.reduceLT, Int.reduceLE, Int.reduceAdd, Int.reduceSub, Int.reduceMul, Int.reduceEq, Int.reduceNeg, reduceCtorEq, resV, resAll, ARes.ev, LV.flat, ite_true, ite_false, exists_eq_left', exists_eq_left, keyOf, implies_true, fillC, capOf]
      refine condC_dec (fun hs0 => ?_) (fun hs0 => ?_)
      · have he : fillK n rs 0 s left = [] := by
          cases rs with
          | nil => rw [fillK_end, if_pos hs0]
          | cons r rs => rw [fillK_row, if_pos hs0]
        rw [he]
        simp (disch := omega) only [↓SXd, SXu, slBounds, ↓sop, ↓aop, ↓reduceIte, LV.cells, AOp.dst, LV.I, LV.B, LV.U, LV.S, LV.nil, Nat.reduceEqDiff, Nat.reduceAdd, Nat.reduceMul, Nat.reduceSub, Nat.reduceLeDiff, Nat.reduceBEq, Nat.reduceDiv, Nat.reduceMod, Int.reduceToNat, Int.reduceLT, Int.reduceLE, Int.reduceAdd, Int.reduceSub, Int.reduceMul, Int.reduceEq, Int.reduceNeg, reduceCtorEq, resV, resAll, ARes.ev, LV.flat, ite_true, ite_false, exists_eq_left', exists_eq_left, keyOf, implies_true, fillC, capOf]
        refine ⟨by simp, FrmL.of (Pre.refl _), hw, ?_⟩
        rw [show selP once ([] : List (List Int)) = [] by cases once <;> rfl, List.append_nil]; exact hI
      have hs0' : s = 0 := by omega
      have hmul : ((R.length : Nat) : Int) * ((n : Nat) : Int) = ((R.length * n : Nat) : Int) := by rw [Int.natCast_mul]
      have hmb : R.length * n ≤ 16 := Nat.mul_le_mul hR4 hn.2
      simp (disch := omega) only [bN.cell, bR.cell, hmul, ↓SXd, SXu, slBounds, ↓sop, ↓aop, ↓reduceIte, LV.cells, AOp.dst, LV.I, LV.B, LV.U, LV.S, LV.nil, Nat.reduceEqDiff, Nat.reduceAdd, Nat.reduceMul, Nat.reduceSub, Nat.reduceLeDiff, Nat.reduceBEq, Nat.reduceDiv, Nat.reduceMod, Int.reduceToNat, Int.reduceLT, Int.reduceLE, Int.reduceAdd, Int.reduceSub, Int.reduceMul, Int.reduceEq, Int.reduceNeg, reduceCtorEq, resV, resAll, ARes.ev, LV.flat, ite_true, ite_false, exists_eq_left', exists_eq_left, keyOf, implies_true, fillC, capOf]
      refine condC_dec (fun hend => ?_) (fun hend => ?_)
      · have hend2 : T.length = R.length * n := Int.ofNat.inj hend
        have hrs0 : rs = [] := by
          have : rs.length * n = 0 := by omega
          rcases Nat.mul_eq_zero.1 this with h | h
          · exact List.eq_nil_of_length_eq_zero h
          · omega
        subst hrs0
        have hmx := g_Max (l := left) hw.has (by omega) (by omega) fun a ha => (hlb a ha).1
        rw [hln] at hmx
        have hfe : fillK n [] 0 s left = if mostL left ≤ 0 then [[]] else [] := by
          rw [fillK_end, if_neg (by omega)]
          have : left.all (fun v => decide (v ≤ 0)) = decide (mostL left ≤ 0) := by
            rw [Bool.eq_iff_iff, List.all_eq_true, decide_eq_true_iff, mostL_le]
            exact ⟨fun h => ⟨Int.le_refl _, fun a ha => of_decide_eq_true (h a ha)⟩, fun h a ha => decide_eq_true (h.2 a ha)⟩
          rw [this]
          by_cases h : mostL left ≤ 0 <;> simp [h]
        rw [hfe] at hb ⊢
        simp (disch := omega) only [bL.cell, ↓SXd, SXu, slBounds, ↓sop, ↓aop, ↓reduceIte, LV.cells, AOp.dst, LV.I, LV.B, LV.U, LV.S, LV.nil, Nat.reduceEqDiff, Nat.reduceAdd, Nat.reduceMul, Nat.reduceSub, Nat.reduceLeDiff, Nat.reduceBEq, Nat.reduceDiv, Nat.reduceMod, Int.reduceToNat, Int.reduceLT, Int.reduceLE, Int.reduceAdd, Int.reduceSub, Int.reduceMul, Int.reduceEq, Int.reduceNeg, reduceCtorEq, resV, resAll, ARes.ev, LV.flat, ite_true, ite_false, exists_eq_left', exists_eq_left, keyOf, implies_true, fillC, capOf]
        refine callK_of hmx ?_
        by_cases hmo : 0 < mostL left
        · rw [if_neg (by omega)]
          simp (disch := omega) only [hmo, ↓SXd, SXu, slBounds, ↓sop, ↓aop, ↓reduceIte, LV.cells, AOp.dst, LV.I, LV.B, LV.U, LV.S, LV.nil, Nat.reduceEqDiff, Nat.reduceAdd, Nat.reduceMul, Nat.reduceSub, Nat.reduceLeDiff, Nat.reduceBEq, Nat.reduceDiv, Nat.reduceMod, Int.reduceToNat, Int.reduceLT, Int.reduceLE, Int.reduceAdd, Int.reduceSub, Int.reduceMul, Int.reduceEq, Int.reduceNeg, reduceCtorEq, resV, resAll, ARes.ev, LV.flat, ite_true, ite_false, exists_eq_left', exists_eq_left, keyOf, implies_true, fillC, capOf]
          refine ⟨by simp, FrmL.of (Pre.refl _), hw, ?_⟩
          rw [show selP once ([] : List (List Int)) = [] by cases once <;> rfl, List.append_nil]; exact hI
        · rw [if_pos (by omega)] at hb ⊢
          simp (disch := omega) only [hmo, bV.cell, ↓SXd, SXu, slBounds, ↓sop, ↓aop, ↓reduceIte, LV.cells, AOp.dst, LV.I, LV.B, LV.U, LV.S, LV.nil, Nat.reduceEqDiff, Nat.reduceAdd, Nat.reduceMul, Nat.reduceSub, Nat.reduceLeDiff, Nat.reduceBEq, Nat.reduceDiv, Nat.reduceMod, Int.reduceToNat, Int.reduceLT, Int.reduceLE, Int.reduceAdd, Int.reduceSub, Int.reduceMul, Int.reduceEq, Int.reduceNeg, reduceCtorEq, resV, resAll, ARes.ev, LV.flat, ite_true, ite_false, exists_eq_left', exists_eq_left, keyOf, implies_true, fillC, capOf]
          refine callR_of (hVis hz hI (by omega) (by simpa using hb)) ?_
          rintro _ N ⟨rfl, k1, k2, k3⟩
          simp (disch := omega) only [↓SXd, SXu, slBounds, ↓sop, ↓aop, ↓reduceIte, LV.cells, AOp.dst, LV.I, LV.B, LV.U, LV.S, LV.nil, Nat.reduceEqDiff, Nat.reduceAdd, Nat.reduceMul, Nat.reduceSub, Nat.reduceLeDiff, Nat.reduceBEq, Nat.reduceDiv, Nat.reduceMod, Int.reduceToNat, Int.reduceLT, Int.reduceLE, Int.reduceAdd, Int.reduceSub, Int.reduceMul, Int.reduceEq, Int.reduceNeg, reduceCtorEq, resV, resAll, ARes.ev, LV.flat, ite_true, ite_false, exists_eq_left', exists_eq_left, keyOf, implies_true, fillC, capOf]
          refine ⟨by cases once <;> rfl, ⟨k1, fun q h1 h2 => k2 q h1 fun hm => h2 (by simp [hm])⟩, Live.at hw (k2 w hwl hwc), ?_⟩
          rw [List.append_nil, show selP once [T] = [T] by cases once <;> rfl]
          exact k3
      · have hend2 : ¬ T.length = R.length * n := fun e => hend (congrArg Int.ofNat e)
        obtain ⟨r, rs1, rfl⟩ : ∃ r rs1, rs = r :: rs1 := by
          cases rs with
          | nil =>
            rw [List.length_nil, Nat.zero_mul] at hf
            omega
          | cons r rs1 => exact ⟨r, rs1, rfl⟩
        rw [List.length_cons] at hrl hf hdr hTe
        have hdi : T.length / n = R.length - (rs1.length + 1) := by rw [hTe, Nat.sub_zero, Nat.mul_div_cancel _ (by omega)]
        have hgi : R[R.length - (rs1.length + 1)]? = some r := by
          have := congrArg (fun l => l[0]?) hdr
          simpa using this
        have hrm : r ∈ R := List.mem_of_getElem? hgi
        have hgr := Ints.get (hRI.pre hB) (k := R.length - (rs1.length + 1)) (by omega)
        rw [Nat.zero_add, List.getD_eq_getElem?_getD, hgi, Option.getD_some, ← hdi] at hgr
        have hdl : T.length / n < R.length := by omega
        have hdl' : ((T.length / n : Nat) : Int) < ((R.length : Nat) : Int) := by omega
        simp (disch := omega) only [bR.cell, bN.cell, tdivNN, hgr, hdl, hdl', ↓SXd, SXu, slBounds, ↓sop, ↓aop, ↓reduceIte, LV.cells, AOp.dst, LV.I, LV.B, LV.U, LV.S, LV.nil, Nat.reduceEqDiff, Nat.reduceAdd, Nat.reduceMul, Nat.reduceSub, Nat.reduceLeDiff, Nat.reduceBEq, Nat.reduceDiv, Nat.reduceMod, Int.reduceToNat, Int.reduceLT, Int.reduceLE, Int.reduceAdd, Int.reduceSub, Int.reduceMul, Int.reduceEq, Int.reduceNeg, reduceCtorEq, resV, resAll, ARes.ev, LV.flat, ite_true, ite_false, exists_eq_left', exists_eq_left, keyOf, implies_true, fillC, capOf]
        refine ⟨rs1, n - 1, r, ?_, ?_, by omega, by omega, ?_, hRb r hrm, ?_, rfl⟩
        · rw [fillK_row, if_neg (by omega), show n - 1 + 1 = n by omega]
        · rw [hf, Nat.add_mul]; omega
        · have := congrArg List.tail hdr
          rw [List.tail_drop, List.tail_cons] at this
          refine Eq.trans ?_ this; congr 1; omega
        · rw [hmod, if_pos rfl]; omega
    · have hk1 : k ≠ 0 := fun e => by rw [hmod, if_pos e] at hm0; exact hm0 rfl
      obtain ⟨k', rfl⟩ : ∃ k', k = k' + 1 := ⟨k - 1, by omega⟩
      rw [if_neg hk1] at hmod
      simp (disch := omega) only [↓SXd, SXu, slBounds, ↓sop, ↓aop, ↓reduceIte, LV.cells, AOp.dst, LV.I, LV.B, LV.U, LV.S, LV.nil, Nat.reduceEqDiff, Nat.reduceAdd, Nat.reduceMul, Nat.reduceSub, Nat.reduceLeDiff, Nat.reduceBEq, Nat.reduceDiv, Nat.reduceMod, Int.reduceToNat, Int.reduceLT, Int.reduceLE, Int.reduceAdd, Int.reduceSub, Int.reduceMul, Int.reduceEq, Int.reduceNeg, reduceCtorEq, resV, resAll, ARes.ev, LV.flat, ite_true, ite_false, exists_eq_left', exists_eq_left, keyOf, implies_true, fillC, capOf]
      exact ⟨rs, k', s, rfl, hf, hrl, by omega, hdr, hs, hmod, rfl⟩
  · rintro fr M' ⟨rfl, rs', k', s', hfk, hf', hrl', hk', hdr', hs', hmod', f0, f1, f2, f3, f4, f5, f6, f7⟩
    rw [hfk] at hb ⊢
    clear hfk hmod hf hrl hk hdr hs hTe hkk
    rw [fillK_cell] at hb ⊢
    have ht1 : setT (T ++ [0]) = setT T := by rw [setT_snoc, if_neg (by omega)]
    have hl1 : (T ++ [(0 : Int)]).length = T.length + 1 := by simp
    have hb1 : P0.length + (fillK n rs' k' s' left).length ≤ 1000000000 := by
      rw [List.length_append, List.length_map] at hb; omega
    have hih1 := ih (f - 1) (by omega) (rs := rs') (k := k') (s := s') (left := left) (T := T ++ [0]) (P0 := P0) (M := M') (by omega) hrl' hk' hdr' hs' hln hlb (by omega) hE hw hI hz hb1
    rw [ht1, hl1] at hih1
    have hj : n - (k' + 1) < left.length := by omega
    simp (disch := omega) only [f0, f1, f2, f3, f4, f5, f6, f7, bF.cell, ↓SXd, SXu, slBounds, ↓sop, ↓aop, ↓reduceIte, LV.cells, AOp.dst, LV.I, LV.B, LV.U, LV.S, LV.nil, Nat.reduceEqDiff, Nat.reduceAdd, Nat.reduceMul, Nat.reduceSub, Nat.reduceLeDiff, Nat.reduceBEq, Nat.reduceDiv, Nat.reduceMod, Int.reduceToNat, Int.reduceLT, Int.reduceLE, Int.reduceAdd, Int.reduceSub, Int.reduceMul, Int.reduceEq, Int.reduceNeg, reduceCtorEq, resV, resAll, ARes.ev, LV.flat, ite_true, ite_false, exists_eq_left', exists_eq_left, keyOf, implies_true, fillC, capOf]
    refine callR_of hih1 ?_
    rintro _ N ⟨rfl, hfr1, hw1, hI1⟩
    have hmp1 : (fillK n rs' k' s' left).map ((T ++ [0]) ++ ·) = ((fillK n rs' k' s' left).map (0 :: ·)).map (T ++ ·) := by
      rw [List.map_map]; congr 1; funext q; simp
    rw [hmp1] at hI1
    generalize hA : fillK n rs' k' s' left = A at *
    by_cases hst : once = true ∧ A ≠ []
    · obtain ⟨rfl, hAn⟩ := hst
      obtain ⟨a1, A1, rfl⟩ : ∃ a A1, A = a :: A1 := by
        cases A with
        | nil => exact absurd rfl hAn
        | cons a A1 => exact ⟨a, A1, rfl⟩
      simp (disch := omega) only [f0, f1, f2, f3, f4, f5, f6, f7, List.isEmpty_cons, Bool.and_self, Bool.not_false, Bool.not_true, ↓SXd, SXu, slBounds, ↓sop, ↓aop, ↓reduceIte, LV.cells, AOp.dst, LV.I, LV.B, LV.U, LV.S, LV.nil, Nat.reduceEqDiff, Nat.reduceAdd, Nat.reduceMul, Nat.reduceSub, Nat.reduceLeDiff, Nat.reduceBEq, Nat.reduceDiv, Nat.reduceMod, Int.reduceToNat, Int.reduceLT, Int.reduceLE, Int.reduceAdd, Int.reduceSub, Int.reduceMul, Int.reduceEq, Int.reduceNeg, reduceCtorEq, resV, resAll, ARes.ev, LV.flat, ite_true, ite_false, exists_eq_left', exists_eq_left, keyOf, implies_true, fillC, capOf]
      refine ⟨rfl, hfr1, hw1, ?_⟩
      exact hI1
    have hval : (!(once && !A.isEmpty)) = true := by
      cases once with
      | false => rfl
      | true =>
        have : A = [] := Classical.byContradiction fun h => hst ⟨rfl, h⟩
        rw [this]; rfl
    have hz1 : once = true → A = [] := fun e => Classical.byContradiction fun h => hst ⟨e, h⟩
    rw [hval]
    have hE1 := hE.frm hD hfr1
    obtain ⟨hB1, bN1, bR1, bL1, bV1, bF1⟩ := id hE1
    have hgl := Ints.get hw1.has hj
    rw [Nat.zero_add] at hgl
    have hlv := hlb _ (getD_mem' (d := 0) hj)
    have hjn : n - (k' + 1) < n := by omega
    have hjn' : ((n - (k' + 1) : Nat) : Int) < ((n : Nat) : Int) := by omega
    have hsel : selP once (((A.map (0 :: ·)) ++ if s' = 0 ∨ left.getD (n - (k' + 1)) 0 = 0 then [] else (fillK n rs' k' (s' - 1) (left.set (n - (k' + 1)) (left.getD (n - (k' + 1)) 0 - 1))).map (1 :: ·)).map (T ++ ·)) = selP once ((A.map (0 :: ·)).map (T ++ ·)) ++ selP once ((if s' = 0 ∨ left.getD (n - (k' + 1)) 0 = 0 then [] else (fillK n rs' k' (s' - 1) (left.set (n - (k' + 1)) (left.getD (n - (k' + 1)) 0 - 1))).map (1 :: ·)).map (T ++ ·)) := by
      rw [List.map_append, sel_app]
      intro e; rw [hz1 e]; rfl
    rw [hsel]
    by_cases hs0 : s' = 0
    · rw [if_pos (.inl hs0)] at hb ⊢
      simp (disch := omega) only [f0, f1, f2, f3, f4, f5, f6, f7, hs0, ↓SXd, SXu, slBounds, ↓sop, ↓aop, ↓reduceIte, LV.cells, AOp.dst, LV.I, LV.B, LV.U, LV.S, LV.nil, Nat.reduceEqDiff, Nat.reduceAdd, Nat.reduceMul, Nat.reduceSub, Nat.reduceLeDiff, Nat.reduceBEq, Nat.reduceDiv, Nat.reduceMod, Int.reduceToNat, Int.reduceLT, Int.reduceLE, Int.reduceAdd, Int.reduceSub, Int.reduceMul, Int.reduceEq, Int.reduceNeg, reduceCtorEq, resV, resAll, ARes.ev, LV.flat, ite_true, ite_false, exists_eq_left', exists_eq_left, keyOf, implies_true, fillC, capOf]
      refine ⟨?_, hfr1, hw1, ?_⟩
      · rw [List.append_nil]
        have : (A.map (0 :: ·)).isEmpty = A.isEmpty := by cases A <;> rfl
        rw [this, hval]
      · rw [show selP once ([] : List (List Int)) = [] by cases once <;> rfl, List.append_nil]
        exact hI1
    · simp (disch := omega) only [f0, f1, f2, f3, f4, f5, f6, f7, hs0, bL1.cell, bN1.cell, tmodNN, hne, ne_eq, not_false_eq_true, hmod', hjn, hjn', hgl, ↓SXd, SXu, slBounds, ↓sop, ↓aop, ↓reduceIte, LV.cells, AOp.dst, LV.I, LV.B, LV.U, LV.S, LV.nil, Nat.reduceEqDiff, Nat.reduceAdd, Nat.reduceMul, Nat.reduceSub, Nat.reduceLeDiff, Nat.reduceBEq, Nat.reduceDiv, Nat.reduceMod, Int.reduceToNat, Int.reduceLT, Int.reduceLE, Int.reduceAdd, Int.reduceSub, Int.reduceMul, Int.reduceEq, Int.reduceNeg, reduceCtorEq, resV, resAll, ARes.ev, LV.flat, ite_true, ite_false, exists_eq_left', exists_eq_left, keyOf, implies_true, fillC, capOf]
      have hlb2 : ∀ v : Int, 0 ≤ v ∧ v ≤ 1000 → ∀ a ∈ left.set (n - (k' + 1)) v, 0 ≤ a ∧ a ≤ 1000 := fun v hv a ha => by
        rcases List.mem_or_eq_of_mem_set ha with h | h
        · exact hlb a h
        · rw [h]; exact hv
      have hbk := set_back (l := left) (left.getD (n - (k' + 1)) 0 - 1) hj
      have hgs : (left.set (n - (k' + 1)) (left.getD (n - (k' + 1)) 0 - 1)).getD (n - (k' + 1)) 0 = left.getD (n - (k' + 1)) 0 - 1 := by
        simp only [List.getD_eq_getElem?_getD]; rw [List.getElem?_set_self hj]; rfl
      generalize left.getD (n - (k' + 1)) 0 = a at hgl hlv hb hbk hgs hlb2 ⊢
      by_cases ha0 : a = 0
      · rw [if_pos (.inr ha0)] at hb ⊢
        simp (disch := omega) only [f0, f1, f2, f3, f4, f5, f6, f7, ha0, ↓SXd, SXu, slBounds, ↓sop, ↓aop, ↓reduceIte, LV.cells, AOp.dst, LV.I, LV.B, LV.U, LV.S, LV.nil, Nat.reduceEqDiff, Nat.reduceAdd, Nat.reduceMul, Nat.reduceSub, Nat.reduceLeDiff, Nat.reduceBEq, Nat.reduceDiv, Nat.reduceMod, Int.reduceToNat, Int.reduceLT, Int.reduceLE, Int.reduceAdd, Int.reduceSub, Int.reduceMul, Int.reduceEq, Int.reduceNeg, reduceCtorEq, resV, resAll, ARes.ev, LV.flat, ite_true, ite_false, exists_eq_left', exists_eq_left, keyOf, implies_true, fillC, capOf]
        refine ⟨?_, hfr1, hw1, ?_⟩
        · rw [List.append_nil]
          have : (A.map (0 :: ·)).isEmpty = A.isEmpty := by cases A <;> rfl
          rw [this, hval]
        · rw [show selP once ([] : List (List Int)) = [] by cases once <;> rfl, List.append_nil]
          exact hI1
      · have hno : ¬ (s' = 0 ∨ a = 0) := fun h => h.elim hs0 ha0
        rw [if_neg hno] at hb
        have hno2 : ∀ {h : Decidable (s' = 0 ∨ a = 0)} {l l' : List (List Int)}, @ite _ (s' = 0 ∨ a = 0) h l l' = l' := fun {h l l'} => by rw [@if_neg _ h hno]
        simp (disch := omega) only [f0, f1, f2, f3, f4, f5, f6, f7, ha0, hno2, bL1.cell, bN1.cell, tmodNN, hne, ne_eq, not_false_eq_true, hmod', hjn, hjn', hgl, ↓SXd, SXu, slBounds, ↓sop, ↓aop, ↓reduceIte, LV.cells, AOp.dst, LV.I, LV.B, LV.U, LV.S, LV.nil, Nat.reduceEqDiff, Nat.reduceAdd, Nat.reduceMul, Nat.reduceSub, Nat.reduceLeDiff, Nat.reduceBEq, Nat.reduceDiv, Nat.reduceMod, Int.reduceToNat, Int.reduceLT, Int.reduceLE, Int.reduceAdd, Int.reduceSub, Int.reduceMul, Int.reduceEq, Int.reduceNeg, reduceCtorEq, resV, resAll, ARes.ev, LV.flat, ite_true, ite_false, exists_eq_left', exists_eq_left, keyOf, implies_true, fillC, capOf]
        refine memK_int hw1 (by omega) fun N2 k1 k2 k3 => ?_
        have hfr2 : FrmL (w :: cc) N N2 := ⟨by omega, fun q h1 h2 => k3 q (fun e => h2 (by simp [e])) h1⟩
        have hE2 := hE1.frm hD hfr2
        obtain ⟨hB2, bN2, bR2, bL2, bV2, bF2⟩ := id hE2
        have hI2 := hInv hI1 (by omega) fun q h1 h2 => k3 q h2 h1
        have hT1 : setT (T ++ [1]) = setT T ||| 1#64 <<< T.length := by rw [setT_snoc, if_pos rfl]
        have hL1 : (T ++ [(1 : Int)]).length = T.length + 1 := by simp
        rw [List.length_append, List.length_map, List.length_map] at hb
        have hih2 := ih (f - 1) (by omega) (rs := rs') (k := k') (s := s' - 1) (left := left.set (n - (k' + 1)) (a - 1)) (T := T ++ [1]) (P0 := P0 ++ selP once ((A.map (0 :: ·)).map (T ++ ·))) (M := N2) (by omega) hrl' hk' hdr' (by omega) (by rw [List.length_set]; exact hln) (hlb2 _ (by omega)) (by omega) hE2 k2 hI2 (fun e => by rw [hz e, hz1 e]; cases once <;> rfl) (by
          have := selP_len (once := once) (P := (A.map (0 :: ·)).map (T ++ ·))
          rw [List.length_map, List.length_map] at this
          rw [List.length_append]; omega)
        rw [hT1, hL1] at hih2
        simp (disch := omega) only [f0, f1, f2, f3, f4, f5, f6, f7, bF2.cell, ↓SXd, SXu, slBounds, ↓sop, ↓aop, ↓reduceIte, LV.cells, AOp.dst, LV.I, LV.B, LV.U, LV.S, LV.nil, Nat.reduceEqDiff, Nat.reduceAdd, Nat.reduceMul, Nat.reduceSub, Nat.reduceLeDiff, Nat.reduceBEq, Nat.reduceDiv, Nat.reduceMod, Int.reduceToNat, Int.reduceLT, Int.reduceLE, Int.reduceAdd, Int.reduceSub, Int.reduceMul, Int.reduceEq, Int.reduceNeg, reduceCtorEq, resV, resAll, ARes.ev, LV.flat, ite_true, ite_false, exists_eq_left', exists_eq_left, keyOf, implies_true, fillC, capOf]
        refine callR_of hih2 ?_
        rintro _ N3 ⟨rfl, hfr3, hw3, hI3⟩
        have hE3 := hE2.frm hD hfr3
        obtain ⟨hB3, bN3, bR3, bL3, bV3, bF3⟩ := id hE3
        have hgl3 := Ints.get hw3.has (k := n - (k' + 1)) (by rw [List.length_set]; exact hj)
        rw [Nat.zero_add, hgs] at hgl3
        simp (disch := omega) only [f0, f1, f2, f3, f4, f5, f6, f7, bL3.cell, bN3.cell, tmodNN, hne, ne_eq, not_false_eq_true, hmod', hjn, hjn', hgl3, Int.sub_add_cancel, ↓SXd, SXu, slBounds, ↓sop, ↓aop, ↓reduceIte, LV.cells, AOp.dst, LV.I, LV.B, LV.U, LV.S, LV.nil, Nat.reduceEqDiff, Nat.reduceAdd, Nat.reduceMul, Nat.reduceSub, Nat.reduceLeDiff, Nat.reduceBEq, Nat.reduceDiv, Nat.reduceMod, Int.reduceToNat, Int.reduceLT, Int.reduceLE, Int.reduceAdd, Int.reduceSub, Int.reduceMul, Int.reduceEq, Int.reduceNeg, reduceCtorEq, resV, resAll, ARes.ev, LV.flat, ite_true, ite_false, exists_eq_left', exists_eq_left, keyOf, implies_true, fillC, capOf]
        refine memK_int hw3 (by rw [List.length_set]; omega) fun N4 l1 l2 l3 => ?_
        rw [hbk] at l2
        have hfr4 : FrmL (w :: cc) N3 N4 := ⟨by omega, fun q h1 h2 => l3 q (fun e => h2 (by simp [e])) h1⟩
        have hI4 := hInv hI3 (by omega) fun q h1 h2 => l3 q h2 h1
        generalize fillK n rs' k' (s' - 1) (left.set (n - (k' + 1)) (a - 1)) = A2 at *
        simp (disch := omega) only [f0, f1, f2, f3, f4, f5, f6, f7, ↓SXd, SXu, slBounds, ↓sop, ↓aop, ↓reduceIte, LV.cells, AOp.dst, LV.I, LV.B, LV.U, LV.S, LV.nil, Nat.reduceEqDiff, Nat.reduceAdd, Nat.reduceMul, Nat.reduceSub, Nat.reduceLeDiff, Nat.reduceBEq, Nat.reduceDiv, Nat.reduceMod, Int.reduceToNat, Int.reduceLT, Int.reduceLE, Int.reduceAdd, Int.reduceSub, Int.reduceMul, Int.reduceEq, Int.reduceNeg, reduceCtorEq, resV, resAll, ARes.ev, LV.flat, ite_true, ite_false, exists_eq_left', exists_eq_left, keyOf, implies_true, fillC, capOf]
        refine ⟨?_, ((hfr1.trans hfr2).trans hfr3).trans hfr4, l2, ?_⟩
        · cases once with
          | false => rfl
          | true =>
            rw [hz1 rfl]
            cases A2 <;> rfl
        · have hmp2 : A2.map ((T ++ [1]) ++ ·) = (A2.map (1 :: ·)).map (T ++ ·) := by
            rw [List.map_map]; congr 1; funext q; simp
          rw [hmp2, List.append_assoc] at hI4
          exact hI4
end
end Go.Ab

/- The abstract code of some functions (written by a program of mine from the translation, by way of prepF). -/
namespace Go.Ab.C
open Go.Ab
def slices_Clone_Sint_int : AFn :=
 ⟨1, 8, [.tmp 2],
 .seq (.ops [(none, .mv 2 (.c .nil))])
 (.seq (.seq (.ops [(none, .mv 3 (.t 0)),
 (none, .eqb 4 false (.t 3) (.c .nil))])
 (.cond (.t 4) (.seq (.ops [(none, .mv 2 (.c .nil))])
 (.ret))
 (.skip)))
 (.seq (.ops [(none, .buildSl 5 0 1 [] []),
 (none, .mv 6 (.t 0)),
 (none, .append 7 1 8 (.t 5) (.t 6)),
 (none, .mv 2 (.t 7))])
 (.ret)))⟩
end Go.Ab.C

/- That the program has this code. -/
namespace Go.Ab.K
open Go Go.Ab
theorem slices_Clone_Sint_int : prepF Go.Proofs.Try.prog F.slices_Clone_Sint_int = some C.slices_Clone_Sint_int := by kernel_rfl
end Go.Ab.K

/- The abstract code of some functions (written by a program of mine from the translation, by way of prepF). -/
namespace Go.Ab.C
open Go.Ab
end Go.Ab.C

/- That the program has this code. -/
namespace Go.Ab.K
open Go Go.Ab
end Go.Ab.K

/- Contracts: all staircases of a box, the reference's side. -/
namespace Go.Ab
open Go
set_option linter.unusedSimpArgs false
set_option linter.unusedVariables false
set_option maxRecDepth 20000

/-- A table none of whose blocks is among av. -/
def TabR (N : Mem) (t : Nat) (L : List (List Int)) (av : List Nat) : Prop := ∃ refs : List LV, Live N t (.row refs true 1) ∧ refs.length = L.length ∧ t ∉ av ∧ ∀ i, i < L.length → ∃ u, u ≠ t ∧ u ∉ av ∧ refs[i]? = some (.ref u 0 (L.getD i []).length) ∧ Ints N u 0 (L.getD i [])
theorem TabR.pre {N N' : Mem} {t : Nat} {L : List (List Int)} {av : List Nat} (h : TabR N t L av) (hp : Pre N N') : TabR N' t L av := by
  obtain ⟨refs, h1, h2, h3, h4⟩ := h
  exact ⟨refs, h1.pre hp, h2, h3, fun i hi => by obtain ⟨u, q1, q2, q3, q4⟩ := h4 i hi; exact ⟨u, q1, q2, q3, q4.pre hp⟩⟩
theorem TabR.at {N : Mem} {t : Nat} {L : List (List Int)} {av : List Nat} (h : TabR N t L av) {i : Nat} (hi : i < L.length) : ∃ u : Nat, getCell N t i = some (.ref u 0 (L.getD i []).length) ∧ Ints N u 0 (L.getD i []) := by
  obtain ⟨refs, h1, h2, h3, h4⟩ := h
  obtain ⟨u, q1, q2, q3, q4⟩ := h4 i hi
  exact ⟨u, by rw [← q3]; exact h1.cell, q4⟩
/-- What is among av may turn. -/
theorem TabR.keep {N N' : Mem} {t : Nat} {L : List (List Int)} {av av' : List Nat} (h : TabR N t L av) (hk : ∀ q, q ∉ av → q < N.length → N'[q]? = N[q]?) (ha : ∀ q, q ∈ av' → q ∈ av ∨ N.length ≤ q) : TabR N' t L av' := by
  obtain ⟨refs, h1, h2, h3, h4⟩ := h
  have hno : ∀ q, q ∉ av → q < N.length → q ∉ av' := fun q h1 h2 h3 => (ha q h3).elim h1 (by omega)
  refine ⟨refs, Live.at h1 (hk _ h3 h1.lt), h2, hno _ h3 h1.lt, fun i hi => ?_⟩
  obtain ⟨u, q1, q2, q3, q4⟩ := h4 i hi
  exact ⟨u, q1, hno _ q2 q4.lt, q3, Has.at' q4 (hk _ q2 q4.lt)⟩
theorem TabR.nil {N : Mem} {t : Nat} {av : List Nat} (h : Live N t (.row [] true 1)) (ha : t ∉ av) : TabR N t [] av := ⟨[], h, rfl, ha, fun i hi => by simp at hi⟩
theorem TabR.v {N : Mem} {t : Nat} {L : List (List Int)} {av : List Nat} (h : TabR N t L av) : ∃ refs : List LV, Live N t (.row refs true 1) ∧ refs.length = L.length ∧ ∀ i, i < L.length → ∃ u : Nat, refs[i]? = some (.ref u 0 (L.getD i []).length) ∧ Ints N u 0 (L.getD i []) := by
  obtain ⟨refs, h1, h2, h3, h4⟩ := h
  exact ⟨refs, h1, h2, fun i hi => by obtain ⟨u, q1, q2, q3, q4⟩ := h4 i hi; exact ⟨u, q3, q4⟩⟩
theorem TabR.lt {N : Mem} {t : Nat} {L : List (List Int)} {av : List Nat} (h : TabR N t L av) : t < N.length := by
  obtain ⟨refs, h1, _⟩ := h
  exact h1.lt
theorem live_row {N : Mem} {t : Nat} {r r' : List LV} {w w' : Bool} {e e' : Nat} (h : Live N t (.row r w e)) (h' : Live N t (.row r' w' e')) : r = r' := by
  unfold Live at h h'
  rw [h] at h'
  injection h' with h'
  injection h' with h'
  injection h'
/-- Rows go behind a table. -/
theorem appendK_tabs {N : Mem} {t t2 : Nat} {L L2 : List (List Int)} {A : LV → Mem → Prop} (h : TabR N t L []) (h2 : TabR N t2 L2 [t]) (hl : L.length + L2.length ≤ 1000000000000)
    (hA : ∀ u M', N.length ≤ M'.length → (∀ av : List Nat, TabR N t L av → TabR N t2 L2 (t :: av) → (∀ a ∈ av, a < N.length) → TabR M' u (L ++ L2) av) → (u = t ∨ N.length ≤ u) → (∀ w, w ≠ t → w < N.length → M'[w]? = N[w]?) → A (.ref u 0 (L.length + L2.length)) M') : appendK 1 24 (.ref t 0 L.length) (.ref t2 0 L2.length) N A := by
  obtain ⟨refs, h1, hr, _⟩ := h
  obtain ⟨refs2, g1, gr, _⟩ := h2
  have g1' : Has N t2 0 refs2 := g1.has
  refine appendK_list (acc := refs) (new := refs2) h1 (by omega) g1' (by omega) (by omega) (by omega) fun u M' k1 k2 k3 k4 => hA u M' k1 (fun av h h2 hav => ?_) k3 k4
  obtain ⟨refs', h1', hr', h3, h4⟩ := h
  obtain ⟨refs2', g1'', gr', g3, g4⟩ := h2
  cases live_row h1 h1'
  cases live_row g1 g1''
  refine ⟨refs ++ refs2, k2, by simp [hr, gr], ?_, fun i hi => ?_⟩
  · rcases k3 with rfl | k3
    · exact h3
    · exact fun hm => by have := hav u hm; omega
  · have fin : ∀ v, v ≠ t → v < N.length → v ≠ u := fun v hv hlt e => by
      subst e
      rcases k3 with rfl | k3
      · exact hv rfl
      · omega
    rw [List.length_append] at hi
    by_cases hi2 : i < L.length
    · obtain ⟨v, q1, q2, q3, q4⟩ := h4 i hi2
      have hg : (L ++ L2).getD i [] = L.getD i [] := by simp only [List.getD_eq_getElem?_getD]; rw [List.getElem?_append_left hi2]
      rw [hg]
      exact ⟨v, fin v q1 q4.lt, q2, by rw [List.getElem?_append_left (by omega)]; exact q3, Has.at' q4 (k4 v q1 q4.lt)⟩
    · obtain ⟨v, q1, q2, q3, q4⟩ := g4 (i - L.length) (by omega)
      have hg : (L ++ L2).getD i [] = L2.getD (i - L.length) [] := by simp only [List.getD_eq_getElem?_getD]; rw [List.getElem?_append_right (by omega)]
      rw [hg]
      have hvt : v ≠ t := fun e => q2 (by simp [e])
      exact ⟨v, fin v hvt q4.lt, fun hm => q2 (by simp [hm]), by rw [List.getElem?_append_right (by omega), hr]; exact q3, Has.at' q4 (k4 v hvt q4.lt)⟩
theorem tabR_one {N : Mem} {l : List Int} {u : Nat} {av : List Nat} (h : Ints N u 0 l) (hu : u ∉ av) (ha : ∀ a ∈ av, a < N.length) : TabR (N ++ [some (.row [.ref u 0 l.length] true 1)]) N.length [l] av := by
  refine ⟨[.ref u 0 l.length], Live.new, rfl, fun hm => by have := ha _ hm; omega, fun i hi => ?_⟩
  simp at hi
  subst hi
  exact ⟨u, by have := h.lt; omega, hu, rfl, h.app⟩

end Go.Ab

/- Contracts: all staircases of a box, the program's side (lists that share their backing array). -/
namespace Go.Ab
open Go
set_option linter.unusedSimpArgs false
set_option linter.unusedVariables false
set_option maxRecDepth 20000

theorem g_cloneI {ys : List Int} {w : Nat} {N : Mem} (hw : Ints N w 0 ys) (h0 : 0 < ys.length) (hl : ys.length ≤ 1000000) :
    CallsR PG F.slices_Clone_Sint_int [.ref w 0 ys.length] N fun r N' => ∃ t', r = .ref t' 0 ys.length ∧ Live N' t' (.row (intL ys) true 1) ∧ N.length ≤ t' ∧ Pre N N' := by
  obtain ⟨m, hm⟩ : ∃ m, ys.length = m + 1 := ⟨ys.length - 1, by omega⟩
  rw [hm]
  refine callsR_run K.slices_Clone_Sint_int rfl ?_
  simp (disch := omega) only [C.slices_Clone_Sint_int, Bool.false_eq_true, ↓SXd, SXu, slBounds, ↓sop, ↓aop, ↓reduceIte, LV.cells, AOp.dst, LV.I, LV.B, LV.U, LV.S, LV.nil, Nat.reduceEqDiff, Nat.reduceAdd, Nat.reduceMul, Nat.reduceSub, Nat.reduceLeDiff, Nat.reduceBEq, Nat.reduceDiv, Nat.reduceMod, Int.reduceToNat, Int.reduceLT, Int.reduceLE, Int.reduceAdd, Int.reduceSub, Int.reduceMul, Int.reduceEq, Int.reduceNeg, reduceCtorEq, resV, resAll, ARes.ev, LV.flat, ite_true, ite_false, exists_eq_left', exists_eq_left, keyOf, implies_true, fillC, capOf]
  refine appendK_list (acc := []) (n := 0) Live.new rfl hw.app (by rw [intL_len, Nat.mul_one, hm]) (by omega) (by omega) fun u N2 k1 k2 k3 k4 => ?_
  simp (disch := omega) only [↓SXd, SXu, slBounds, ↓sop, ↓aop, ↓reduceIte, LV.cells, AOp.dst, LV.I, LV.B, LV.U, LV.S, LV.nil, Nat.reduceEqDiff, Nat.reduceAdd, Nat.reduceMul, Nat.reduceSub, Nat.reduceLeDiff, Nat.reduceBEq, Nat.reduceDiv, Nat.reduceMod, Int.reduceToNat, Int.reduceLT, Int.reduceLE, Int.reduceAdd, Int.reduceSub, Int.reduceMul, Int.reduceEq, Int.reduceNeg, reduceCtorEq, resV, resAll, ARes.ev, LV.flat, ite_true, ite_false, exists_eq_left', exists_eq_left, keyOf, implies_true, fillC, capOf]
  exact ⟨u, rfl, by rw [List.nil_append] at k2; exact k2, by simp at k3; omega, pre_stepL (Pre.app _ _) (t := N.length) (Nat.le_refl _) k1 k4⟩
/-- A list that may share its block with longer ones. -/
def LstAt (M : Mem) (v : LV) (l : List Int) (av : List Nat) : Prop := (v = .nil ∧ l = [] ∧ av = []) ∨ ∃ (t : Nat) (cs : List LV), v = .ref t 0 l.length ∧ av = [t] ∧ Live M t (.row cs true 1) ∧ l.length ≤ cs.length ∧ cs.take l.length = intL l
theorem LstAt.keep {M N : Mem} {v : LV} {l : List Int} {av : List Nat} (h : LstAt M v l av) (hk : ∀ q, q ∈ av → q < M.length → N[q]? = M[q]?) : LstAt N v l av := by
  rcases h with h | ⟨t, cs, h1, rfl, h3, h4, h5⟩
  · exact .inl h
  · exact .inr ⟨t, cs, h1, rfl, Live.at h3 (hk t (by simp) h3.lt), h4, h5⟩
theorem LstAt.lt {M : Mem} {v : LV} {l : List Int} {av : List Nat} (h : LstAt M v l av) : ∀ a ∈ av, a < M.length := by
  rcases h with ⟨_, _, rfl⟩ | ⟨t, cs, h1, rfl, h3, h4, h5⟩
  · simp
  · intro a ha; rw [List.mem_singleton.1 ha]; exact h3.lt
theorem LstAt.at {M : Mem} {v : LV} {l : List Int} {av : List Nat} (h : LstAt M v l av) (h0 : 0 < l.length) : ∃ t, v = .ref t 0 l.length ∧ Ints M t 0 l := by
  rcases h with ⟨_, rfl, _⟩ | ⟨t, cs, h1, _, h3, h4, h5⟩
  · simp at h0
  · refine ⟨t, h1, cs, h3.row, ?_, ?_⟩
    · rw [intL_len]; omega
    · rw [intL_len, List.drop_zero]; exact h5
theorem LstAt.len {M : Mem} {v : LV} {l : List Int} {av : List Nat} (h : LstAt M v l av) : lenV v = some (l.length : Int) := by
  rcases h with ⟨rfl, rfl, _⟩ | ⟨t, cs, rfl, _⟩ <;> rfl
theorem TabR.both {N : Mem} {t : Nat} {L : List (List Int)} {av av' : List Nat} (h : TabR N t L av) (h' : TabR N t L av') : TabR N t L (av ++ av') := by
  obtain ⟨refs, h1, h2, h3, h4⟩ := h
  obtain ⟨refs', g1, g2, g3, g4⟩ := h'
  cases live_row h1 g1
  refine ⟨refs, h1, h2, by simp [h3, g3], fun i hi => ?_⟩
  obtain ⟨u, q1, q2, q3, q4⟩ := h4 i hi
  obtain ⟨u', p1, p2, p3, p4⟩ := g4 i hi
  rw [q3] at p3
  injection p3 with p3
  injection p3 with p3
  subst p3
  exact ⟨u, q1, by simp [q2, p2], q3, q4⟩
/-- All staircases of a box. -/
noncomputable def stairsOf (x y z : Int) : List (List Int) := allS y.toNat z (x.toNat * y.toNat) []
end Go.Ab

/- Contracts: all tables and the first one, the program's side. -/
namespace Go.Ab
open Go
set_option linter.unusedSimpArgs false
set_option linter.unusedVariables false
set_option maxRecDepth 20000

section
variable {n : Nat} {R cols : List Int} {once : Bool} {B M : Mem} {tr tc : Nat} {cc : List Nat} {fv : FuncId} {cps : List (Nat × Nat)} {Inv : Nat → List (List Int) → Mem → Prop}
  (hn : 1 ≤ n ∧ n ≤ 4) (hR4 : R.length ≤ 4) (hRb : ∀ r ∈ R, 0 ≤ r ∧ r ≤ 1000) (hRI : Ints B tr 0 R) (hCI : Ints B tc 0 cols) (hcn : cols.length = n) (hcb : ∀ a ∈ cols, 0 ≤ a ∧ a ≤ 1000)
  (hBM : Pre B M) (hcc : ∀ c ∈ cc, B.length ≤ c ∧ c < M.length) (hfb : (fillK n R 0 0 cols).length ≤ 1000000000)
  (hI : ∀ w, M.length ≤ w → ∀ N, Pre M N → Inv w [] N)
  (hInv : ∀ {w : Nat} {P : List (List Int)} {N N' : Mem}, Inv w P N → N.length ≤ N'.length → (∀ q, q < N.length → q ≠ w → N'[q]? = N[q]?) → Inv w P N')
  (hVis : ∀ {w : Nat} {P : List (List Int)} {T : List Int} {N : Mem}, (once = true → P = []) → Inv w P N → T.length = R.length * n → P.length + 1 ≤ 1000000000 →
    CallsR PG fv (.W (setT T) :: cps.map fun p => .ptr p.1 p.2) N fun r N' => r = .B (!once) ∧ N.length ≤ N'.length ∧ (∀ q, q < N.length → q ∉ cc → N'[q]? = N[q]?) ∧ Inv w (P ++ [T]) N')
include hn hR4 hRb hRI hCI hcn hcb hBM hcc hI hInv hVis hfb
theorem g_tables : CallsR PG F.impl_tables [.ref tr 0 R.length, .ref tc 0 n, .clo fv cps] M fun r N => M.length ≤ N.length ∧ (∀ q, q < M.length → q ∉ cc → N[q]? = M[q]?) ∧ ∃ w, Inv w (selP once (fillK n R 0 0 cols)) N := by
  have hcI := hCI.pre hBM
  have hBl := hBM.1
  have htr := hRI.lt
  refine callsR_run K.impl_tables rfl ?_
  simp (disch := omega) only [C.impl_tables, ↓SXd, SXu, slBounds, ↓sop, ↓aop, ↓reduceIte, LV.cells, AOp.dst, LV.I, LV.B, LV.U, LV.S, LV.nil, Nat.reduceEqDiff, Nat.reduceAdd, Nat.reduceMul, Nat.reduceSub, Nat.reduceLeDiff, Nat.reduceBEq, Nat.reduceDiv, Nat.reduceMod, Int.reduceToNat, Int.reduceLT, Int.reduceLE, Int.reduceAdd, Int.reduceSub, Int.reduceMul, Int.reduceEq, Int.reduceNeg, reduceCtorEq, resV, resAll, ARes.ev, LV.flat, ite_true, ite_false, exists_eq_left', exists_eq_left, keyOf, implies_true, fillC, capOf]
  have hcl := g_cloneI (ys := cols) (w := tc) (N := M ++ [some (.row [.ref tr 0 R.length] true 0), some (.row [.clo fv cps] true 0)]) hcI.app (by omega) (by omega)
  rw [hcn] at hcl
  refine callR_of hcl ?_
  rintro _ N ⟨w, rfl, hw, hwl, hp⟩
  have hpl := hp.1
  simp only [List.length_append, List.length_cons, List.length_nil] at hwl hpl
  have hwlt := hw.lt
  have b3 : Live N M.length (.row [.ref tr 0 R.length] true 0) := Live.new.pre hp
  have b5 : Live N (M.length + 1) (.row [.clo fv cps] true 0) := (Live.newj (j := 1) rfl).pre hp
  have hpMN : Pre M N := (Pre.app _ _).trans hp
  simp (disch := omega) only [↓SXd, SXu, slBounds, ↓sop, ↓aop, ↓reduceIte, LV.cells, AOp.dst, LV.I, LV.B, LV.U, LV.S, LV.nil, Nat.reduceEqDiff, Nat.reduceAdd, Nat.reduceMul, Nat.reduceSub, Nat.reduceLeDiff, Nat.reduceBEq, Nat.reduceDiv, Nat.reduceMod, Int.reduceToNat, Int.reduceLT, Int.reduceLE, Int.reduceAdd, Int.reduceSub, Int.reduceMul, Int.reduceEq, Int.reduceNeg, reduceCtorEq, resV, resAll, ARes.ev, LV.flat, ite_true, ite_false, exists_eq_left', exists_eq_left, keyOf, implies_true, fillC, capOf]
  have hfill := g_fillT (n := n) (R := R) (once := once) (B := B) (tr := tr) (pn := N.length) (pr := M.length) (pl := N.length + 1) (pv := M.length + 1) (pf := N.length + 2) (w := w) (cc := cc) (fv := fv) (cps := cps) (Inv := Inv w) hn hR4 hRb hRI (fun c hc => by
      rcases List.mem_cons.1 hc with rfl | hc
      · omega
      · have := hcc c hc; omega) (fun hm => by have := hcc w hm; omega) (fun {P N N'} => hInv) (fun {P T N} => hVis) (R.length * n + 0) (rs := R) (k := 0) (s := 0) (left := cols) (T := []) (P0 := [])
    (M := N ++ [some (.row [.I n] true 0), some (.row [.ref w 0 n] true 0), some (.row [.clo F.impl_tables_1 [(N.length, 0), (M.length, 0), (N.length + 1, 0), (M.length + 1, 0), (N.length + 2, 0)]] true 0)])
    rfl (Nat.le_refl _) (by omega) (by rw [Nat.sub_self, List.drop_zero]) (by omega) hcn hcb (by simp)
    ⟨(hBM.trans hpMN).app', Live.new, b3.app, Live.newj (j := 1) rfl, b5.app, Live.newj (j := 2) rfl⟩ hw.app (hI w (by omega) _ hpMN.app') (fun _ => rfl) (by simpa using hfb)
  refine callR_of hfill ?_
  rintro _ N2 ⟨rfl, hfr, hw2, hI2⟩
  have hf1 := hfr.1
  simp only [List.length_append, List.length_cons, List.length_nil] at hf1
  simp (disch := omega) only [↓SXd, SXu, slBounds, ↓sop, ↓aop, ↓reduceIte, LV.cells, AOp.dst, LV.I, LV.B, LV.U, LV.S, LV.nil, Nat.reduceEqDiff, Nat.reduceAdd, Nat.reduceMul, Nat.reduceSub, Nat.reduceLeDiff, Nat.reduceBEq, Nat.reduceDiv, Nat.reduceMod, Int.reduceToNat, Int.reduceLT, Int.reduceLE, Int.reduceAdd, Int.reduceSub, Int.reduceMul, Int.reduceEq, Int.reduceNeg, reduceCtorEq, resV, resAll, ARes.ev, LV.flat, ite_true, ite_false, exists_eq_left', exists_eq_left, keyOf, implies_true, fillC, capOf]
  refine ⟨by omega, fun q h1 h2 => ?_, w, ?_⟩
  · rw [hfr.2 q (by simp; omega) (fun hm => by
      rcases List.mem_cons.1 hm with rfl | hm
      · omega
      · exact h2 hm), List.getElem?_append_left (by omega)]
    exact hpMN.2 q h1
  · have e : (fillK n R 0 0 cols).map ([] ++ ·) = fillK n R 0 0 cols := by
      rw [show (([] : List Int) ++ · : List Int → List Int) = id from rfl, List.map_id]
    rw [e] at hI2
    exact hI2
end
/-- The first of the tables, as a set. -/
def firstW (L : List (List Int)) : BitVec 64 := match L with
  | [] => 0#64
  | T :: _ => setT T
theorem g_visitF {T : List Int} {c k : Nat} {a b : LV} {N : Mem} (h1 : Live N c (.row [a] true 0)) (h2 : Live N (c + 1) (.row [b] true 0)) :
    CallsR PG F.impl_firstTable_1 [.W (setT T), .ptr c 0, .ptr (c + 1) 0] N fun r N' => r = .B false ∧ N.length ≤ N'.length ∧ (∀ q, q < N.length → q ∉ [c, c + 1] → N'[q]? = N[q]?) ∧ Live N' c (.row [.W (setT T)] true 0) ∧ Live N' (c + 1) (.row [.B true] true 0) := by
  refine callsR_run K.impl_firstTable_1 rfl ?_
  simp (disch := omega) only [C.impl_firstTable_1, ↓SXd, SXu, slBounds, ↓sop, ↓aop, ↓reduceIte, LV.cells, AOp.dst, LV.I, LV.B, LV.U, LV.S, LV.nil, Nat.reduceEqDiff, Nat.reduceAdd, Nat.reduceMul, Nat.reduceSub, Nat.reduceLeDiff, Nat.reduceBEq, Nat.reduceDiv, Nat.reduceMod, Int.reduceToNat, Int.reduceLT, Int.reduceLE, Int.reduceAdd, Int.reduceSub, Int.reduceMul, Int.reduceEq, Int.reduceNeg, reduceCtorEq, resV, resAll, ARes.ev, LV.flat, ite_true, ite_false, exists_eq_left', exists_eq_left, keyOf, implies_true, fillC, capOf]
  refine memK_one h1 (by simp) fun N3 j1 j2 j3 => ?_
  have h3 := live_step h2 (by omega) j3
  simp (disch := omega) only [↓SXd, SXu, slBounds, ↓sop, ↓aop, ↓reduceIte, LV.cells, AOp.dst, LV.I, LV.B, LV.U, LV.S, LV.nil, Nat.reduceEqDiff, Nat.reduceAdd, Nat.reduceMul, Nat.reduceSub, Nat.reduceLeDiff, Nat.reduceBEq, Nat.reduceDiv, Nat.reduceMod, Int.reduceToNat, Int.reduceLT, Int.reduceLE, Int.reduceAdd, Int.reduceSub, Int.reduceMul, Int.reduceEq, Int.reduceNeg, reduceCtorEq, resV, resAll, ARes.ev, LV.flat, ite_true, ite_false, exists_eq_left', exists_eq_left, keyOf, implies_true, fillC, capOf]
  refine memK_one h3 (by simp) fun N4 l1 l2 l3 => ?_
  simp (disch := omega) only [↓SXd, SXu, slBounds, ↓sop, ↓aop, ↓reduceIte, LV.cells, AOp.dst, LV.I, LV.B, LV.U, LV.S, LV.nil, Nat.reduceEqDiff, Nat.reduceAdd, Nat.reduceMul, Nat.reduceSub, Nat.reduceLeDiff, Nat.reduceBEq, Nat.reduceDiv, Nat.reduceMod, Int.reduceToNat, Int.reduceLT, Int.reduceLE, Int.reduceAdd, Int.reduceSub, Int.reduceMul, Int.reduceEq, Int.reduceNeg, reduceCtorEq, resV, resAll, ARes.ev, LV.flat, ite_true, ite_false, exists_eq_left', exists_eq_left, keyOf, implies_true, fillC, capOf]
  refine ⟨rfl, by omega, fun q q1 q2 => ?_, live_step j2 (by omega) l3, l2⟩
  simp at q2
  rw [l3 q (by omega) (by omega), j3 q (by omega) (by omega)]
theorem g_firstTable {n : Nat} {R cols : List Int} {M : Mem} {tr tc : Nat} (hn : 1 ≤ n ∧ n ≤ 4) (hR4 : R.length ≤ 4) (hRb : ∀ r ∈ R, 0 ≤ r ∧ r ≤ 1000) (hRI : Ints M tr 0 R) (hCI : Ints M tc 0 cols) (hcn : cols.length = n) (hcb : ∀ a ∈ cols, 0 ≤ a ∧ a ≤ 1000) (hfb : (fillK n R 0 0 cols).length ≤ 1000000000) :
    CallsR PG F.impl_firstTable [.ref tr 0 R.length, .ref tc 0 n] M fun v N => v = .tup [.W (firstW (fillK n R 0 0 cols)), .B (!(fillK n R 0 0 cols).isEmpty)] ∧ Pre M N := by
  refine callsR_run K.impl_firstTable rfl ?_
  simp (disch := omega) only [C.impl_firstTable, ↓SXd, SXu, slBounds, ↓sop, ↓aop, ↓reduceIte, LV.cells, AOp.dst, LV.I, LV.B, LV.U, LV.S, LV.nil, Nat.reduceEqDiff, Nat.reduceAdd, Nat.reduceMul, Nat.reduceSub, Nat.reduceLeDiff, Nat.reduceBEq, Nat.reduceDiv, Nat.reduceMod, Int.reduceToNat, Int.reduceLT, Int.reduceLE, Int.reduceAdd, Int.reduceSub, Int.reduceMul, Int.reduceEq, Int.reduceNeg, reduceCtorEq, resV, resAll, ARes.ev, LV.flat, ite_true, ite_false, exists_eq_left', exists_eq_left, keyOf, implies_true, fillC, capOf]
  have htb := g_tables (n := n) (R := R) (cols := cols) (once := true) (B := M) (M := M ++ [some (.row [.U 0] true 0), some (.row [.B false] true 0)]) (tr := tr) (tc := tc) (cc := [M.length, M.length + 1]) (fv := F.impl_firstTable_1) (cps := [(M.length, 0), (M.length + 1, 0)])
    (Inv := fun w P N => Live N M.length (.row [.W (firstW P)] true 0) ∧ Live N (M.length + 1) (.row [.B (!P.isEmpty)] true 0) ∧ w ≠ M.length ∧ w ≠ M.length + 1)
    hn hR4 hRb hRI hCI hcn hcb (Pre.app _ _) (fun c hc => by
      simp at hc
      simp; omega) hfb
    (fun w hw N hp => ⟨Live.new.pre hp, (Live.newj (j := 1) rfl).pre hp, by simp at hw; omega, by simp at hw; omega⟩)
    (fun {w P N N'} h k1 k2 => ⟨Live.at h.1 (k2 _ h.1.lt (fun e => h.2.2.1 e.symm)), Live.at h.2.1 (k2 _ h.2.1.lt (fun e => h.2.2.2 e.symm)), h.2.2⟩)
    (fun {w P T N} hz h hT hb => (g_visitF (k := 0) h.1 h.2.1).mono fun r N' hr => ⟨hr.1, hr.2.1, hr.2.2.1, by rw [hz rfl]; exact hr.2.2.2.1, by rw [hz rfl]; exact hr.2.2.2.2, h.2.2⟩)
  refine callR_of htb ?_
  rintro _ N ⟨k1, k2, w, l1, l2, _⟩
  have e1 : firstW (selP true (fillK n R 0 0 cols)) = firstW (fillK n R 0 0 cols) := by
    cases fillK n R 0 0 cols <;> rfl
  have e2 : (selP true (fillK n R 0 0 cols)).isEmpty = (fillK n R 0 0 cols).isEmpty := by
    cases fillK n R 0 0 cols <;> rfl
  rw [e1] at l1
  rw [e2] at l2
  simp (disch := omega) only [l1.cell, l2.cell, ↓SXd, SXu, slBounds, ↓sop, ↓aop, ↓reduceIte, LV.cells, AOp.dst, LV.I, LV.B, LV.U, LV.S, LV.nil, Nat.reduceEqDiff, Nat.reduceAdd, Nat.reduceMul, Nat.reduceSub, Nat.reduceLeDiff, Nat.reduceBEq, Nat.reduceDiv, Nat.reduceMod, Int.reduceToNat, Int.reduceLT, Int.reduceLE, Int.reduceAdd, Int.reduceSub, Int.reduceMul, Int.reduceEq, Int.reduceNeg, reduceCtorEq, resV, resAll, ARes.ev, LV.flat, ite_true, ite_false, exists_eq_left', exists_eq_left, keyOf, implies_true, fillC, capOf]
  simp only [List.length_append, List.length_cons, List.length_nil] at k1 k2
  exact ⟨rfl, by omega, fun q hq => by rw [k2 q (by omega) (by simp; omega), List.getElem?_append_left hq]⟩
end Go.Ab

/- The abstract code of some functions (written by a program of mine from the translation, by way of prepF). -/
namespace Go.Ab.C
open Go.Ab
def spec_l4Sums : AFn :=
 ⟨1, 60, [.tmp 2, .tmp 3],
 .seq (.ops [(none, .mv 2 (.c .nil)),
 (none, .mv 3 (.c .nil))])
 (.seq (.draw [⟨(none, .mv 10 (.t 0)), [], []⟩,
 ⟨(none, .idxS 11 1 (.t 10) (.c (.I 0))), [], []⟩,
 ⟨(none, .load1 12 (.t 11)), [], []⟩,
 ⟨(none, .len 13 (.t 12)), [], []⟩,
 ⟨(none, .buildSl 9 0 1 [] []), [], []⟩,
 ⟨(none, .mv 4 (.t 9)), [], []⟩,
 ⟨(none, .mksl 14 1 8 [(.I 0)] (.t 13) (.t 13)), [], []⟩,
 ⟨(none, .mv 5 (.t 14)), [], []⟩])
 (.seq (.seq (.ops [(none, .mv 6 (.c (.I 0)))])
 (.block 0 (.loop (.seq (.seq (.ops [(none, .mv 15 (.t 6)),
 (none, .mv 16 (.t 0)),
 (none, .len 17 (.t 16)),
 (none, .bin 18 .lss (.t 15) (.t 17))])
 (.cond (.t 18) (.skip)
 (.exit 0)))
 (.seq (.block 1 (.seq (.ops [(none, .mv 7 (.c (.I 0)))])
 (.seq (.seq (.ops [(none, .mv 8 (.c (.I 0)))])
 (.block 2 (.loop (.seq (.seq (.ops [(none, .mv 21 (.t 8)),
 (none, .mv 22 (.t 0)),
 (none, .mv 23 (.t 6)),
 (none, .idxS 24 1 (.t 22) (.t 23)),
 (none, .load1 25 (.t 24)),
 (none, .len 26 (.t 25)),
 (none, .bin 27 .lss (.t 21) (.t 26))])
 (.cond (.t 27) (.skip)
 (.exit 2)))
 (.seq (.block 3 (.seq (.ops [(none, .mv 30 (.t 7)),
 (none, .mv 31 (.t 0)),
 (none, .mv 32 (.t 6)),
 (none, .idxS 33 1 (.t 31) (.t 32)),
 (none, .load1 34 (.t 33)),
 (none, .mv 35 (.t 8)),
 (none, .idxS 36 1 (.t 34) (.t 35)),
 (none, .load1 37 (.t 36)),
 (none, .bin 38 .add (.t 30) (.t 37)),
 (none, .mv 7 (.t 38))])
 (.draw [⟨(none, .mv 39 (.t 5)), [], []⟩,
 ⟨(none, .mv 40 (.t 8)), [], []⟩,
 ⟨(none, .mv 41 (.t 5)), [], []⟩,
 ⟨(none, .mv 42 (.t 8)), [], []⟩,
 ⟨(none, .idxS 43 1 (.t 41) (.t 42)), [], []⟩,
 ⟨(none, .load1 44 (.t 43)), [], []⟩,
 ⟨(none, .mv 45 (.t 0)), [], []⟩,
 ⟨(none, .mv 46 (.t 6)), [], []⟩,
 ⟨(none, .idxS 47 1 (.t 45) (.t 46)), [], []⟩,
 ⟨(none, .load1 48 (.t 47)), [], []⟩,
 ⟨(none, .mv 49 (.t 8)), [], []⟩,
 ⟨(none, .idxS 50 1 (.t 48) (.t 49)), [], []⟩,
 ⟨(none, .load1 51 (.t 50)), [], []⟩,
 ⟨(none, .bin 52 .add (.t 44) (.t 51)), [], []⟩,
 ⟨(none, .idxS 53 1 (.t 39) (.t 40)), [], []⟩,
 ⟨(none, .store 1 (.t 53) (.t 52)), [], []⟩])))
 (.ops [(none, .mv 28 (.t 8)),
 (none, .bin 29 .add (.t 28) (.c (.I 1))),
 (none, .mv 8 (.t 29))]))))))
 (.ops [(none, .mv 54 (.t 4)),
 (none, .mv 55 (.t 7)),
 (none, .buildSl 56 1 1 [(.I 0)] [(0, 1, (.t 55))]),
 (none, .append 57 1 8 (.t 54) (.t 56)),
 (none, .mv 4 (.t 57))]))))
 (.ops [(none, .mv 19 (.t 6)),
 (none, .bin 20 .add (.t 19) (.c (.I 1))),
 (none, .mv 6 (.t 20))]))))))
 (.seq (.ops [(none, .mv 58 (.t 4)),
 (none, .mv 59 (.t 5)),
 (none, .mv 2 (.t 58)),
 (none, .mv 3 (.t 59))])
 (.ret))))⟩
end Go.Ab.C

/- That the program has this code. -/
namespace Go.Ab.K
open Go Go.Ab
theorem spec_l4Sums : prepF Go.Proofs.Try.prog F.spec_l4Sums = some C.spec_l4Sums := by kernel_rfl
end Go.Ab.K

/- The abstract code of some functions (written by a program of mine from the translation, by way of prepF). -/
namespace Go.Ab.C
open Go.Ab
def spec_l4Tables : AFn :=
 ⟨2, 101, [.tmp 4],
 .seq (.ops [(none, .mv 4 (.c .nil))])
 (.seq (.seq (.ops [(none, .mv 14 (.t 0)),
 (none, .len 15 (.t 14)),
 (none, .bin 16 .eql (.t 15) (.c (.I 0)))])
 (.cond (.t 16) (.seq (.seq (.ops [(none, .mv 5 (.c (.I 0)))])
 (.block 0 (.loop (.seq (.seq (.ops [(none, .mv 17 (.t 5)),
 (none, .mv 18 (.t 1)),
 (none, .len 19 (.t 18)),
 (none, .bin 20 .lss (.t 17) (.t 19))])
 (.cond (.t 20) (.skip)
 (.exit 0)))
 (.seq (.block 1 (.seq (.ops [(none, .mv 23 (.t 1)),
 (none, .mv 24 (.t 5)),
 (none, .idxS 25 1 (.t 23) (.t 24)),
 (none, .load1 26 (.t 25)),
 (none, .bin 27 .neq (.t 26) (.c (.I 0)))])
 (.cond (.t 27) (.seq (.ops [(none, .buildSl 28 0 1 [] []),
 (none, .mv 4 (.t 28))])
 (.ret))
 (.skip))))
 (.ops [(none, .mv 21 (.t 5)),
 (none, .bin 22 .add (.t 21) (.c (.I 1))),
 (none, .mv 5 (.t 22))]))))))
 (.seq (.ops [(none, .buildSl 29 0 1 [] []),
 (none, .buildSl 30 1 1 [.nil] [(0, 1, (.t 29))]),
 (none, .mv 4 (.t 30))])
 (.ret)))
 (.skip)))
 (.seq (.ops [(none, .buildSl 31 0 1 [] []),
 (none, .mv 32 (.t 1)),
 (none, .len 33 (.t 32)),
 (none, .mv 34 (.t 0)),
 (none, .idxS 35 1 (.t 34) (.c (.I 0))),
 (none, .load1 36 (.t 35)),
 (none, .call (some 37) F.spec_l4Rows [(.t 33), (.t 36)]),
 (none, .mv 6 (.t 31)),
 (none, .mv 7 (.t 37))])
 (.seq (.seq (.ops [(none, .mv 8 (.c (.I 0)))])
 (.block 2 (.loop (.seq (.seq (.ops [(none, .mv 38 (.t 8)),
 (none, .mv 39 (.t 7)),
 (none, .len 40 (.t 39)),
 (none, .bin 41 .lss (.t 38) (.t 40))])
 (.cond (.t 41) (.skip)
 (.exit 2)))
 (.seq (.block 3 (.seq (.ops [(none, .mv 44 (.t 1)),
 (none, .call (some 45) F.spec_l1Own [(.t 44)]),
 (none, .mv 9 (.t 45)),
 (none, .mv 10 (.c (.B true)))])
 (.seq (.seq (.ops [(none, .mv 11 (.c (.I 0)))])
 (.block 4 (.loop (.seq (.seq (.ops [(none, .mv 46 (.t 11)),
 (none, .mv 47 (.t 9)),
 (none, .len 48 (.t 47)),
 (none, .bin 49 .lss (.t 46) (.t 48))])
 (.cond (.t 49) (.skip)
 (.exit 4)))
 (.seq (.block 5 (.seq (.draw [⟨(none, .mv 52 (.t 9)), [], []⟩,
 ⟨(none, .mv 53 (.t 11)), [], []⟩,
 ⟨(none, .mv 54 (.t 9)), [], []⟩,
 ⟨(none, .mv 55 (.t 11)), [], []⟩,
 ⟨(none, .idxS 56 1 (.t 54) (.t 55)), [], []⟩,
 ⟨(none, .load1 57 (.t 56)), [], []⟩,
 ⟨(none, .mv 58 (.t 7)), [], []⟩,
 ⟨(none, .mv 59 (.t 8)), [], []⟩,
 ⟨(none, .idxS 60 1 (.t 58) (.t 59)), [], []⟩,
 ⟨(none, .load1 61 (.t 60)), [], []⟩,
 ⟨(none, .mv 62 (.t 11)), [], []⟩,
 ⟨(none, .idxS 63 1 (.t 61) (.t 62)), [], []⟩,
 ⟨(none, .load1 64 (.t 63)), [], []⟩,
 ⟨(none, .bin 65 .sub (.t 57) (.t 64)), [], []⟩,
 ⟨(none, .idxS 66 1 (.t 52) (.t 53)), [], []⟩,
 ⟨(none, .store 1 (.t 66) (.t 65)), [], []⟩])
 (.ops [(none, .mv 67 (.t 10)),
 (none, .mv 68 (.t 67)),
 (some (68, true), .mv 69 (.t 9)),
 (some (68, true), .mv 70 (.t 11)),
 (some (68, true), .idxS 71 1 (.t 69) (.t 70)),
 (some (68, true), .load1 72 (.t 71)),
 (some (68, true), .bin 73 .geq (.t 72) (.c (.I 0))),
 (none, .pick 74 (.t 68) (.t 73) (.c (.B false))),
 (none, .mv 10 (.t 74))])))
 (.ops [(none, .mv 50 (.t 11)),
 (none, .bin 51 .add (.t 50) (.c (.I 1))),
 (none, .mv 11 (.t 51))]))))))
 (.seq (.seq (.ops [(none, .mv 75 (.t 10)),
 (none, .un 76 .not (.t 75))])
 (.cond (.t 76) (.exit 3)
 (.skip)))
 (.seq (.ops [(none, .mv 77 (.t 0)),
 (none, .slS 78 1 (.t 77) (some (.c (.I 1))) none),
 (none, .mv 79 (.t 9)),
 (none, .call (some 80) F.spec_l4Tables [(.t 78), (.t 79)]),
 (none, .mv 12 (.t 80))])
 (.seq (.ops [(none, .mv 13 (.c (.I 0)))])
 (.block 6 (.loop (.seq (.seq (.ops [(none, .mv 81 (.t 13)),
 (none, .mv 82 (.t 12)),
 (none, .len 83 (.t 82)),
 (none, .bin 84 .lss (.t 81) (.t 83))])
 (.cond (.t 84) (.skip)
 (.exit 6)))
 (.seq (.block 7 (.draw [⟨(none, .mv 87 (.t 6)), [], []⟩,
 ⟨(none, .mv 88 (.t 7)), [], []⟩,
 ⟨(none, .mv 89 (.t 8)), [], []⟩,
 ⟨(none, .idxS 90 1 (.t 88) (.t 89)), [], []⟩,
 ⟨(none, .load1 91 (.t 90)), [], []⟩,
 ⟨(none, .mv 93 (.t 12)), [], []⟩,
 ⟨(none, .mv 94 (.t 13)), [], []⟩,
 ⟨(none, .idxS 95 1 (.t 93) (.t 94)), [], []⟩,
 ⟨(none, .load1 96 (.t 95)), [], []⟩,
 ⟨(none, .buildSl 92 1 1 [.nil] [(0, 1, (.t 91))]), [], []⟩,
 ⟨(none, .append 97 1 24 (.t 92) (.t 96)), [], [0]⟩,
 ⟨(none, .buildSl 98 1 1 [.nil] [(0, 1, (.t 97))]), [], []⟩,
 ⟨(none, .append 99 1 24 (.t 87) (.t 98)), [], []⟩,
 ⟨(none, .mv 6 (.t 99)), [], []⟩]))
 (.ops [(none, .mv 85 (.t 13)),
 (none, .bin 86 .add (.t 85) (.c (.I 1))),
 (none, .mv 13 (.t 86))])))))))))))
 (.ops [(none, .mv 42 (.t 8)),
 (none, .bin 43 .add (.t 42) (.c (.I 1))),
 (none, .mv 8 (.t 43))]))))))
 (.seq (.ops [(none, .mv 100 (.t 6)),
 (none, .mv 4 (.t 100))])
 (.ret)))))⟩
end Go.Ab.C

/- That the program has this code. -/
namespace Go.Ab.K
open Go Go.Ab
theorem spec_l4Tables : prepF Go.Proofs.Try.prog F.spec_l4Tables = some C.spec_l4Tables := by kernel_rfl
end Go.Ab.K

/- The abstract code of some functions (written by a program of mine from the translation, by way of prepF). -/
namespace Go.Ab.C
open Go.Ab
def spec_l4Rows : AFn :=
 ⟨2, 49, [.tmp 4],
 .seq (.ops [(none, .mv 4 (.c .nil))])
 (.seq (.seq (.ops [(none, .mv 9 (.t 0)),
 (none, .bin 10 .eql (.t 9) (.c (.I 0)))])
 (.cond (.t 10) (.seq (.seq (.ops [(none, .mv 11 (.t 1)),
 (none, .bin 12 .eql (.t 11) (.c (.I 0)))])
 (.cond (.t 12) (.seq (.ops [(none, .buildSl 13 0 1 [] []),
 (none, .buildSl 14 1 1 [.nil] [(0, 1, (.t 13))]),
 (none, .mv 4 (.t 14))])
 (.ret))
 (.skip)))
 (.seq (.ops [(none, .buildSl 15 0 1 [] []),
 (none, .mv 4 (.t 15))])
 (.ret)))
 (.skip)))
 (.seq (.ops [(none, .buildSl 16 0 1 [] []),
 (none, .mv 5 (.t 16))])
 (.seq (.seq (.ops [(none, .mv 6 (.c (.I 0)))])
 (.block 0 (.loop (.seq (.seq (.ops [(none, .mv 17 (.t 6)),
 (none, .bin 18 .lss (.t 17) (.c (.I 2))),
 (none, .mv 19 (.t 18)),
 (some (19, true), .mv 20 (.t 6)),
 (some (19, true), .mv 21 (.t 1)),
 (some (19, true), .bin 22 .leq (.t 20) (.t 21)),
 (none, .pick 23 (.t 19) (.t 22) (.c (.B false)))])
 (.cond (.t 23) (.skip)
 (.exit 0)))
 (.seq (.block 1 (.seq (.ops [(none, .mv 26 (.t 0)),
 (none, .bin 27 .sub (.t 26) (.c (.I 1))),
 (none, .mv 28 (.t 1)),
 (none, .mv 29 (.t 6)),
 (none, .bin 30 .sub (.t 28) (.t 29)),
 (none, .call (some 31) F.spec_l4Rows [(.t 27), (.t 30)]),
 (none, .mv 7 (.t 31))])
 (.seq (.ops [(none, .mv 8 (.c (.I 0)))])
 (.block 2 (.loop (.seq (.seq (.ops [(none, .mv 32 (.t 8)),
 (none, .mv 33 (.t 7)),
 (none, .len 34 (.t 33)),
 (none, .bin 35 .lss (.t 32) (.t 34))])
 (.cond (.t 35) (.skip)
 (.exit 2)))
 (.seq (.block 3 (.ops [(none, .mv 38 (.t 5)),
 (none, .mv 39 (.t 6)),
 (none, .buildSl 40 1 1 [(.I 0)] [(0, 1, (.t 39))]),
 (none, .mv 41 (.t 7)),
 (none, .mv 42 (.t 8)),
 (none, .idxS 43 1 (.t 41) (.t 42)),
 (none, .load1 44 (.t 43)),
 (none, .append 45 1 8 (.t 40) (.t 44)),
 (none, .buildSl 46 1 1 [.nil] [(0, 1, (.t 45))]),
 (none, .append 47 1 24 (.t 38) (.t 46)),
 (none, .mv 5 (.t 47))]))
 (.ops [(none, .mv 36 (.t 8)),
 (none, .bin 37 .add (.t 36) (.c (.I 1))),
 (none, .mv 8 (.t 37))]))))))))
 (.ops [(none, .mv 24 (.t 6)),
 (none, .bin 25 .add (.t 24) (.c (.I 1))),
 (none, .mv 6 (.t 25))]))))))
 (.seq (.ops [(none, .mv 48 (.t 5)),
 (none, .mv 4 (.t 48))])
 (.ret)))))⟩
end Go.Ab.C

/- That the program has this code. -/
namespace Go.Ab.K
open Go Go.Ab
theorem spec_l4Rows : prepF Go.Proofs.Try.prog F.spec_l4Rows = some C.spec_l4Rows := by kernel_rfl
end Go.Ab.K

/- Contracts: all rows and all tables with given sums, the reference's side. -/
namespace Go.Ab
open Go
set_option linter.unusedSimpArgs false
set_option linter.unusedVariables false
set_option maxRecDepth 20000

theorem h_l4Rows : ∀ (n : Nat) {s : Int} {M : Mem}, n ≤ 4 → 0 ≤ s → s ≤ 1000 →
    CallsR PG F.spec_l4Rows [.I n, .I s] M fun v N => ∃ u, v = .ref u 0 (rowsL n s).length ∧ Pre M N ∧ M.length ≤ u ∧ ∀ av : List Nat, (∀ a ∈ av, a < M.length) → TabR N u (rowsL n s) av
  | 0, s, M, hn, h0, h1 => by
    refine callsR_run K.spec_l4Rows rfl ?_
    unfold rowsL
    by_cases hs : s = 0
    · rw [if_pos hs]
      simp (disch := omega) only [C.spec_l4Rows, hs, ↓SXd, SXu, slBounds, ↓sop, ↓aop, ↓reduceIte, LV.cells, AOp.dst, LV.I, LV.B, LV.U, LV.S, LV.nil, Nat.reduceEqDiff, Nat.reduceAdd, Nat.reduceMul, Nat.reduceSub, Nat.reduceLeDiff, Nat.reduceBEq, Nat.reduceDiv, Nat.reduceMod, Int.reduceToNat, Int.reduceLT, Int.reduceLE, Int.reduceAdd, Int.reduceSub, Int.reduceMul, Int.reduceEq, Int.reduceNeg, reduceCtorEq, resV, resAll, ARes.ev, LV.flat, ite_true, ite_false, exists_eq_left', exists_eq_left, keyOf, implies_true, fillC, capOf]
      refine ⟨_, rfl, Pre.app _ _, by omega, fun av hav => ?_⟩
      have := tabR_one (N := M ++ [some (.row (intL []) true 1)]) (l := []) (u := M.length) (av := av) (Live.new (b := .row (intL []) true 1)).has (fun hm => by have := hav _ hm; omega) fun a ha => by have := hav a ha; simp; omega
      rw [List.append_assoc, List.length_append] at this
      exact this
    · rw [if_neg hs]
      simp (disch := omega) only [C.spec_l4Rows, hs, ↓SXd, SXu, slBounds, ↓sop, ↓aop, ↓reduceIte, LV.cells, AOp.dst, LV.I, LV.B, LV.U, LV.S, LV.nil, Nat.reduceEqDiff, Nat.reduceAdd, Nat.reduceMul, Nat.reduceSub, Nat.reduceLeDiff, Nat.reduceBEq, Nat.reduceDiv, Nat.reduceMod, Int.reduceToNat, Int.reduceLT, Int.reduceLE, Int.reduceAdd, Int.reduceSub, Int.reduceMul, Int.reduceEq, Int.reduceNeg, reduceCtorEq, resV, resAll, ARes.ev, LV.flat, ite_true, ite_false, exists_eq_left', exists_eq_left, keyOf, implies_true, fillC, capOf]
      exact ⟨_, rfl, Pre.app _ _, Nat.le_refl _, fun av hav => TabR.nil Live.new fun hm => by have := hav _ hm; omega⟩
  | n + 1, s, M, hn, h0, h1 => by
    have hne : ¬ ((n + 1 : Nat) : Int) = 0 := by omega
    have hc := rowsL_count (n := n + 1) (s := s)
    have hp : 2 ^ (n + 1) ≤ 2 ^ 4 := Nat.pow_le_pow_right (by omega) (by omega)
    have hpn : 2 ^ n ≤ 2 ^ 4 := Nat.pow_le_pow_right (by omega) (by omega)
    let P : Nat → List (List Int) := fun f => if f = 0 then [] else if f = 1 then (rowsL n s).map (0 :: ·) else rowsL (n + 1) s
    have hP2 : P 2 = rowsL (n + 1) s := rfl
    have hP1 : P 1 = (rowsL n s).map (0 :: ·) := rfl
    have hP0 : P 0 = [] := rfl
    refine callsR_run K.spec_l4Rows rfl ?_
    simp (disch := omega) only [C.spec_l4Rows, hne, ↓SXd, SXu, slBounds, ↓sop, ↓aop, ↓reduceIte, LV.cells, AOp.dst, LV.I, LV.B, LV.U, LV.S, LV.nil, Nat.reduceEqDiff, Nat.reduceAdd, Nat.reduceMul, Nat.reduceSub, Nat.reduceLeDiff, Nat.reduceBEq, Nat.reduceDiv, Nat.reduceMod, Int.reduceToNat, Int.reduceLT, Int.reduceLE, Int.reduceAdd, Int.reduceSub, Int.reduceMul, Int.reduceEq, Int.reduceNeg, reduceCtorEq, resV, resAll, ARes.ev, LV.flat, ite_true, ite_false, exists_eq_left', exists_eq_left, keyOf, implies_true, fillC, capOf]
    refine ev_loop (fun m fr M' => ∃ (f u : Nat), f + m = 2 ∧ (f = 2 → 1 ≤ s) ∧ Pre M M' ∧ M.length ≤ u ∧ (∀ av : List Nat, (∀ a ∈ av, a < M.length) → TabR M' u (P f) av) ∧
      fr 0 = .I ((n + 1 : Nat) : Int) ∧ fr 1 = .I s ∧ fr 5 = .ref u 0 (P f).length ∧ fr 6 = .I f) 2
      ⟨0, M.length, rfl, by omega, Pre.app _ _, Nat.le_refl _, fun av hav => TabR.nil Live.new fun hm => by have := hav _ hm; omega, rfl, rfl, rfl, rfl⟩ ?_
    rintro m fr M' ⟨f, u, hf, hf2, hpre, hu, hT, f0, f1, f5, f6⟩
    have hlast : ∀ f' : Nat, f' = f → (¬ (f : Int) < 2 ∨ ¬ (f : Int) ≤ s) → P f = rowsL (n + 1) s := fun f' _ hh => by
      rcases (show f = 0 ∨ f = 1 ∨ f = 2 by omega) with rfl | rfl | rfl
      · exfalso; omega
      · have : ¬ 1 ≤ s := by omega
        rw [hP1, rowsL_succ, if_pos h0, if_neg this, List.append_nil]
      · rfl
    by_cases hlt : (f : Int) < 2
    rotate_left
    · simp (disch := omega) only [f0, f1, f5, f6, hlt, ↓SXd, SXu, slBounds, ↓sop, ↓aop, ↓reduceIte, LV.cells, AOp.dst, LV.I, LV.B, LV.U, LV.S, LV.nil, Nat.reduceEqDiff, Nat.reduceAdd, Nat.reduceMul, Nat.reduceSub, Nat.reduceLeDiff, Nat.reduceBEq, Nat.reduceDiv, Nat.reduceMod, Int.reduceToNat, Int.reduceLT, Int.reduceLE, Int.reduceAdd, Int.reduceSub, Int.reduceMul, Int.reduceEq, Int.reduceNeg, reduceCtorEq, resV, resAll, ARes.ev, LV.flat, ite_true, ite_false, exists_eq_left', exists_eq_left, keyOf, implies_true, fillC, capOf]
      rw [← hlast f rfl (.inl hlt)] at *
      exact ⟨u, rfl, hpre, hu, hT⟩
    by_cases hle : (f : Int) ≤ s
    rotate_left
    · simp (disch := omega) only [f0, f1, f5, f6, hlt, hle, ↓SXd, SXu, slBounds, ↓sop, ↓aop, ↓reduceIte, LV.cells, AOp.dst, LV.I, LV.B, LV.U, LV.S, LV.nil, Nat.reduceEqDiff, Nat.reduceAdd, Nat.reduceMul, Nat.reduceSub, Nat.reduceLeDiff, Nat.reduceBEq, Nat.reduceDiv, Nat.reduceMod, Int.reduceToNat, Int.reduceLT, Int.reduceLE, Int.reduceAdd, Int.reduceSub, Int.reduceMul, Int.reduceEq, Int.reduceNeg, reduceCtorEq, resV, resAll, ARes.ev, LV.flat, ite_true, ite_false, exists_eq_left', exists_eq_left, keyOf, implies_true, fillC, capOf]
      rw [← hlast f rfl (.inr hle)] at *
      exact ⟨u, rfl, hpre, hu, hT⟩
    have hnx : P (f + 1) = P f ++ (rowsL n (s - f)).map ((f : Int) :: ·) := by
      rcases (show f = 0 ∨ f = 1 by omega) with rfl | rfl
      · rw [hP1, hP0]; simp
      · rw [hP2, hP1, rowsL_succ, if_pos h0, if_pos (by omega)]
        rfl
    have hcn := rowsL_count (n := n) (s := s - f)
    have hcf : (P f).length ≤ 16 := by
      rcases (show f = 0 ∨ f = 1 by omega) with rfl | rfl
      · simp [hP0]
      · rw [hP1, List.length_map]
        have := rowsL_count (n := n) (s := s)
        omega
    have hrl := fun r hr => rowsL_len (n := n) (s := s - f) (r := r) hr
    have hTu := hT [] (by simp)
    have hul := hTu.lt
    simp (disch := omega) only [f0, f1, f5, f6, hlt, hle, ↓SXd, SXu, slBounds, ↓sop, ↓aop, ↓reduceIte, LV.cells, AOp.dst, LV.I, LV.B, LV.U, LV.S, LV.nil, Nat.reduceEqDiff, Nat.reduceAdd, Nat.reduceMul, Nat.reduceSub, Nat.reduceLeDiff, Nat.reduceBEq, Nat.reduceDiv, Nat.reduceMod, Int.reduceToNat, Int.reduceLT, Int.reduceLE, Int.reduceAdd, Int.reduceSub, Int.reduceMul, Int.reduceEq, Int.reduceNeg, reduceCtorEq, resV, resAll, ARes.ev, LV.flat, ite_true, ite_false, exists_eq_left', exists_eq_left, keyOf, implies_true, fillC, capOf]
    have e1 : ((n + 1 : Nat) : Int) - 1 = (n : Int) := by omega
    rw [e1]
    refine callR_of (h_l4Rows n (by omega) (by omega) (by omega)) ?_
    rintro _ N ⟨ur, rfl, hpN, hur, hTr⟩
    have hTru := hTr [u] (fun a ha => by rw [List.mem_singleton.1 ha]; exact hul)
    generalize rowsL n (s - f) = R at hnx hcn hrl hTru ⊢
    have hTN : ∀ av : List Nat, (∀ a ∈ av, a < M.length) → TabR N u (P f ++ (R.take 0).map ((f : Int) :: ·)) av := fun av hav => by
      rw [List.take_zero, List.map_nil, List.append_nil]; exact (hT av hav).pre hpN
    simp (disch := omega) only [f0, f1, f5, f6, ↓SXd, SXu, slBounds, ↓sop, ↓aop, ↓reduceIte, LV.cells, AOp.dst, LV.I, LV.B, LV.U, LV.S, LV.nil, Nat.reduceEqDiff, Nat.reduceAdd, Nat.reduceMul, Nat.reduceSub, Nat.reduceLeDiff, Nat.reduceBEq, Nat.reduceDiv, Nat.reduceMod, Int.reduceToNat, Int.reduceLT, Int.reduceLE, Int.reduceAdd, Int.reduceSub, Int.reduceMul, Int.reduceEq, Int.reduceNeg, reduceCtorEq, resV, resAll, ARes.ev, LV.flat, ite_true, ite_false, exists_eq_left', exists_eq_left, keyOf, implies_true, fillC, capOf]
    refine ev_loop (fun m2 fr M2 => ∃ (i u2 : Nat), i + m2 = R.length ∧ Pre M M2 ∧ M.length ≤ u2 ∧ TabR M2 ur R [u2] ∧ (∀ av : List Nat, (∀ a ∈ av, a < M.length) → TabR M2 u2 (P f ++ (R.take i).map ((f : Int) :: ·)) av) ∧
      fr 0 = .I ((n + 1 : Nat) : Int) ∧ fr 1 = .I s ∧ fr 5 = .ref u2 0 (P f ++ (R.take i).map ((f : Int) :: ·)).length ∧ fr 6 = .I f ∧ fr 7 = .ref ur 0 R.length ∧ fr 8 = .I i) R.length
      ⟨0, u, by omega, hpre.trans hpN, hu, hTru, hTN, f0, f1, by rw [List.take_zero, List.map_nil, List.append_nil]; exact f5, f6, rfl, rfl⟩ ?_
    clear f0 f1 f5 f6 hTN hTru hT hTu
    rintro m2 fr M2 ⟨i, u2, hi, hpre2, hu2, hTr, hT, f0, f1, f5, f6, f7, f8⟩
    simp (disch := omega) only [f0, f1, f5, f6, f7, f8, ↓SXd, SXu, slBounds, ↓sop, ↓aop, ↓reduceIte, LV.cells, AOp.dst, LV.I, LV.B, LV.U, LV.S, LV.nil, Nat.reduceEqDiff, Nat.reduceAdd, Nat.reduceMul, Nat.reduceSub, Nat.reduceLeDiff, Nat.reduceBEq, Nat.reduceDiv, Nat.reduceMod, Int.reduceToNat, Int.reduceLT, Int.reduceLE, Int.reduceAdd, Int.reduceSub, Int.reduceMul, Int.reduceEq, Int.reduceNeg, reduceCtorEq, resV, resAll, ARes.ev, LV.flat, ite_true, ite_false, exists_eq_left', exists_eq_left, keyOf, implies_true, fillC, capOf]
    refine condC_dec (fun hlt2 => ?_) (fun hlt2 => ?_)
    rotate_left
    · have : i = R.length := by omega
      subst this
      rw [List.take_length, ← hnx] at hT f5
      simp (disch := omega) only [f0, f1, f5, f6, f7, f8, ↓SXd, SXu, slBounds, ↓sop, ↓aop, ↓reduceIte, LV.cells, AOp.dst, LV.I, LV.B, LV.U, LV.S, LV.nil, Nat.reduceEqDiff, Nat.reduceAdd, Nat.reduceMul, Nat.reduceSub, Nat.reduceLeDiff, Nat.reduceBEq, Nat.reduceDiv, Nat.reduceMod, Int.reduceToNat, Int.reduceLT, Int.reduceLE, Int.reduceAdd, Int.reduceSub, Int.reduceMul, Int.reduceEq, Int.reduceNeg, reduceCtorEq, resV, resAll, ARes.ev, LV.flat, ite_true, ite_false, exists_eq_left', exists_eq_left, keyOf, implies_true, fillC, capOf]
      exact ⟨m - 1, by omega, f + 1, u2, by omega, by omega, hpre2, hu2, hT, f0, f1, f5, eqI (natI _)⟩
    have hil : i < R.length := by omega
    obtain ⟨w, hg, hI⟩ := hTr.at hil
    have hrow := hrl _ (getD_mem' (d := []) hil)
    have hts : R.take (i + 1) = R.take i ++ [R.getD i []] := by
      rw [List.take_succ, List.getElem?_eq_getElem hil]; simp [hil]
    generalize R.getD i [] = row at hg hI hrow hts
    have hTu2 := hT [] (by simp)
    have hlen2 : (P f ++ (R.take i).map ((f : Int) :: ·)).length ≤ 32 := by
      rw [List.length_append, List.length_map]
      have := List.length_take_le i R
      omega
    have hul2 := hTu2.lt
    have hpl2 := hpre2.1
    have hg' : getCell (M2 ++ [some (.row [.I f] true 1)]) ur i = some (.ref w 0 row.length) := by
      rw [getCell_app hTr.lt]; exact hg
    simp (disch := omega) only [f0, f1, f5, f6, f7, f8, hg', ↓SXd, SXu, slBounds, ↓sop, ↓aop, ↓reduceIte, LV.cells, AOp.dst, LV.I, LV.B, LV.U, LV.S, LV.nil, Nat.reduceEqDiff, Nat.reduceAdd, Nat.reduceMul, Nat.reduceSub, Nat.reduceLeDiff, Nat.reduceBEq, Nat.reduceDiv, Nat.reduceMod, Int.reduceToNat, Int.reduceLT, Int.reduceLE, Int.reduceAdd, Int.reduceSub, Int.reduceMul, Int.reduceEq, Int.reduceNeg, reduceCtorEq, resV, resAll, ARes.ev, LV.flat, ite_true, ite_false, exists_eq_left', exists_eq_left, keyOf, implies_true, fillC, capOf]
    refine appendK_list (e := 1) (b := 8) (acc := [.I f]) (n := 1) (new := intL row) (n2 := row.length) Live.new rfl hI.app (by rw [intL_len]; omega) (by omega) (by omega) fun u5 N5 k1 k2 k3 k4 => ?_
    rw [List.length_append, List.length_singleton] at k1 k3 k4
    have hrow5 : Live N5 u5 (.row (intL ((f : Int) :: row)) true 1) := k2
    have hp5 : ∀ q, q < M2.length → N5[q]? = M2[q]? := fun q hq => by rw [k4 q (by omega) (by omega), List.getElem?_append_left hq]
    have hP5 : Pre M2 N5 := ⟨by omega, hp5⟩
    have hu5 : M2.length ≤ u5 := by omega
    have hone : ∀ av : List Nat, (∀ a ∈ av, a < M2.length) → TabR (N5 ++ [some (.row [.ref u5 0 ((f : Int) :: row).length] true 1)]) N5.length [(f : Int) :: row] av := fun av hav => tabR_one hrow5.has (fun hm => by have := hav _ hm; omega) fun a ha => by have := hav a ha; omega
    have e2 : 1 + row.length = ((f : Int) :: row).length := by simp; omega
    have hone1 := hone [u2] fun a ha => by rw [List.mem_singleton.1 ha]; exact hul2
    rw [e2]
    simp (disch := omega) only [f0, f1, f5, f6, f7, f8, ↓SXd, SXu, slBounds, ↓sop, ↓aop, ↓reduceIte, LV.cells, AOp.dst, LV.I, LV.B, LV.U, LV.S, LV.nil, Nat.reduceEqDiff, Nat.reduceAdd, Nat.reduceMul, Nat.reduceSub, Nat.reduceLeDiff, Nat.reduceBEq, Nat.reduceDiv, Nat.reduceMod, Int.reduceToNat, Int.reduceLT, Int.reduceLE, Int.reduceAdd, Int.reduceSub, Int.reduceMul, Int.reduceEq, Int.reduceNeg, reduceCtorEq, resV, resAll, ARes.ev, LV.flat, ite_true, ite_false, exists_eq_left', exists_eq_left, keyOf, implies_true, fillC, capOf]
    refine appendK_tabs (L2 := [(f : Int) :: row]) (hTu2.pre (hP5.trans (Pre.app _ _))) hone1 (by simp only [List.length_singleton]; omega) fun u6 N6 l1 l2 l3 l4 => ?_
    rw [List.length_append, List.length_singleton] at l1 l3 l4
    simp (disch := omega) only [f0, f1, f5, f6, f7, f8, ↓SXd, SXu, slBounds, ↓sop, ↓aop, ↓reduceIte, LV.cells, AOp.dst, LV.I, LV.B, LV.U, LV.S, LV.nil, Nat.reduceEqDiff, Nat.reduceAdd, Nat.reduceMul, Nat.reduceSub, Nat.reduceLeDiff, Nat.reduceBEq, Nat.reduceDiv, Nat.reduceMod, Int.reduceToNat, Int.reduceLT, Int.reduceLE, Int.reduceAdd, Int.reduceSub, Int.reduceMul, Int.reduceEq, Int.reduceNeg, reduceCtorEq, resV, resAll, ARes.ev, LV.flat, ite_true, ite_false, exists_eq_left', exists_eq_left, keyOf, implies_true, fillC, capOf]
    have hk6 : ∀ q, q ≠ u2 → q < M2.length → N6[q]? = M2[q]? := fun q q1 q2 => by rw [l4 q q1 (by omega), List.getElem?_append_left (by omega)]; exact hp5 q q2
    have hstep : P f ++ (R.take (i + 1)).map ((f : Int) :: ·) = (P f ++ (R.take i).map ((f : Int) :: ·)) ++ [(f : Int) :: row] := by rw [hts, List.map_append, List.append_assoc]; rfl
    refine ⟨m2 - 1, by omega, i + 1, u6, by omega, ⟨by omega, fun q hq => by rw [hk6 q (by omega) (by omega)]; exact hpre2.2 q hq⟩, by omega, hTr.keep (fun q q1 q2 => hk6 q (by simpa using q1) q2) fun q hq => by
      rw [List.mem_singleton.1 hq]
      rcases l3 with rfl | l3
      · exact .inl (by simp)
      · exact .inr (by omega), fun av hav => ?_, f0, f1, ?_, f6, f7, eqI (natI _)⟩
    · rw [hstep]
      exact l2 av ((hT av hav).pre (hP5.trans (Pre.app _ _))) (hone (u2 :: av) fun a ha => by
        rcases List.mem_cons.1 ha with rfl | ha
        · exact hul2
        · have := hav a ha; omega) fun a ha => by have := hav a ha; simp; omega
    · rw [hstep]; simp only [List.length_append, List.length_singleton]; rfl
end Go.Ab

/- Contracts: all tables with given sums, the reference's side. -/
namespace Go.Ab
open Go
set_option linter.unusedSimpArgs false
set_option linter.unusedVariables false
set_option maxRecDepth 20000

theorem Live.getE {M : Mem} {t e : Nat} {cs : List LV} {w : Bool} (h : Live M t (.row cs w e)) : getEsz M t = some e := by
  unfold getEsz
  rw [show M[t]? = some (some (.row cs w e)) from h]
/-- A list of tables none of whose blocks is among av. -/
def Tab3 (N : Mem) (t : Nat) (L : List (List (List Int))) (av : List Nat) : Prop := ∃ refs : List LV, Live N t (.row refs true 1) ∧ refs.length = L.length ∧ t ∉ av ∧ ∀ i, i < L.length → ∃ u, u ≠ t ∧ u ∉ av ∧ refs[i]? = some (.ref u 0 (L.getD i []).length) ∧ TabR N u (L.getD i []) (t :: av)
theorem Tab3.keep {N N' : Mem} {t : Nat} {L : List (List (List Int))} {av av' : List Nat} (h : Tab3 N t L av) (hk : ∀ q, q ∉ av → q < N.length → N'[q]? = N[q]?) (ha : ∀ q, q ∈ av' → q ∈ av ∨ N.length ≤ q) : Tab3 N' t L av' := by
  obtain ⟨refs, h1, h2, h3, h4⟩ := h
  have hno : ∀ q, q ∉ av → q < N.length → q ∉ av' := fun q h1 h2 h3 => (ha q h3).elim h1 (by omega)
  refine ⟨refs, Live.at h1 (hk _ h3 h1.lt), h2, hno _ h3 h1.lt, fun i hi => ?_⟩
  obtain ⟨u, q1, q2, q3, q4⟩ := h4 i hi
  exact ⟨u, q1, hno _ q2 q4.lt, q3, q4.keep (fun q p1 p2 => hk q (fun hm => p1 (by simp [hm])) p2) fun q hq => by
    rcases List.mem_cons.1 hq with rfl | hq
    · exact .inl (by simp)
    · rcases ha q hq with h | h
      · exact .inl (by simp [h])
      · exact .inr h⟩
theorem Tab3.pre {N N' : Mem} {t : Nat} {L : List (List (List Int))} {av : List Nat} (h : Tab3 N t L av) (hp : Pre N N') : Tab3 N' t L av := h.keep (fun q _ h => hp.2 q h) fun q h => .inl h
theorem Tab3.nil {N : Mem} {t : Nat} {av : List Nat} (h : Live N t (.row [] true 1)) (ha : t ∉ av) : Tab3 N t [] av := ⟨[], h, rfl, ha, fun i hi => by simp at hi⟩
theorem Tab3.lt {N : Mem} {t : Nat} {L : List (List (List Int))} {av : List Nat} (h : Tab3 N t L av) : t < N.length := by
  obtain ⟨refs, h1, _⟩ := h
  exact h1.lt
theorem Tab3.at {N : Mem} {t : Nat} {L : List (List (List Int))} {av : List Nat} (h : Tab3 N t L av) {i : Nat} (hi : i < L.length) : ∃ u : Nat, getCell N t i = some (.ref u 0 (L.getD i []).length) ∧ TabR N u (L.getD i []) (t :: av) := by
  obtain ⟨refs, h1, h2, h3, h4⟩ := h
  obtain ⟨u, q1, q2, q3, q4⟩ := h4 i hi
  exact ⟨u, by rw [← q3]; exact h1.cell, q4⟩
theorem tab3_one {N : Mem} {T : List (List Int)} {u : Nat} {av : List Nat} (h : TabR N u T av) (ha : ∀ a ∈ av, a < N.length) : Tab3 (N ++ [some (.row [.ref u 0 T.length] true 1)]) N.length [T] av := by
  have hul := h.lt
  obtain ⟨_, _, _, hua, _⟩ := id h
  refine ⟨[.ref u 0 T.length], Live.new, rfl, fun hm => by have := ha _ hm; omega, fun i hi => ?_⟩
  simp at hi
  subst hi
  refine ⟨u, by omega, hua, rfl, h.keep (fun q _ hq => List.getElem?_append_left hq) fun q hq => ?_⟩
  rcases List.mem_cons.1 hq with rfl | hq
  · exact .inr (Nat.le_refl _)
  · exact .inl hq
/-- Tables go behind a list of tables. -/
theorem appendK_tab3 {N : Mem} {t t2 : Nat} {L L2 : List (List (List Int))} {A : LV → Mem → Prop} (h : Tab3 N t L []) (h2 : Tab3 N t2 L2 [t]) (hl : L.length + L2.length ≤ 1000000000000)
    (hA : ∀ u M', N.length ≤ M'.length → (∀ av : List Nat, Tab3 N t L av → Tab3 N t2 L2 (t :: av) → (∀ a ∈ av, a < N.length) → Tab3 M' u (L ++ L2) av) → (u = t ∨ N.length ≤ u) → (∀ w, w ≠ t → w < N.length → M'[w]? = N[w]?) → A (.ref u 0 (L.length + L2.length)) M') : appendK 1 24 (.ref t 0 L.length) (.ref t2 0 L2.length) N A := by
  obtain ⟨refs, h1, hr, _⟩ := h
  obtain ⟨refs2, g1, gr, _⟩ := h2
  have g1' : Has N t2 0 refs2 := g1.has
  refine appendK_list (acc := refs) (new := refs2) h1 (by omega) g1' (by omega) (by omega) (by omega) fun u M' k1 k2 k3 k4 => hA u M' k1 (fun av h h2 hav => ?_) k3 k4
  obtain ⟨refs', h1', hr', h3, h4⟩ := h
  obtain ⟨refs2', g1'', gr', g3, g4⟩ := h2
  cases live_row h1 h1'
  cases live_row g1 g1''
  refine ⟨refs ++ refs2, k2, by simp [hr, gr], ?_, fun i hi => ?_⟩
  · rcases k3 with rfl | k3
    · exact h3
    · exact fun hm => by have := hav u hm; omega
  · have fin : ∀ v, v ≠ t → v < N.length → v ≠ u := fun v hv hlt e => by
      subst e
      rcases k3 with rfl | k3
      · exact hv rfl
      · omega
    rw [List.length_append] at hi
    by_cases hi2 : i < L.length
    · obtain ⟨v, q1, q2, q3, q4⟩ := h4 i hi2
      have hg : (L ++ L2).getD i [] = L.getD i [] := by simp only [List.getD_eq_getElem?_getD]; rw [List.getElem?_append_left hi2]
      rw [hg]
      refine ⟨v, fin v q1 q4.lt, q2, by rw [List.getElem?_append_left (by omega)]; exact q3, q4.keep (fun q p1 p2 => k4 q (fun e => p1 (by simp [e])) p2) fun q hq => ?_⟩
      rcases List.mem_cons.1 hq with rfl | hq
      · rcases k3 with rfl | k3
        · exact .inl (by simp)
        · exact .inr k3
      · exact .inl (by simp [hq])
    · obtain ⟨v, q1, q2, q3, q4⟩ := g4 (i - L.length) (by omega)
      have hg : (L ++ L2).getD i [] = L2.getD (i - L.length) [] := by simp only [List.getD_eq_getElem?_getD]; rw [List.getElem?_append_right (by omega)]
      rw [hg]
      have hvt : v ≠ t := fun e => q2 (by simp [e])
      refine ⟨v, fin v hvt q4.lt, fun hm => q2 (by simp [hm]), by rw [List.getElem?_append_right (by omega), hr]; exact q3, q4.keep (fun q p1 p2 => k4 q (fun e => p1 (by simp [e])) p2) fun q hq => ?_⟩
      rcases List.mem_cons.1 hq with rfl | hq
      · rcases k3 with rfl | k3
        · exact .inl (by simp)
        · exact .inr k3
      · exact .inl (by simp [hq])

theorem TabR.less {N : Mem} {t : Nat} {L : List (List Int)} {av av' : List Nat} (h : TabR N t L av) (ha : ∀ q ∈ av', q ∈ av) : TabR N t L av' := h.keep (fun q _ _ => rfl) fun q hq => .inl (ha q hq)
theorem Tab3.less {N : Mem} {t : Nat} {L : List (List (List Int))} {av av' : List Nat} (h : Tab3 N t L av) (ha : ∀ q ∈ av', q ∈ av) : Tab3 N t L av' := h.keep (fun q _ _ => rfl) fun q hq => .inl (ha q hq)
theorem TabR.atX {N : Mem} {t uo : Nat} {L : List (List Int)} {P : List Nat → Prop} (h : ∀ av, P av → TabR N t L (uo :: av)) (h0 : P []) {i : Nat} (hi : i < L.length) : ∃ w : Nat, getCell N t i = some (.ref w 0 (L.getD i []).length) ∧ Ints N w 0 (L.getD i []) ∧ ∀ av, P av → w ∉ uo :: av := by
  obtain ⟨refs, h1, h2, h3, h4⟩ := h [] h0
  obtain ⟨w, q1, q2, q3, q4⟩ := h4 i hi
  refine ⟨w, by rw [← q3]; exact h1.cell, q4, fun av hav => ?_⟩
  obtain ⟨refs', g1, g2, g3, g4⟩ := h av hav
  cases live_row h1 g1
  obtain ⟨w', p1, p2, p3, p4⟩ := g4 i hi
  rw [q3] at p3
  cases p3
  exact p2
theorem Tab3.atX {N : Mem} {t uo : Nat} {L : List (List (List Int))} {P : List Nat → Prop} (h : ∀ av, P av → Tab3 N t L (uo :: av)) (h0 : P []) {i : Nat} (hi : i < L.length) : ∃ v : Nat, getCell N t i = some (.ref v 0 (L.getD i []).length) ∧ ∀ av, P av → TabR N v (L.getD i []) (t :: uo :: av) := by
  obtain ⟨refs, h1, h2, h3, h4⟩ := h [] h0
  obtain ⟨w, q1, q2, q3, q4⟩ := h4 i hi
  refine ⟨w, by rw [← q3]; exact h1.cell, fun av hav => ?_⟩
  obtain ⟨refs', g1, g2, g3, g4⟩ := h av hav
  cases live_row h1 g1
  obtain ⟨w', p1, p2, p3, p4⟩ := g4 i hi
  rw [q3] at p3
  cases p3
  exact p4

/-- What is left behind so many columns. -/
def leftK (cols row : List Int) (k : Nat) : List Int := subR (cols.take k) (row.take k) ++ cols.drop k
theorem leftK_zero {cols row : List Int} : leftK cols row 0 = cols := by simp [leftK, subR]
theorem leftK_all {cols row : List Int} (h : row.length = cols.length) : leftK cols row cols.length = subR cols row := by
  unfold leftK
  rw [List.take_of_length_le (Nat.le_refl _), List.take_of_length_le (by omega), List.drop_length, List.append_nil]
theorem leftK_len {cols row : List Int} {k : Nat} (h : row.length = cols.length) (hk : k ≤ cols.length) : (leftK cols row k).length = cols.length := by
  unfold leftK
  rw [List.length_append, subR_len (by simp; omega)]; simp; omega
theorem leftK_get {cols row : List Int} {k : Nat} (h : row.length = cols.length) (hk : k < cols.length) : (leftK cols row k).getD k 0 = cols.getD k 0 := by
  unfold leftK
  have hl : (subR (cols.take k) (row.take k)).length = k := by rw [subR_len (by simp; omega)]; simp; omega
  simp only [List.getD_eq_getElem?_getD]
  rw [List.getElem?_append_right (by omega), hl, Nat.sub_self, List.getElem?_drop, Nat.add_zero]
theorem leftK_succ {cols row : List Int} {k : Nat} (h : row.length = cols.length) (hk : k < cols.length) : leftK cols row (k + 1) = (leftK cols row k).set k (cols.getD k 0 - row.getD k 0) := by
  have hl : (subR (cols.take k) (row.take k)).length = k := by rw [subR_len (by simp; omega)]; simp; omega
  have e1 : cols.take (k + 1) = cols.take k ++ [cols.getD k 0] := by rw [List.take_succ, List.getElem?_eq_getElem hk]; simp [hk]
  have e2 : row.take (k + 1) = row.take k ++ [row.getD k 0] := by rw [List.take_succ, List.getElem?_eq_getElem (by omega)]; simp [show k < row.length by omega]
  have e3 : cols.drop k = cols.getD k 0 :: cols.drop (k + 1) := by rw [List.drop_eq_getElem_cons hk]; simp [hk]
  unfold leftK
  rw [List.set_append_right (h := by omega), hl, Nat.sub_self, e3, List.set_cons_zero, e1, e2]
  unfold subR
  rw [List.zipWith_append (by simp; omega), List.append_assoc]
  rfl
theorem okR_succ {cols row : List Int} {k : Nat} (h : row.length = cols.length) (hk : k < cols.length) : okR (cols.take (k + 1)) (row.take (k + 1)) = (okR (cols.take k) (row.take k) && decide (0 ≤ cols.getD k 0 - row.getD k 0)) := by
  have e1 : cols.take (k + 1) = cols.take k ++ [cols.getD k 0] := by rw [List.take_succ, List.getElem?_eq_getElem hk]; simp [hk]
  have e2 : row.take (k + 1) = row.take k ++ [row.getD k 0] := by rw [List.take_succ, List.getElem?_eq_getElem (by omega)]; simp [show k < row.length by omega]
  unfold okR
  rw [e1, e2, List.zipWith_append (by simp; omega), List.all_append]
  simp
theorem subR_bound {cols row : List Int} {b : Int} (hc : ∀ a ∈ cols, a ≤ b) (hr : ∀ a ∈ row, 0 ≤ a) : ∀ a ∈ subR cols row, a ≤ b := by
  intro a ha
  unfold subR at ha
  rw [List.mem_iff_getElem] at ha
  obtain ⟨i, hi, rfl⟩ := ha
  rw [List.length_zipWith] at hi
  rw [List.getElem_zipWith]
  have h1 := hc cols[i] (List.getElem_mem _)
  have h2 := hr row[i] (List.getElem_mem _)
  omega
theorem take_snocL {α : Type} {l : List α} {i : Nat} (d : α) (h : i < l.length) : l.take (i + 1) = l.take i ++ [l.getD i d] := by
  rw [List.take_succ, List.getElem?_eq_getElem h]; simp [h]
set_option maxHeartbeats 1000000 in
theorem h_l4Tables : ∀ (rows : List Int) {R0 cols : List Int} {tr o tc : Nat} {M : Mem}, rows.length ≤ 4 → cols.length ≤ 4 → (∀ a ∈ cols, 0 ≤ a ∧ a ≤ 1000) → (∀ r ∈ rows, 0 ≤ r ∧ r ≤ 1000) → Live M tr (.row (intL R0) true 1) → R0.drop o = rows → Ints M tc 0 cols →
    CallsR PG F.spec_l4Tables [.ref tr o rows.length, .ref tc 0 cols.length] M fun v N => ∃ u, v = .ref u 0 (tabsL rows cols).length ∧ Pre M N ∧ M.length ≤ u ∧ ∀ av : List Nat, (∀ a ∈ av, a < M.length) → Tab3 N u (tabsL rows cols) av
  | [], R0, cols, tr, o, tc, M, hrl, hcl, hc, hr, hR, hro, hI => by
    refine callsR_run K.spec_l4Tables rfl ?_
    simp (disch := omega) only [C.spec_l4Tables, ↓SXd, SXu, slBounds, ↓sop, ↓aop, ↓reduceIte, LV.cells, AOp.dst, LV.I, LV.B, LV.U, LV.S, LV.nil, Nat.reduceEqDiff, Nat.reduceAdd, Nat.reduceMul, Nat.reduceSub, Nat.reduceLeDiff, Nat.reduceBEq, Nat.reduceDiv, Nat.reduceMod, Int.reduceToNat, Int.reduceLT, Int.reduceLE, Int.reduceAdd, Int.reduceSub, Int.reduceMul, Int.reduceEq, Int.reduceNeg, reduceCtorEq, resV, resAll, ARes.ev, LV.flat, ite_true, ite_false, exists_eq_left', exists_eq_left, keyOf, implies_true, fillC, capOf]
    unfold tabsL
    refine ev_loop (fun m fr M' => ∃ k : Nat, k + m = cols.length ∧ M' = M ∧ (∀ a ∈ cols.take k, a = 0) ∧ fr 1 = .ref tc 0 cols.length ∧ fr 5 = .I k) cols.length
      ⟨0, by omega, rfl, by simp, rfl, rfl⟩ ?_
    rintro m fr M' ⟨k, hk, rfl, hz, f1, f5⟩
    simp (disch := omega) only [f1, f5, ↓SXd, SXu, slBounds, ↓sop, ↓aop, ↓reduceIte, LV.cells, AOp.dst, LV.I, LV.B, LV.U, LV.S, LV.nil, Nat.reduceEqDiff, Nat.reduceAdd, Nat.reduceMul, Nat.reduceSub, Nat.reduceLeDiff, Nat.reduceBEq, Nat.reduceDiv, Nat.reduceMod, Int.reduceToNat, Int.reduceLT, Int.reduceLE, Int.reduceAdd, Int.reduceSub, Int.reduceMul, Int.reduceEq, Int.reduceNeg, reduceCtorEq, resV, resAll, ARes.ev, LV.flat, ite_true, ite_false, exists_eq_left', exists_eq_left, keyOf, implies_true, fillC, capOf]
    refine condC_dec (fun hlt => ?_) (fun hlt => ?_)
    · have hkl : k < cols.length := by omega
      have hg := Ints.get hI hkl
      rw [Nat.zero_add] at hg
      have hts := take_snocL 0 hkl
      have hm := getD_mem' (d := 0) hkl
      generalize cols.getD k 0 = a at hg hts hm
      simp (disch := omega) only [f1, f5, hg, ↓SXd, SXu, slBounds, ↓sop, ↓aop, ↓reduceIte, LV.cells, AOp.dst, LV.I, LV.B, LV.U, LV.S, LV.nil, Nat.reduceEqDiff, Nat.reduceAdd, Nat.reduceMul, Nat.reduceSub, Nat.reduceLeDiff, Nat.reduceBEq, Nat.reduceDiv, Nat.reduceMod, Int.reduceToNat, Int.reduceLT, Int.reduceLE, Int.reduceAdd, Int.reduceSub, Int.reduceMul, Int.reduceEq, Int.reduceNeg, reduceCtorEq, resV, resAll, ARes.ev, LV.flat, ite_true, ite_false, exists_eq_left', exists_eq_left, keyOf, implies_true, fillC, capOf]
      by_cases ha : a = 0
      · simp (disch := omega) only [f1, f5, ha, ↓SXd, SXu, slBounds, ↓sop, ↓aop, ↓reduceIte, LV.cells, AOp.dst, LV.I, LV.B, LV.U, LV.S, LV.nil, Nat.reduceEqDiff, Nat.reduceAdd, Nat.reduceMul, Nat.reduceSub, Nat.reduceLeDiff, Nat.reduceBEq, Nat.reduceDiv, Nat.reduceMod, Int.reduceToNat, Int.reduceLT, Int.reduceLE, Int.reduceAdd, Int.reduceSub, Int.reduceMul, Int.reduceEq, Int.reduceNeg, reduceCtorEq, resV, resAll, ARes.ev, LV.flat, ite_true, ite_false, exists_eq_left', exists_eq_left, keyOf, implies_true, fillC, capOf]
        refine ⟨m - 1, by omega, k + 1, by omega, rfl, fun b hb => ?_, f1, eqI (natI _)⟩
        rw [hts] at hb
        rcases List.mem_append.1 hb with hb | hb
        · exact hz b hb
        · rw [List.mem_singleton.1 hb]; exact ha
      · have hno : ¬ (cols.all fun v => decide (v = 0)) = true := fun e => by
          rw [List.all_eq_true] at e
          exact ha (of_decide_eq_true (e a hm))
        rw [if_neg hno]
        simp (disch := omega) only [f1, f5, ha, ↓SXd, SXu, slBounds, ↓sop, ↓aop, ↓reduceIte, LV.cells, AOp.dst, LV.I, LV.B, LV.U, LV.S, LV.nil, Nat.reduceEqDiff, Nat.reduceAdd, Nat.reduceMul, Nat.reduceSub, Nat.reduceLeDiff, Nat.reduceBEq, Nat.reduceDiv, Nat.reduceMod, Int.reduceToNat, Int.reduceLT, Int.reduceLE, Int.reduceAdd, Int.reduceSub, Int.reduceMul, Int.reduceEq, Int.reduceNeg, reduceCtorEq, resV, resAll, ARes.ev, LV.flat, ite_true, ite_false, exists_eq_left', exists_eq_left, keyOf, implies_true, fillC, capOf]
        exact ⟨_, rfl, Pre.app _ _, Nat.le_refl _, fun av hav => Tab3.nil Live.new fun hm => by have := hav _ hm; omega⟩
    · have : k = cols.length := by omega
      subst this
      rw [List.take_length] at hz
      have hyes : (cols.all fun v => decide (v = 0)) = true := by
        rw [List.all_eq_true]; exact fun a ha => decide_eq_true (hz a ha)
      rw [if_pos hyes]
      simp (disch := omega) only [f1, f5, ↓SXd, SXu, slBounds, ↓sop, ↓aop, ↓reduceIte, LV.cells, AOp.dst, LV.I, LV.B, LV.U, LV.S, LV.nil, Nat.reduceEqDiff, Nat.reduceAdd, Nat.reduceMul, Nat.reduceSub, Nat.reduceLeDiff, Nat.reduceBEq, Nat.reduceDiv, Nat.reduceMod, Int.reduceToNat, Int.reduceLT, Int.reduceLE, Int.reduceAdd, Int.reduceSub, Int.reduceMul, Int.reduceEq, Int.reduceNeg, reduceCtorEq, resV, resAll, ARes.ev, LV.flat, ite_true, ite_false, exists_eq_left', exists_eq_left, keyOf, implies_true, fillC, capOf]
      refine ⟨_, rfl, Pre.app _ _, by omega, fun av hav => ?_⟩
      have := tab3_one (N := M' ++ [some (.row [] true 1)]) (T := []) (u := M'.length) (av := av) (TabR.nil Live.new fun hm => by have := hav _ hm; omega) fun a ha => by have := hav a ha; simp; omega
      rw [List.append_assoc, List.length_append] at this
      exact this
  | r :: rs, R0, cols, tr, o, tc, M, hrl, hcl, hc, hr, hR, hro, hI => by
    have hne : ¬ (((r :: rs).length : Nat) : Int) = 0 := by rw [List.length_cons]; omega
    have hr0 := hr r (by simp)
    have hgr : getCell M tr o = some (.I r) := by
      rw [hR.cell]
      have : R0[o]? = some r := by
        have := congrArg (fun l => l[0]?) hro
        simpa using this
      unfold intL
      rw [List.getElem?_map, this]; rfl
    have hlen : rs.length + 1 ≤ 4 := by simpa using hrl
    have hcount := tabsL_count (n := cols.length) (rs := r :: rs) (cols := cols) rfl
    have hcr : ∀ c' : List Int, c'.length = cols.length → (tabsL rs c').length ≤ (2 ^ cols.length) ^ rs.length := fun c' h => tabsL_count h
    have hp1 : (2 ^ cols.length) ^ (r :: rs).length ≤ 65536 := by
      have h1 : 2 ^ cols.length ≤ 2 ^ 4 := Nat.pow_le_pow_right (by omega) hcl
      have h2 : (2 ^ cols.length) ^ (r :: rs).length ≤ (2 ^ 4) ^ (r :: rs).length := Nat.pow_le_pow_left h1 _
      have h3 : (2 ^ 4) ^ (r :: rs).length ≤ (2 ^ 4) ^ 4 := Nat.pow_le_pow_right (by omega) hrl
      omega
    have hp2 : (2 ^ cols.length) ^ rs.length ≤ 65536 := Nat.le_trans (Nat.pow_le_pow_right (Nat.pos_of_ne_zero (by simp)) (by simp)) hp1
    have htab : tabsL (r :: rs) cols = (rowsL cols.length r).flatMap fun row => if okR cols row then (tabsL rs (subR cols row)).map (row :: ·) else [] := rfl
    have hrowl := fun row h => rowsL_len (n := cols.length) (s := r) (r := row) h
    have hrowb := fun row h => rowsL_bit (n := cols.length) (s := r) (r := row) h
    have hrc := rowsL_count (n := cols.length) (s := r)
    have hp3 : 2 ^ cols.length ≤ 2 ^ 4 := Nat.pow_le_pow_right (by omega) hcl
    refine callsR_run K.spec_l4Tables rfl ?_
    simp (disch := omega) only [C.spec_l4Tables, hne, ↓SXd, SXu, slBounds, ↓sop, ↓aop, ↓reduceIte, LV.cells, AOp.dst, LV.I, LV.B, LV.U, LV.S, LV.nil, Nat.reduceEqDiff, Nat.reduceAdd, Nat.reduceMul, Nat.reduceSub, Nat.reduceLeDiff, Nat.reduceBEq, Nat.reduceDiv, Nat.reduceMod, Int.reduceToNat, Int.reduceLT, Int.reduceLE, Int.reduceAdd, Int.reduceSub, Int.reduceMul, Int.reduceEq, Int.reduceNeg, reduceCtorEq, resV, resAll, ARes.ev, LV.flat, ite_true, ite_false, exists_eq_left', exists_eq_left, keyOf, implies_true, fillC, capOf]
    have htl := hR.lt
    have hgr' : getCell (M ++ [some (.row [] true 1)]) tr o = some (.I r) := by rw [getCell_app htl]; exact hgr
    have h0r : (0 : Int) < ((r :: rs).length : Nat) := by rw [List.length_cons]; omega
    simp (disch := omega) only [hgr', h0r, ↓SXd, SXu, slBounds, ↓sop, ↓aop, ↓reduceIte, LV.cells, AOp.dst, LV.I, LV.B, LV.U, LV.S, LV.nil, Nat.reduceEqDiff, Nat.reduceAdd, Nat.reduceMul, Nat.reduceSub, Nat.reduceLeDiff, Nat.reduceBEq, Nat.reduceDiv, Nat.reduceMod, Int.reduceToNat, Int.reduceLT, Int.reduceLE, Int.reduceAdd, Int.reduceSub, Int.reduceMul, Int.reduceEq, Int.reduceNeg, reduceCtorEq, resV, resAll, ARes.ev, LV.flat, ite_true, ite_false, exists_eq_left', exists_eq_left, keyOf, implies_true, fillC, capOf]
    refine callR_of (h_l4Rows cols.length hcl hr0.1 hr0.2) ?_
    rintro _ N ⟨ua, rfl, hpN, hua, hTa⟩
    simp only [List.length_append, List.length_cons, List.length_nil] at hua hTa
    have hTa0 : ∀ av : List Nat, (∀ a ∈ av, a < M.length) → TabR N ua (rowsL cols.length r) (M.length :: av) := fun av hav => hTa (M.length :: av) fun a ha => by
      rcases List.mem_cons.1 ha with rfl | ha
      · omega
      · have := hav a ha; omega
    rw [htab] at hcount ⊢
    generalize hG : (fun row => if okR cols row then (tabsL rs (subR cols row)).map (row :: ·) else []) = G at hcount ⊢
    generalize rowsL cols.length r = all at hrowl hrowb hrc hTa0 hcount ⊢
    have hpMN : Pre M N := (Pre.app _ _).trans hpN
    have b0 : Live N M.length (.row [] true 1) := Live.new.pre hpN
    simp (disch := omega) only [↓SXd, SXu, slBounds, ↓sop, ↓aop, ↓reduceIte, LV.cells, AOp.dst, LV.I, LV.B, LV.U, LV.S, LV.nil, Nat.reduceEqDiff, Nat.reduceAdd, Nat.reduceMul, Nat.reduceSub, Nat.reduceLeDiff, Nat.reduceBEq, Nat.reduceDiv, Nat.reduceMod, Int.reduceToNat, Int.reduceLT, Int.reduceLE, Int.reduceAdd, Int.reduceSub, Int.reduceMul, Int.reduceEq, Int.reduceNeg, reduceCtorEq, resV, resAll, ARes.ev, LV.flat, ite_true, ite_false, exists_eq_left', exists_eq_left, keyOf, implies_true, fillC, capOf]
    refine ev_loop (fun m fr M' => ∃ (i uo : Nat), i + m = all.length ∧ Pre M M' ∧ M.length ≤ uo ∧ (∀ av : List Nat, (∀ a ∈ av, a < M.length) → TabR M' ua all (uo :: av)) ∧ (∀ av : List Nat, (∀ a ∈ av, a < M.length) → Tab3 M' uo ((all.take i).flatMap G) av) ∧
      fr 0 = .ref tr o (r :: rs).length ∧ fr 1 = .ref tc 0 cols.length ∧ fr 6 = .ref uo 0 ((all.take i).flatMap G).length ∧ fr 7 = .ref ua 0 all.length ∧ fr 8 = .I i) all.length
      ⟨0, M.length, by omega, hpMN, Nat.le_refl _, hTa0, fun av hav => Tab3.nil b0 fun hm => by have := hav _ hm; omega, rfl, rfl, rfl, rfl, rfl⟩ ?_
    clear hTa0 b0 hpMN hgr'
    rintro m fr M' ⟨i, uo, hi, hpre, huo, hTa1, hT3, f0, f1, f6, f7, f8⟩
    simp (disch := omega) only [f0, f1, f6, f7, f8, ↓SXd, SXu, slBounds, ↓sop, ↓aop, ↓reduceIte, LV.cells, AOp.dst, LV.I, LV.B, LV.U, LV.S, LV.nil, Nat.reduceEqDiff, Nat.reduceAdd, Nat.reduceMul, Nat.reduceSub, Nat.reduceLeDiff, Nat.reduceBEq, Nat.reduceDiv, Nat.reduceMod, Int.reduceToNat, Int.reduceLT, Int.reduceLE, Int.reduceAdd, Int.reduceSub, Int.reduceMul, Int.reduceEq, Int.reduceNeg, reduceCtorEq, resV, resAll, ARes.ev, LV.flat, ite_true, ite_false, exists_eq_left', exists_eq_left, keyOf, implies_true, fillC, capOf]
    refine condC_dec (fun hlt => ?_) (fun hlt => ?_)
    rotate_left
    · have : i = all.length := by omega
      subst this
      rw [List.take_length] at hT3 f6
      simp (disch := omega) only [f0, f1, f6, f7, f8, ↓SXd, SXu, slBounds, ↓sop, ↓aop, ↓reduceIte, LV.cells, AOp.dst, LV.I, LV.B, LV.U, LV.S, LV.nil, Nat.reduceEqDiff, Nat.reduceAdd, Nat.reduceMul, Nat.reduceSub, Nat.reduceLeDiff, Nat.reduceBEq, Nat.reduceDiv, Nat.reduceMod, Int.reduceToNat, Int.reduceLT, Int.reduceLE, Int.reduceAdd, Int.reduceSub, Int.reduceMul, Int.reduceEq, Int.reduceNeg, reduceCtorEq, resV, resAll, ARes.ev, LV.flat, ite_true, ite_false, exists_eq_left', exists_eq_left, keyOf, implies_true, fillC, capOf]
      exact ⟨uo, rfl, hpre, huo, hT3⟩
    have hil : i < all.length := by omega
    have hts := take_snocL [] hil
    obtain ⟨w, hgw, hIw, hwn⟩ := TabR.atX hTa1 (by simp) hil
    have hrm := getD_mem' (d := []) hil
    have hrowl1 := hrowl _ hrm
    have hrowb1 := hrowb _ hrm
    have hcnt : ((all.take (i + 1)).flatMap G).length ≤ 65536 := by
      have : (all.take (i + 1)).flatMap G ++ (all.drop (i + 1)).flatMap G = all.flatMap G := by rw [← List.flatMap_append, List.take_append_drop]
      have h2 := congrArg List.length this
      rw [List.length_append] at h2
      omega
    generalize hrow0 : all.getD i [] = row at hts hgw hIw hrowl1 hrowb1
    rw [hts, List.flatMap_append, List.length_append, List.flatMap_singleton] at hcnt
    have hGr : G row = if okR cols row then (tabsL rs (subR cols row)).map (row :: ·) else [] := by rw [← hG]
    have hstep : (all.take (i + 1)).flatMap G = (all.take i).flatMap G ++ G row := by rw [hts, List.flatMap_append, List.flatMap_singleton]
    have hT0 := hT3 [] (by simp)
    have hul := hT0.lt
    have hual := (hTa1 [] (by simp)).lt
    have hpl := hpre.1
    simp (disch := omega) only [f0, f1, f6, f7, f8, ↓SXd, SXu, slBounds, ↓sop, ↓aop, ↓reduceIte, LV.cells, AOp.dst, LV.I, LV.B, LV.U, LV.S, LV.nil, Nat.reduceEqDiff, Nat.reduceAdd, Nat.reduceMul, Nat.reduceSub, Nat.reduceLeDiff, Nat.reduceBEq, Nat.reduceDiv, Nat.reduceMod, Int.reduceToNat, Int.reduceLT, Int.reduceLE, Int.reduceAdd, Int.reduceSub, Int.reduceMul, Int.reduceEq, Int.reduceNeg, reduceCtorEq, resV, resAll, ARes.ev, LV.flat, ite_true, ite_false, exists_eq_left', exists_eq_left, keyOf, implies_true, fillC, capOf]
    refine callK_of (h_l1Own (hI.pre hpre) (by omega)) ?_
    simp (disch := omega) only [f0, f1, f6, f7, f8, ↓SXd, SXu, slBounds, ↓sop, ↓aop, ↓reduceIte, LV.cells, AOp.dst, LV.I, LV.B, LV.U, LV.S, LV.nil, Nat.reduceEqDiff, Nat.reduceAdd, Nat.reduceMul, Nat.reduceSub, Nat.reduceLeDiff, Nat.reduceBEq, Nat.reduceDiv, Nat.reduceMod, Int.reduceToNat, Int.reduceLT, Int.reduceLE, Int.reduceAdd, Int.reduceSub, Int.reduceMul, Int.reduceEq, Int.reduceNeg, reduceCtorEq, resV, resAll, ARes.ev, LV.flat, ite_true, ite_false, exists_eq_left', exists_eq_left, keyOf, implies_true, fillC, capOf]
    refine ev_loop (fun m2 fr M2 => ∃ k : Nat, k + m2 = cols.length ∧ Pre M' M2 ∧ Live M2 M'.length (.row (intL (leftK cols row k)) true 1) ∧
      fr 0 = .ref tr o (r :: rs).length ∧ fr 1 = .ref tc 0 cols.length ∧ fr 6 = .ref uo 0 ((all.take i).flatMap G).length ∧ fr 7 = .ref ua 0 all.length ∧ fr 8 = .I i ∧ fr 9 = .ref M'.length 0 cols.length ∧ fr 10 = .B (okR (cols.take k) (row.take k)) ∧ fr 11 = .I k) cols.length
      ⟨0, by omega, Pre.app _ _, by rw [leftK_zero]; exact Live.new, f0, f1, f6, f7, f8, rfl, by rw [List.take_zero, List.take_zero]; rfl, rfl⟩ ?_
    clear f0 f1 f6 f7 f8 hlt
    rintro m2 fr M2 ⟨k, hk, hp2, bl, f0, f1, f6, f7, f8, f9, f10, f11⟩
    simp (disch := omega) only [f0, f1, f6, f7, f8, f9, f10, f11, ↓SXd, SXu, slBounds, ↓sop, ↓aop, ↓reduceIte, LV.cells, AOp.dst, LV.I, LV.B, LV.U, LV.S, LV.nil, Nat.reduceEqDiff, Nat.reduceAdd, Nat.reduceMul, Nat.reduceSub, Nat.reduceLeDiff, Nat.reduceBEq, Nat.reduceDiv, Nat.reduceMod, Int.reduceToNat, Int.reduceLT, Int.reduceLE, Int.reduceAdd, Int.reduceSub, Int.reduceMul, Int.reduceEq, Int.reduceNeg, reduceCtorEq, resV, resAll, ARes.ev, LV.flat, ite_true, ite_false, exists_eq_left', exists_eq_left, keyOf, implies_true, fillC, capOf]
    refine condC_dec (fun hlt => ?_) (fun hlt => ?_)
    · have hkl : k < cols.length := by omega
      have hgl := Ints.get bl.has (k := k) (by rw [leftK_len hrowl1 (by omega)]; omega)
      rw [Nat.zero_add, leftK_get hrowl1 hkl] at hgl
      have hgw2 : getCell M2 ua i = some (.ref w 0 row.length) := by
        unfold getCell getRow at hgw ⊢
        rw [hp2.2 ua hual]; exact hgw
      have hgr2 := Ints.get (hIw.pre hp2) (k := k) (by omega)
      rw [Nat.zero_add] at hgr2
      have hcb := hc _ (getD_mem' (d := 0) hkl)
      have hrb := hrowb1 _ (getD_mem' (d := 0) (show k < row.length by omega))
      have hls := leftK_succ hrowl1 hkl
      have hos := okR_succ hrowl1 hkl
      have hbl := bl.lt
      have hkr : (k : Int) < (row.length : Nat) := by omega
      generalize cols.getD k 0 = a at hgl hcb hls hos
      generalize row.getD k 0 = b at hgr2 hrb hls hos
      simp (disch := omega) only [f0, f1, f6, f7, f8, f9, f10, f11, hgl, hgw2, hgr2, hkr, Nat.mul_one, Nat.zero_add, ↓SXd, SXu, slBounds, ↓sop, ↓aop, ↓reduceIte, LV.cells, AOp.dst, LV.I, LV.B, LV.U, LV.S, LV.nil, Nat.reduceEqDiff, Nat.reduceAdd, Nat.reduceMul, Nat.reduceSub, Nat.reduceLeDiff, Nat.reduceBEq, Nat.reduceDiv, Nat.reduceMod, Int.reduceToNat, Int.reduceLT, Int.reduceLE, Int.reduceAdd, Int.reduceSub, Int.reduceMul, Int.reduceEq, Int.reduceNeg, reduceCtorEq, resV, resAll, ARes.ev, LV.flat, ite_true, ite_false, exists_eq_left', exists_eq_left, keyOf, implies_true, fillC, capOf]
      refine memK_int bl (by rw [leftK_len hrowl1 (by omega)]; omega) fun N3 k1 k2 k3 => ?_
      rw [← hls] at k2
      have hg3 := Ints.get k2.has (k := k) (by rw [leftK_len hrowl1 (by omega)]; omega)
      rw [Nat.zero_add, hls] at hg3
      have hg3' : getCell N3 M'.length k = some (.I (a - b)) := by
        rw [hg3]
        congr 2
        simp only [List.getD_eq_getElem?_getD]
        rw [List.getElem?_set_self (by rw [leftK_len hrowl1 (by omega)]; omega)]
        rfl
      have hpN3 : Pre M' N3 := pre_step hp2 (Nat.le_refl _) (j := 0) k1 k3
      cases hok : okR (cols.take k) (row.take k) with
      | false =>
        rw [hok, Bool.false_and] at hos
        rw [hok] at f10
        simp (disch := omega) only [f0, f1, f6, f7, f8, f9, f10, f11, hok, ↓SXd, SXu, slBounds, ↓sop, ↓aop, ↓reduceIte, LV.cells, AOp.dst, LV.I, LV.B, LV.U, LV.S, LV.nil, Nat.reduceEqDiff, Nat.reduceAdd, Nat.reduceMul, Nat.reduceSub, Nat.reduceLeDiff, Nat.reduceBEq, Nat.reduceDiv, Nat.reduceMod, Int.reduceToNat, Int.reduceLT, Int.reduceLE, Int.reduceAdd, Int.reduceSub, Int.reduceMul, Int.reduceEq, Int.reduceNeg, reduceCtorEq, resV, resAll, ARes.ev, LV.flat, ite_true, ite_false, exists_eq_left', exists_eq_left, keyOf, implies_true, fillC, capOf]
        exact ⟨m2 - 1, by omega, k + 1, by omega, hpN3, k2, f0, f1, f6, f7, f8, f9, by rw [hos]; rfl, eqI (natI _)⟩
      | true =>
        rw [hok, Bool.true_and] at hos
        rw [hok] at f10
        simp (disch := omega) only [f0, f1, f6, f7, f8, f9, f10, f11, hok, hg3', ↓SXd, SXu, slBounds, ↓sop, ↓aop, ↓reduceIte, LV.cells, AOp.dst, LV.I, LV.B, LV.U, LV.S, LV.nil, Nat.reduceEqDiff, Nat.reduceAdd, Nat.reduceMul, Nat.reduceSub, Nat.reduceLeDiff, Nat.reduceBEq, Nat.reduceDiv, Nat.reduceMod, Int.reduceToNat, Int.reduceLT, Int.reduceLE, Int.reduceAdd, Int.reduceSub, Int.reduceMul, Int.reduceEq, Int.reduceNeg, reduceCtorEq, resV, resAll, ARes.ev, LV.flat, ite_true, ite_false, exists_eq_left', exists_eq_left, keyOf, implies_true, fillC, capOf]
        exact ⟨m2 - 1, by omega, k + 1, by omega, hpN3, k2, f0, f1, f6, f7, f8, f9, by rw [hos]; rfl, eqI (natI _)⟩
    have : k = cols.length := by omega
    subst this
    rw [leftK_all hrowl1] at bl
    rw [List.take_of_length_le (Nat.le_refl _), List.take_of_length_le (by omega)] at f10
    have hT3b : ∀ av : List Nat, (∀ a ∈ av, a < M.length) → Tab3 M2 uo ((all.take i).flatMap G) av := fun av hav => (hT3 av hav).pre hp2
    have hTab : ∀ av : List Nat, (∀ a ∈ av, a < M.length) → TabR M2 ua all (uo :: av) := fun av hav => (hTa1 av hav).pre hp2
    have hp2l := hp2.1
    have hbl := bl.lt
    cases hok : okR cols row with
    | false =>
      rw [hok, if_neg (by simp)] at hGr
      rw [hok] at f10
      simp (disch := omega) only [f0, f1, f6, f7, f8, f9, f10, f11, ↓SXd, SXu, slBounds, ↓sop, ↓aop, ↓reduceIte, LV.cells, AOp.dst, LV.I, LV.B, LV.U, LV.S, LV.nil, Nat.reduceEqDiff, Nat.reduceAdd, Nat.reduceMul, Nat.reduceSub, Nat.reduceLeDiff, Nat.reduceBEq, Nat.reduceDiv, Nat.reduceMod, Int.reduceToNat, Int.reduceLT, Int.reduceLE, Int.reduceAdd, Int.reduceSub, Int.reduceMul, Int.reduceEq, Int.reduceNeg, reduceCtorEq, resV, resAll, ARes.ev, LV.flat, ite_true, ite_false, exists_eq_left', exists_eq_left, keyOf, implies_true, fillC, capOf]
      exact ⟨m - 1, by omega, i + 1, uo, by omega, hpre.trans hp2, huo, hTab, by rw [hstep, hGr, List.append_nil]; exact hT3b, f0, f1, by rw [hstep, hGr, List.append_nil]; exact f6, f7, eqI (natI _)⟩
    | true =>
      rw [hok, if_pos rfl] at hGr
      rw [hok] at f10
      have hsl := subR_len (B := cols) (row := row) hrowl1
      have hcnr := hcr (subR cols row) hsl
      have hrec := h_l4Tables rs (R0 := R0) (cols := subR cols row) (tr := tr) (o := o + 1) (tc := M'.length) (M := M2) (by omega) (by omega) (fun a ha => ⟨okR_nonneg hok a ha, subR_bound (b := 1000) (fun a ha => (hc a ha).2) (fun a ha => by rcases hrowb1 a ha with h | h <;> omega) a ha⟩) (fun a ha => hr a (by simp [ha])) ((hR.pre hpre).pre hp2) (by
        have := congrArg List.tail hro
        rwa [List.tail_drop] at this) bl.has
      have hesz := ((hR.pre hpre).pre hp2).getE
      have h1l : (1 : Int) ≤ ((r :: rs).length : Nat) := by rw [List.length_cons]; omega
      have hln : (((r :: rs).length : Nat) : Int).toNat - 1 = rs.length := by simp
      have hln2 : (r :: rs).length - 1 = rs.length := by simp
      rw [hsl] at hrec
      simp (disch := omega) only [f0, f1, f6, f7, f8, f9, f10, f11, hesz, h1l, hln, hln2, if_true, ite_true, ↓SXd, SXu, slBounds, ↓sop, ↓aop, ↓reduceIte, LV.cells, AOp.dst, LV.I, LV.B, LV.U, LV.S, LV.nil, Nat.reduceEqDiff, Nat.reduceAdd, Nat.reduceMul, Nat.reduceSub, Nat.reduceLeDiff, Nat.reduceBEq, Nat.reduceDiv, Nat.reduceMod, Int.reduceToNat, Int.reduceLT, Int.reduceLE, Int.reduceAdd, Int.reduceSub, Int.reduceMul, Int.reduceEq, Int.reduceNeg, reduceCtorEq, resV, resAll, ARes.ev, LV.flat, ite_true, ite_false, exists_eq_left', exists_eq_left, keyOf, implies_true, fillC, capOf]
      refine callR_of hrec ?_
      rintro _ N0 ⟨ur, rfl, hp0, hur, hTR⟩
      have hp0l := hp0.1
      have hMN0 : Pre M N0 := (hpre.trans hp2).trans hp0
      have hTR0 : ∀ av : List Nat, (∀ a ∈ av, a < M.length) → Tab3 N0 ur (tabsL rs (subR cols row)) (uo :: av) := fun av hav => hTR (uo :: av) fun a ha => by
        rcases List.mem_cons.1 ha with rfl | ha
        · omega
        · have := hav a ha; omega
      have hw0 : Ints N0 w 0 row := (hIw.pre hp2).pre hp0
      have hgR : (G row).length = (tabsL rs (subR cols row)).length := by rw [hGr, List.length_map]
      have hpl0 := hpre.1
      have hrl2 : ∀ T ∈ tabsL rs (subR cols row), T.length ≤ 4 := fun T hT => by rw [(tabsL_mem hsl hT).1]; omega
      generalize tabsL rs (subR cols row) = rest at hTR0 hGr hgR hrl2
      clear hTR hrec hcnr
      simp (disch := omega) only [f0, f1, f6, f7, f8, f9, f10, f11, ↓SXd, SXu, slBounds, ↓sop, ↓aop, ↓reduceIte, LV.cells, AOp.dst, LV.I, LV.B, LV.U, LV.S, LV.nil, Nat.reduceEqDiff, Nat.reduceAdd, Nat.reduceMul, Nat.reduceSub, Nat.reduceLeDiff, Nat.reduceBEq, Nat.reduceDiv, Nat.reduceMod, Int.reduceToNat, Int.reduceLT, Int.reduceLE, Int.reduceAdd, Int.reduceSub, Int.reduceMul, Int.reduceEq, Int.reduceNeg, reduceCtorEq, resV, resAll, ARes.ev, LV.flat, ite_true, ite_false, exists_eq_left', exists_eq_left, keyOf, implies_true, fillC, capOf]
      refine ev_loop (fun m3 fr M3 => ∃ (k uo : Nat), k + m3 = rest.length ∧ Pre M M3 ∧ M.length ≤ uo ∧ (∀ av : List Nat, (∀ a ∈ av, a < M.length) → TabR M3 ua all (uo :: av)) ∧ (∀ av : List Nat, (∀ a ∈ av, a < M.length) → Tab3 M3 ur rest (uo :: av)) ∧ (∀ av : List Nat, (∀ a ∈ av, a < M.length) → Tab3 M3 uo ((all.take i).flatMap G ++ (rest.take k).map (row :: ·)) av) ∧
        fr 0 = .ref tr o (r :: rs).length ∧ fr 1 = .ref tc 0 cols.length ∧ fr 6 = .ref uo 0 ((all.take i).flatMap G ++ (rest.take k).map (row :: ·)).length ∧ fr 7 = .ref ua 0 all.length ∧ fr 8 = .I i ∧ fr 12 = .ref ur 0 rest.length ∧ fr 13 = .I k) rest.length
        ⟨0, uo, by omega, hMN0, huo, fun av hav => (hTab av hav).pre hp0, hTR0, fun av hav => by rw [List.take_zero, List.map_nil, List.append_nil]; exact (hT3b av hav).pre hp0, f0, f1, by rw [List.take_zero, List.map_nil, List.append_nil]; exact f6, f7, f8, rfl, rfl⟩ ?_
      clear f0 f1 f6 f7 f8 f9 f10 f11 hTa1 hT3 hT3b hTab hT0 hul hp2l hgw hIw hwn hTR0 hpre huo hw0 bl
      rintro m3 fr M3 ⟨k, uo, hk, hpre, huo, hTa1, hTR, hT3, f0, f1, f6, f7, f8, f12, f13⟩
      simp (disch := omega) only [f0, f1, f6, f7, f8, f12, f13, ↓SXd, SXu, slBounds, ↓sop, ↓aop, ↓reduceIte, LV.cells, AOp.dst, LV.I, LV.B, LV.U, LV.S, LV.nil, Nat.reduceEqDiff, Nat.reduceAdd, Nat.reduceMul, Nat.reduceSub, Nat.reduceLeDiff, Nat.reduceBEq, Nat.reduceDiv, Nat.reduceMod, Int.reduceToNat, Int.reduceLT, Int.reduceLE, Int.reduceAdd, Int.reduceSub, Int.reduceMul, Int.reduceEq, Int.reduceNeg, reduceCtorEq, resV, resAll, ARes.ev, LV.flat, ite_true, ite_false, exists_eq_left', exists_eq_left, keyOf, implies_true, fillC, capOf]
      refine condC_dec (fun hlt => ?_) (fun hlt => ?_)
      rotate_left
      · have : k = rest.length := by omega
        subst this
        rw [List.take_length, ← hGr, ← hstep] at hT3 f6
        simp (disch := omega) only [f0, f1, f6, f7, f8, f12, f13, ↓SXd, SXu, slBounds, ↓sop, ↓aop, ↓reduceIte, LV.cells, AOp.dst, LV.I, LV.B, LV.U, LV.S, LV.nil, Nat.reduceEqDiff, Nat.reduceAdd, Nat.reduceMul, Nat.reduceSub, Nat.reduceLeDiff, Nat.reduceBEq, Nat.reduceDiv, Nat.reduceMod, Int.reduceToNat, Int.reduceLT, Int.reduceLE, Int.reduceAdd, Int.reduceSub, Int.reduceMul, Int.reduceEq, Int.reduceNeg, reduceCtorEq, resV, resAll, ARes.ev, LV.flat, ite_true, ite_false, exists_eq_left', exists_eq_left, keyOf, implies_true, fillC, capOf]
        exact ⟨m - 1, by omega, i + 1, uo, by omega, hpre, huo, hTa1, hT3, f0, f1, f6, f7, eqI (natI _)⟩
      have hkl : k < rest.length := by omega
      obtain ⟨w, hgw, hIw, hwn⟩ := TabR.atX hTa1 (by simp) hil
      obtain ⟨v, hgv, hTv⟩ := Tab3.atX hTR (by simp) hkl
      have hts3 := take_snocL [] hkl
      have hrow : all.getD i [] = row := hrow0
      rw [hrow] at hgw hIw
      have hTc := hT3 [] (by simp)
      have hul := hTc.lt
      have hpl := hpre.1
      have hual := (hTa1 [] (by simp)).lt
      have hurl := (hTR [] (by simp)).lt
      have hvl := (hTv [] (by simp)).lt
      have hwl := hIw.lt
      have hln1 : ((all.take i).flatMap G ++ (rest.take k).map (row :: ·)).length + 1 ≤ 65536 := by
        rw [List.length_append, List.length_map]
        have := List.length_take_le k rest
        have : (rest.take k).length = k := by rw [List.length_take]; omega
        omega
      have hll : (rest.getD k []).length ≤ 4 := hrl2 _ (getD_mem' (d := []) hkl)
      have hstep3 : (all.take i).flatMap G ++ (rest.take (k + 1)).map (row :: ·) = ((all.take i).flatMap G ++ (rest.take k).map (row :: ·)) ++ [row :: rest.getD k []] := by rw [hts3, List.map_append, List.append_assoc]; rfl
      generalize rest.getD k [] = tb at hgv hTv hstep3 hll
      generalize (all.take i).flatMap G ++ (rest.take k).map (row :: ·) = acc at *
      have hgv' : getCell M3 ur k = some (.ref v 0 tb.length) := hgv
      have hkb : (k : Int) < (rest.length : Nat) := by omega
      simp (disch := omega) only [f0, f1, f6, f7, f8, f12, f13, hgw, hgv', Nat.mul_one, Nat.zero_add, ↓SXd, SXu, slBounds, ↓sop, ↓aop, ↓reduceIte, LV.cells, AOp.dst, LV.I, LV.B, LV.U, LV.S, LV.nil, Nat.reduceEqDiff, Nat.reduceAdd, Nat.reduceMul, Nat.reduceSub, Nat.reduceLeDiff, Nat.reduceBEq, Nat.reduceDiv, Nat.reduceMod, Int.reduceToNat, Int.reduceLT, Int.reduceLE, Int.reduceAdd, Int.reduceSub, Int.reduceMul, Int.reduceEq, Int.reduceNeg, reduceCtorEq, resV, resAll, ARes.ev, LV.flat, ite_true, ite_false, exists_eq_left', exists_eq_left, keyOf, implies_true, fillC, capOf]
      have hA1 : ∀ av : List Nat, (∀ a ∈ av, a < M.length) → TabR (M3 ++ [some (.row [.ref w 0 row.length] true 1)]) M3.length [row] (uo :: av) := fun av hav => tabR_one hIw (hwn av hav) fun a ha => by
        rcases List.mem_cons.1 ha with rfl | ha
        · omega
        · have := hav a ha; omega
      have hv1 : ∀ av : List Nat, (∀ a ∈ av, a < M.length) → TabR (M3 ++ [some (.row [.ref w 0 row.length] true 1)]) v tb (M3.length :: uo :: av) := fun av hav => (hTv av hav).keep (fun q _ hq => List.getElem?_append_left hq) fun q hq => by
        rcases List.mem_cons.1 hq with rfl | hq
        · exact .inr (Nat.le_refl _)
        · exact .inl (by simp [hq])
      have hcl1 : [row].length + tb.length ≤ 1000000000000 := by simp only [List.length_singleton]; omega
      refine appendK_tabs (L := [row]) ((hA1 [] (by simp)).less (by simp)) ((hv1 [] (by simp)).less (by simp)) hcl1 fun u4 N4 k1 k2 k3 k4 => ?_
      simp only [List.length_append, List.length_singleton] at k1 k3 k4
      have hT4 : ∀ av : List Nat, (∀ a ∈ av, a < M.length) → TabR N4 u4 (row :: tb) (uo :: av) := fun av hav => k2 (uo :: av) (hA1 av hav) (hv1 av hav) fun a ha => by
        simp only [List.length_append, List.length_singleton]
        rcases List.mem_cons.1 ha with rfl | ha
        · omega
        · have := hav a ha; omega
      have hk4 : ∀ q, q < M3.length → N4[q]? = M3[q]? := fun q hq => by rw [k4 q (by omega) (by omega), List.getElem?_append_left hq]
      have hP4 : Pre M3 N4 := ⟨by omega, hk4⟩
      have hlx : [row].length + tb.length = (row :: tb).length := by simp; omega
      rw [hlx]
      simp (disch := omega) only [f0, f1, f6, f7, f8, f12, f13, ↓SXd, SXu, slBounds, ↓sop, ↓aop, ↓reduceIte, LV.cells, AOp.dst, LV.I, LV.B, LV.U, LV.S, LV.nil, Nat.reduceEqDiff, Nat.reduceAdd, Nat.reduceMul, Nat.reduceSub, Nat.reduceLeDiff, Nat.reduceBEq, Nat.reduceDiv, Nat.reduceMod, Int.reduceToNat, Int.reduceLT, Int.reduceLE, Int.reduceAdd, Int.reduceSub, Int.reduceMul, Int.reduceEq, Int.reduceNeg, reduceCtorEq, resV, resAll, ARes.ev, LV.flat, ite_true, ite_false, exists_eq_left', exists_eq_left, keyOf, implies_true, fillC, capOf]
      have hone : ∀ av : List Nat, (∀ a ∈ av, a < M.length) → Tab3 (N4 ++ [some (.row [.ref u4 0 (row :: tb).length] true 1)]) N4.length [row :: tb] (uo :: av) := fun av hav => tab3_one (hT4 av hav) fun a ha => by
        rcases List.mem_cons.1 ha with rfl | ha
        · omega
        · have := hav a ha; omega
      have hone1 : [row :: tb].length = 1 := rfl
      have hacc : ∀ av : List Nat, (∀ a ∈ av, a < M.length) → Tab3 (N4 ++ [some (.row [.ref u4 0 (row :: tb).length] true 1)]) uo acc av := fun av hav => (hT3 av hav).pre (hP4.trans (Pre.app _ _))
      refine appendK_tab3 (L2 := [row :: tb]) (hacc [] (by simp)) (hone [] (by simp)) (by omega) fun u6 N6 l1 l2 l3 l4 => ?_
      simp only [List.length_append, List.length_singleton] at l1 l3 l4
      simp (disch := omega) only [f0, f1, f6, f7, f8, f12, f13, ↓SXd, SXu, slBounds, ↓sop, ↓aop, ↓reduceIte, LV.cells, AOp.dst, LV.I, LV.B, LV.U, LV.S, LV.nil, Nat.reduceEqDiff, Nat.reduceAdd, Nat.reduceMul, Nat.reduceSub, Nat.reduceLeDiff, Nat.reduceBEq, Nat.reduceDiv, Nat.reduceMod, Int.reduceToNat, Int.reduceLT, Int.reduceLE, Int.reduceAdd, Int.reduceSub, Int.reduceMul, Int.reduceEq, Int.reduceNeg, reduceCtorEq, resV, resAll, ARes.ev, LV.flat, ite_true, ite_false, exists_eq_left', exists_eq_left, keyOf, implies_true, fillC, capOf]
      have hk6 : ∀ q, q ≠ uo → q < M3.length → N6[q]? = M3[q]? := fun q q1 q2 => by rw [l4 q q1 (by omega), List.getElem?_append_left (by omega)]; exact hk4 q q2
      refine ⟨m3 - 1, by omega, k + 1, u6, by omega, ⟨by omega, fun q hq => by rw [hk6 q (by omega) (by omega)]; exact hpre.2 q hq⟩, by omega, fun av hav => (hTa1 av hav).keep (fun q q1 q2 => hk6 q (fun e => q1 (by simp [e])) q2) fun q hq => ?_, fun av hav => (hTR av hav).keep (fun q q1 q2 => hk6 q (fun e => q1 (by simp [e])) q2) fun q hq => ?_, fun av hav => ?_, f0, f1, ?_, f7, f8, f12, eqI (natI _)⟩
      · rcases List.mem_cons.1 hq with rfl | hq
        · rcases l3 with rfl | l3
          · exact .inl (by simp)
          · exact .inr (by omega)
        · exact .inl (by simp [hq])
      · rcases List.mem_cons.1 hq with rfl | hq
        · rcases l3 with rfl | l3
          · exact .inl (by simp)
          · exact .inr (by omega)
        · exact .inl (by simp [hq])
      · rw [hstep3]
        exact l2 av (hacc av hav) (hone av hav) fun a ha => by
          have := hav a ha
          simp only [List.length_append, List.length_singleton]; omega
      · rw [hstep3]; simp only [List.length_append, List.length_singleton]; rfl
end Go.Ab

/- The abstract code of some functions (written by a program of mine from the translation, by way of prepF). -/
namespace Go.Ab.C
open Go.Ab
def spec_l2Layer : AFn :=
 ⟨3, 59, [.tmp 6],
 .seq (.ops [(none, .box 3 (.t 0)),
 (none, .mv 6 (.c .nil))])
 (.seq (.ops [(none, .mv 15 (.t 1)),
 (none, .call (some 16) F.spec_l2Others [(.t 15)]),
 (none, .mv 14 (.t 16)),
 (none, .extract 17 (.t 14) 0),
 (none, .extract 18 (.t 14) 1),
 (none, .mv 7 (.t 17)),
 (none, .mv 8 (.t 18))])
 (.seq (.ops [(none, .buildSl 19 0 1 [] []),
 (none, .mv 9 (.t 19))])
 (.seq (.seq (.ops [(none, .mv 10 (.c (.I 0)))])
 (.block 0 (.loop (.seq (.seq (.ops [(none, .mv 20 (.t 10)),
 (none, .loadN 21 4 (.t 3)),
 (none, .mv 22 (.t 7)),
 (none, .call (some 23) F.spec_l2Long [(.t 21), (.t 22)]),
 (none, .bin 24 .lss (.t 20) (.t 23))])
 (.cond (.t 24) (.skip)
 (.exit 0)))
 (.seq (.block 1 (.seq (.ops [(none, .buildSl 27 0 1 [] []),
 (none, .mv 11 (.t 27))])
 (.seq (.seq (.ops [(none, .mv 12 (.c (.I 0)))])
 (.block 2 (.loop (.seq (.seq (.ops [(none, .mv 28 (.t 12)),
 (none, .loadN 29 4 (.t 3)),
 (none, .mv 30 (.t 8)),
 (none, .call (some 31) F.spec_l2Long [(.t 29), (.t 30)]),
 (none, .bin 32 .lss (.t 28) (.t 31))])
 (.cond (.t 32) (.skip)
 (.exit 2)))
 (.seq (.block 3 (.seq (.ops [(none, .build 35 [(.I 0), (.I 0), (.I 0)] []),
 (none, .alloc 13 [(.I 0), (.I 0), (.I 0)]),
 (none, .store 3 (.t 13) (.t 35))])
 (.seq (.ops [(none, .mv 36 (.t 1)),
 (none, .mv 37 (.t 2)),
 (none, .idxA 38 3 1 (.t 13) (.t 36)),
 (none, .store 1 (.t 38) (.t 37))])
 (.seq (.ops [(none, .mv 39 (.t 7)),
 (none, .mv 40 (.t 10)),
 (none, .idxA 41 3 1 (.t 13) (.t 39)),
 (none, .store 1 (.t 41) (.t 40))])
 (.seq (.ops [(none, .mv 42 (.t 8)),
 (none, .mv 43 (.t 12)),
 (none, .idxA 44 3 1 (.t 13) (.t 42)),
 (none, .store 1 (.t 44) (.t 43))])
 (.seq (.ops [(none, .loadN 45 4 (.t 3)),
 (none, .loadN 46 3 (.t 13)),
 (none, .call (some 47) F.spec_l2Has [(.t 45), (.t 46)])])
 (.cond (.t 47) (.ops [(none, .mv 48 (.t 11)),
 (none, .buildSl 49 1 1 [(.I 0)] [(0, 1, (.c (.I 1)))]),
 (none, .append 50 1 8 (.t 48) (.t 49)),
 (none, .mv 11 (.t 50))])
 (.ops [(none, .mv 51 (.t 11)),
 (none, .buildSl 52 1 1 [(.I 0)] [(0, 1, (.c (.I 0)))]),
 (none, .append 53 1 8 (.t 51) (.t 52)),
 (none, .mv 11 (.t 53))]))))))))
 (.ops [(none, .mv 33 (.t 12)),
 (none, .bin 34 .add (.t 33) (.c (.I 1))),
 (none, .mv 12 (.t 34))]))))))
 (.ops [(none, .mv 54 (.t 9)),
 (none, .mv 55 (.t 11)),
 (none, .buildSl 56 1 1 [.nil] [(0, 1, (.t 55))]),
 (none, .append 57 1 24 (.t 54) (.t 56)),
 (none, .mv 9 (.t 57))]))))
 (.ops [(none, .mv 25 (.t 10)),
 (none, .bin 26 .add (.t 25) (.c (.I 1))),
 (none, .mv 10 (.t 26))]))))))
 (.seq (.ops [(none, .mv 58 (.t 9)),
 (none, .mv 6 (.t 58))])
 (.ret)))))⟩
end Go.Ab.C

/- That the program has this code. -/
namespace Go.Ab.K
open Go Go.Ab
theorem spec_l2Layer : prepF Go.Proofs.Try.prog F.spec_l2Layer = some C.spec_l2Layer := by kernel_rfl
end Go.Ab.K

/- The abstract code of some functions (written by a program of mine from the translation, by way of prepF). -/
namespace Go.Ab.C
open Go.Ab
end Go.Ab.C

/- That the program has this code. -/
namespace Go.Ab.K
open Go Go.Ab
end Go.Ab.K

/- The abstract code of some functions (written by a program of mine from the translation, by way of prepF). -/
namespace Go.Ab.C
open Go.Ab
end Go.Ab.C

/- That the program has this code. -/
namespace Go.Ab.K
open Go Go.Ab
end Go.Ab.K

/- The abstract code of some functions (written by a program of mine from the translation, by way of prepF). -/
namespace Go.Ab.C
open Go.Ab
end Go.Ab.C

/- That the program has this code. -/
namespace Go.Ab.K
open Go Go.Ab
end Go.Ab.K

/- The abstract code of some functions (written by a program of mine from the translation, by way of prepF). -/
namespace Go.Ab.C
open Go.Ab
end Go.Ab.C

/- That the program has this code. -/
namespace Go.Ab.K
open Go Go.Ab
end Go.Ab.K

/- Plain words: bare faces; they stay when a heap is turned. -/
namespace Go.Ab
open Go
set_option linter.unusedVariables false
set_option linter.unusedSimpArgs false
set_option maxRecDepth 20000

/-- The cell beyond a face. -/
def nbC (c : Cell) (f : Nat) : Cell := ⟨c.a + if f = 0 then -1 else if f = 1 then 1 else 0, c.b + if f = 2 then -1 else if f = 3 then 1 else 0, c.c + if f = 4 then -1 else if f = 5 then 1 else 0⟩
def bareN (S : List Cell) (c : Cell) : Nat := (List.range 6).countP fun f => decide (nbC c f ∉ S)
/-- The bare faces of one kind. -/
def faceN (cs : List Cell) (f : Nat) : Nat := cs.countP fun c => decide (nbC c f ∉ cs)
def surfN (cs : List Cell) : Nat := ((List.range 6).map (faceN cs)).sum
/-- The face of a cell that a turn brings to a face. -/
def sigT (T : Turn) (f : Nat) : Nat := (T.fr.at (f / 2 : Nat)).toNat * 2 + (xorI ((f % 2 : Nat) : Int) (T.fl.at (f / 2 : Nat))).toNat
end Go.Ab

/- Plain: faces of heaps, of filled heaps, and shadows. -/
namespace Go.Ab
open Go
set_option linter.unusedSimpArgs false
set_option linter.unusedVariables false
set_option maxRecDepth 20000

def oppF (f : Nat) : Nat := if f % 2 = 0 then f + 1 else f - 1
theorem six {f : Nat} (hf : f < 6) : f = 0 ∨ f = 1 ∨ f = 2 ∨ f = 3 ∨ f = 4 ∨ f = 5 := by omega
def nearN (cs : List Cell) (c : Cell) : Nat := (List.range 6).countP fun f => decide (nbC c f ∈ cs)
def nearSum (cs : List Cell) : Nat := (cs.map (nearN cs)).sum
section
variable {x y z : Int} {cs : List Cell} (hH : HeapOK x y z cs)
/-- All cells of the heap or enclosed. -/
noncomputable def filL (x y z : Int) (cs : List Cell) : List Cell := pick x y z fun c => decide (c ∈ cs) || closed x y z (fun c => decide (c ∈ cs)) c
include hH
omit hH in
end
end Go.Ab

/- Contracts: the reference's bare and outside faces. -/
namespace Go.Ab
open Go
set_option linter.unusedSimpArgs false
set_option linter.unusedVariables false
set_option maxRecDepth 20000

/-- Counters of six kinds, behind some cells and some faces of the next one. -/
def cntQ (p : Cell → Nat → Bool) (cs : List Cell) (i d f : Nat) : Nat := (cs.take i).countP (fun c => p c f) + if f < d ∧ p (cs.getD i default) f = true then 1 else 0
def rowQ (p : Cell → Nat → Bool) (cs : List Cell) (i d : Nat) : List LV := (List.range 6).map fun (f : Nat) => LV.I ((cntQ p cs i d f : Nat) : Int)
section
variable {p : Cell → Nat → Bool} {cs : List Cell} {i d f : Nat}
end
/-- A face beyond which there is neither a cube nor a hidden cell. -/
def bareP (cs es : List Cell) (c : Cell) (f : Nat) : Bool := decide (nbC c f ∉ cs) && decide (nbC c f ∉ es)
def bareC (cs es : List Cell) (f : Nat) : Nat := cs.countP fun c => bareP cs es c f
section
variable {x y z : Int} {t : Nat} {w : Bool} {cs : List Cell} {M : Mem} (h : Live M t (.row (triL cs) w 3)) (hn : cs.length ≤ 1000000000)
include h hn
def faceV (cs : List Cell) : List LV := [.I (faceN cs 0 : Nat), .I (faceN cs 1 : Nat), .I (faceN cs 2 : Nat), .I (faceN cs 3 : Nat), .I (faceN cs 4 : Nat), .I (faceN cs 5 : Nat)]
end
end Go.Ab

/- The abstract code of some functions (written by a program of mine from the translation, by way of prepF). -/
namespace Go.Ab.C
open Go.Ab
end Go.Ab.C

/- That the program has this code. -/
namespace Go.Ab.K
open Go Go.Ab
end Go.Ab.K

/- Contracts: the program's bare faces and surface. -/
namespace Go.Ab
open Go
set_option linter.unusedSimpArgs false
set_option linter.unusedVariables false
set_option maxRecDepth 20000

def cntR (cs : List Cell) (i d f : Nat) : Nat := (cs.take i).countP (fun c => decide (nbC c f ∉ cs)) + if f < d ∧ nbC (cs.getD i default) f ∉ cs then 1 else 0
def rowF (cs : List Cell) (i d : Nat) : List LV := (List.range 6).map fun (f : Nat) => LV.I ((cntR cs i d f : Nat) : Int)
/-- What SurfaceOf answers. -/
noncomputable def surfOf (x y z : Int) (cs : List Cell) : Option Nat := by
  classical
  exact if HeapOK x y z cs then some (surfN cs) else none
end Go.Ab

/- The abstract code of some functions (written by a program of mine from the translation, by way of prepF). -/
namespace Go.Ab.C
open Go.Ab
end Go.Ab.C

/- That the program has this code. -/
namespace Go.Ab.K
open Go Go.Ab
end Go.Ab.K

/- Contracts: the reference's FillCavities. -/
namespace Go.Ab
open Go
set_option linter.unusedSimpArgs false
set_option linter.unusedVariables false

end Go.Ab

/- Contracts: touching faces, both sides; the program's bare and outside faces. -/
namespace Go.Ab
open Go
set_option linter.unusedSimpArgs false
set_option linter.unusedVariables false
set_option maxRecDepth 20000

/-- What the first cells have. -/
def sumK (f : Cell → Nat) (cs : List Cell) (k : Nat) : Nat := ((cs.take k).map f).sum
section
variable {x y z : Int} {t : Nat} {w : Bool} {cs : List Cell} {M : Mem} (h : Live M t (.row (triL cs) w 3))
include h
end
end Go.Ab

/- Plain: the square of the number of cubes is at most the product of the three shadows. -/
namespace Go.Ab
open Go
set_option linter.unusedSimpArgs false
set_option linter.unusedVariables false
set_option maxRecDepth 20000

section
variable {x y z : Int}
/-- How many cells lie on a line. -/
def lineN (y z : Int) (d : Nat) (cs : List Cell) (i : Nat) : Nat := cs.countP (onLine y z d i)
theorem view_range {d : Nat} {cs : List Cell} : viewL x y z d cs = (List.range (linesOf x y z d).toNat).map fun i => ((lineN y z d cs i : Nat) : Int) := by
  refine int_ext (by rw [viewL_len]; simp) fun j hj => ?_
  rw [viewL_len] at hj
  rw [viewL_get hj]
  simp [hj, lineN]
/-- The lit lines of a direction. -/
def litX (x y z : Int) (d : Nat) (cs : List Cell) : List Nat := (List.range (linesOf x y z d).toNat).filter fun i => decide (0 < lineN y z d cs i)
theorem sub_len {α : Type} [DecidableEq α] {l l' : List α} (h : l.Nodup) (h' : l'.Nodup) (hs : ∀ a ∈ l, a ∈ l') : l.length ≤ l'.length := by
  have hp : l.Perm (l'.filter fun a => decide (a ∈ l)) := (List.perm_ext_iff_of_nodup h (h'.filter _)).2 fun a => by
    rw [List.mem_filter, decide_eq_true_iff]
    exact ⟨fun e => ⟨hs a e, e⟩, fun e => e.2⟩
  rw [hp.length_eq]
  exact List.length_filter_le _ _
end
end Go.Ab

/- Contracts: bare squares by lines, both sides. -/
namespace Go.Ab
open Go
set_option linter.unusedSimpArgs false
set_option linter.unusedVariables false
set_option maxRecDepth 20000

/-- A number is added at a place of a list. -/
def addAt (v : List Int) (j : Nat) (a : Int) : List Int := v.set j (v.getD j 0 + a)
/-- Each cell's weight is added to its line. -/
def sqStep (y z : Int) (d : Nat) (g : Cell → Nat) (v : List Int) (c : Cell) : List Int := addAt v (lineOf y z c d).toNat (g c)
def sqF (x y z : Int) (d : Nat) (g : Cell → Nat) (l : List Cell) : List Int := l.foldl (sqStep y z d g) (List.replicate (linesOf x y z d).toNat 0)
section
variable {x y z : Int} {d : Nat} {g : Cell → Nat}
end
/-- The ends of stretches count twice. -/
def gEnd (cs : List Cell) (d : Nat) (c : Cell) : Nat := if nbC c (2 * d + 1) ∉ cs then 2 else 0
/-- The first faces of two count. -/
def gTwo (cs : List Cell) (d e : Nat) (c : Cell) : Nat := (List.range e).countP fun f => decide (nbC c (2 * d + f) ∉ cs)
section
variable {x y z : Int} {d : Nat} {cs : List Cell} (hH : HeapOK x y z cs) (hd : d < 3)
include hH hd
end
/-- What BareSquares answers. -/
noncomputable def sqrOf (x y z : Int) (cs : List Cell) (d : Int) : List Int := by
  classical
  exact if HeapOK x y z cs ∧ Dir d then sqF x y z d.toNat (gEnd cs d.toNat) cs else []
noncomputable def sqrB (x y z : Int) (cs : List Cell) (d : Int) : Bool := by
  classical
  exact decide (HeapOK x y z cs ∧ Dir d)
/-- A list of numbers that may be read, and a truth. -/
def IntsG (M : Mem) (l : List Int) (b : Bool) (v : LV) (N : Mem) : Prop := ∃ w, v = .tup [w, .B b] ∧ IntsV N w l ∧ Pre M N
section
variable {x y z : Int} {t : Nat} {w : Bool} {cs : List Cell} {M : Mem} (h : Live M t (.row (triL cs) w 3))
include h
end
end Go.Ab

/- The abstract code of some functions (written by a program of mine from the translation, by way of prepF). -/
namespace Go.Ab.C
open Go.Ab
def impl_ViewOf : AFn :=
 ⟨2, 20, [.tmp 4, .tmp 5],
 .seq (.ops [(none, .box 2 (.t 0)),
 (none, .mv 4 (.c .nil)),
 (none, .mv 5 (.c (.B false)))])
 (.seq (.seq (.ops [(none, .loadN 6 4 (.t 2)),
 (none, .call (some 7) F.impl_IsHeap [(.t 6)]),
 (none, .un 8 .not (.t 7)),
 (none, .mv 9 (.t 8)),
 (some (9, false), .mv 10 (.t 1)),
 (some (9, false), .call (some 11) F.impl_isDirection [(.t 10)]),
 (some (9, false), .un 12 .not (.t 11)),
 (none, .pick 13 (.t 9) (.c (.B true)) (.t 12))])
 (.cond (.t 13) (.seq (.ops [(none, .mv 4 (.c .nil)),
 (none, .mv 5 (.c (.B false)))])
 (.ret))
 (.skip)))
 (.seq (.draw [⟨(none, .loadN 14 4 (.t 2)), [], []⟩,
 ⟨(none, .loadN 16 4 (.t 2)), [], []⟩,
 ⟨(none, .mv 18 (.t 1)), [], []⟩,
 ⟨(none, .call (some 15) F.impl_Heap_box [(.t 14)]), [], [1, 2]⟩,
 ⟨(none, .call (some 17) F.impl_Heap_cubes [(.t 16)]), [], [2]⟩,
 ⟨(none, .call (some 19) F.impl_box_view [(.t 15), (.t 17), (.t 18)]), [], []⟩,
 ⟨(none, .mv 4 (.t 19)), [], []⟩,
 ⟨(none, .mv 5 (.c (.B true))), [], []⟩])
 (.ret)))⟩
end Go.Ab.C

/- That the program has this code. -/
namespace Go.Ab.K
open Go Go.Ab
theorem impl_ViewOf : prepF Go.Proofs.Try.prog F.impl_ViewOf = some C.impl_ViewOf := by kernel_rfl
end Go.Ab.K

/- The code of ViewOf. -/
namespace Go.Ab
end Go.Ab

/- The abstract code of some functions (written by a program of mine from the translation, by way of prepF). -/
namespace Go.Ab.C
open Go.Ab
end Go.Ab.C

/- That the program has this code. -/
namespace Go.Ab.K
open Go Go.Ab
end Go.Ab.K

/- The abstract code of some functions (written by a program of mine from the translation, by way of prepF). -/
namespace Go.Ab.C
open Go.Ab
end Go.Ab.C

/- That the program has this code. -/
namespace Go.Ab.K
open Go Go.Ab
end Go.Ab.K

/- Contracts: the reference's mirrored, other, cropped, widened and shifted heaps. -/
namespace Go.Ab
open Go
set_option linter.unusedSimpArgs false
set_option linter.unusedVariables false
set_option maxRecDepth 20000

section
variable {x y z : Int} {t : Nat} {w : Bool} {cs : List Cell} {M : Mem} (h : Live M t (.row (triL cs) w 3)) (hn : cs.length ≤ 1000000000)
include h hn
end
end Go.Ab

/- Contracts: shadows that fit together, greatest heaps, bounds, clean shadows, taken cubes. -/
namespace Go.Ab
open Go
set_option linter.unusedSimpArgs false
set_option linter.unusedVariables false
set_option maxRecDepth 20000

structure Shd where
  x : Int
  y : Int
  z : Int
  tp : List Int
  fr : List Int
  sd : List Int
def Shd.none : Shd := ⟨0, 0, 0, [], [], []⟩
/-- A shadow, or the one of all zeros and false; its lists may be read. -/
def ShdX (M : Mem) (r : Option Shd) (v : LV) (N : Mem) : Prop := ∃ a b c : Nat, v = .tup [.agg [.I (r.getD Shd.none).x, .I (r.getD Shd.none).y, .I (r.getD Shd.none).z, .ref a 0 (r.getD Shd.none).tp.length, .ref b 0 (r.getD Shd.none).fr.length, .ref c 0 (r.getD Shd.none).sd.length], .B r.isSome] ∧
  Ints N a 0 (r.getD Shd.none).tp ∧ Ints N b 0 (r.getD Shd.none).fr ∧ Ints N c 0 (r.getD Shd.none).sd ∧ Pre M N
section
variable (x y z : Int) (tp fr sd : List Int)
noncomputable def grtOf : Option Hp := by
  classical
  exact if Fits x y z tp fr sd then some ⟨x, y, z, pick x y z (allowedB y z tp fr sd)⟩ else none
noncomputable def clnOf : Option Shd := by
  classical
  exact if ShdOK x y z tp fr sd then some ⟨x, y, z, shdOf x y z 2 (pick x y z (allowedB y z tp fr sd)), shdOf x y z 1 (pick x y z (allowedB y z tp fr sd)), shdOf x y z 0 (pick x y z (allowedB y z tp fr sd))⟩ else none
noncomputable def lbdOf : Option Int := by
  classical
  exact if ShdOK x y z tp fr sd then some (max (litSum tp) (max (litSum fr) (litSum sd))) else none
end
section
variable {x y z : Int} {t o t' o' t2 o2 : Nat} {tp fr sd : List Int} {M : Mem} (h1 : Ints M t o tp) (h2 : Ints M t' o' fr) (h3 : Ints M t2 o2 sd) (l1 : tp.length ≤ 1000000000) (l2 : fr.length ≤ 1000000000) (l3 : sd.length ≤ 1000000000)
include h1 h2 h3 l1 l2 l3
end
end Go.Ab

/- Contracts: views, shadows and heights of columns, both sides, for all heaps. -/
namespace Go.Ab
open Go
set_option linter.unusedSimpArgs false
set_option linter.unusedVariables false
set_option maxRecDepth 20000

noncomputable def vwOf (x y z : Int) (cs : List Cell) (d : Int) : List Int := by
  classical
  exact if HeapOK x y z cs ∧ Dir d then viewL x y z d.toNat cs else []
noncomputable def shsOf (x y z : Int) (cs : List Cell) : Option Shd := by
  classical
  exact if HeapOK x y z cs then some ⟨x, y, z, shdOf x y z 2 cs, shdOf x y z 1 cs, shdOf x y z 0 cs⟩ else none
noncomputable def tpsOf (x y z : Int) (cs : List Cell) : List Int := by
  classical
  exact if HeapOK x y z cs then topsOf x y cs else []
section
variable {x y z : Int} {t : Nat} {cs : List Cell} {M : Mem} (h : Tri M t 0 cs) (hn : cs.length ≤ 1000000000)
include h hn
theorem g_ViewOfI {d : Int} : CallsR PG F.impl_ViewOf [.agg [.I x, .I y, .I z, .ref t 0 cs.length], .I d] M (IntsG M (vwOf x y z cs d) (sqrB x y z cs d)) := by
  refine callsR_run K.impl_ViewOf rfl ?_
  simp (disch := omega) only [C.impl_ViewOf, ↓SXd, SXu, slBounds, ↓sop, ↓aop, ↓reduceIte, LV.cells, AOp.dst, LV.I, LV.B, LV.U, LV.S, LV.nil, Nat.reduceEqDiff, Nat.reduceAdd, Nat.reduceMul, Nat.reduceSub, Nat.reduceLeDiff, Nat.reduceBEq, Nat.reduceDiv, Nat.reduceMod, Int.reduceToNat, Int.reduceLT, Int.reduceLE, Int.reduceAdd, Int.reduceSub, Int.reduceMul, Int.reduceEq, Int.reduceNeg, reduceCtorEq, resV, resAll, ARes.ev, LV.flat, ite_true, ite_false, exists_eq_left', exists_eq_left, keyOf, implies_true, fillC, capOf]
  refine callK_of (g_IsHeap h.app hn) ?_
  simp (disch := omega) only [↓SXd, SXu, slBounds, ↓sop, ↓aop, ↓reduceIte, LV.cells, AOp.dst, LV.I, LV.B, LV.U, LV.S, LV.nil, Nat.reduceEqDiff, Nat.reduceAdd, Nat.reduceMul, Nat.reduceSub, Nat.reduceLeDiff, Nat.reduceBEq, Nat.reduceDiv, Nat.reduceMod, Int.reduceToNat, Int.reduceLT, Int.reduceLE, Int.reduceAdd, Int.reduceSub, Int.reduceMul, Int.reduceEq, Int.reduceNeg, reduceCtorEq, resV, resAll, ARes.ev, LV.flat, ite_true, ite_false, exists_eq_left', exists_eq_left, keyOf, implies_true, fillC, capOf]
  have hdd : Dir d ↔ 0 ≤ d ∧ d ≤ 2 := by unfold Dir; omega
  have hisd : ∀ {M : Mem}, CallsTo PG F.impl_isDirection [.I d] M (.B (decide (0 ≤ d ∧ d ≤ 2))) M := fun {M} => by
    refine calls_run K.impl_isDirection rfl ?_
    simp (disch := omega) only [C.impl_isDirection, ↓SXd, SXu, slBounds, ↓sop, ↓aop, ↓reduceIte, LV.cells, AOp.dst, LV.I, LV.B, LV.U, LV.S, LV.nil, Nat.reduceEqDiff, Nat.reduceAdd, Nat.reduceMul, Nat.reduceSub, Nat.reduceLeDiff, Nat.reduceBEq, Nat.reduceDiv, Nat.reduceMod, Int.reduceToNat, Int.reduceLT, Int.reduceLE, Int.reduceAdd, Int.reduceSub, Int.reduceMul, Int.reduceEq, Int.reduceNeg, reduceCtorEq, resV, resAll, ARes.ev, LV.flat, ite_true, ite_false, exists_eq_left', exists_eq_left, keyOf, implies_true, fillC, capOf]
    refine callK_of (g_within) ?_
    simp (disch := omega) only [↓SXd, SXu, slBounds, ↓sop, ↓aop, ↓reduceIte, LV.cells, AOp.dst, LV.I, LV.B, LV.U, LV.S, LV.nil, Nat.reduceEqDiff, Nat.reduceAdd, Nat.reduceMul, Nat.reduceSub, Nat.reduceLeDiff, Nat.reduceBEq, Nat.reduceDiv, Nat.reduceMod, Int.reduceToNat, Int.reduceLT, Int.reduceLE, Int.reduceAdd, Int.reduceSub, Int.reduceMul, Int.reduceEq, Int.reduceNeg, reduceCtorEq, resV, resAll, ARes.ev, LV.flat, ite_true, ite_false, exists_eq_left', exists_eq_left, keyOf, implies_true, fillC, capOf]
    exact cmp_drop0 rfl
  by_cases hH : HeapOK x y z cs
  rotate_left
  · rw [show vwOf x y z cs d = [] from if_neg (fun e => hH e.1), show sqrB x y z cs d = false from decide_eq_false fun e => hH e.1]
    simp (disch := omega) only [hH, ↓SXd, SXu, slBounds, ↓sop, ↓aop, ↓reduceIte, LV.cells, AOp.dst, LV.I, LV.B, LV.U, LV.S, LV.nil, Nat.reduceEqDiff, Nat.reduceAdd, Nat.reduceMul, Nat.reduceSub, Nat.reduceLeDiff, Nat.reduceBEq, Nat.reduceDiv, Nat.reduceMod, Int.reduceToNat, Int.reduceLT, Int.reduceLE, Int.reduceAdd, Int.reduceSub, Int.reduceMul, Int.reduceEq, Int.reduceNeg, reduceCtorEq, resV, resAll, ARes.ev, LV.flat, ite_true, ite_false, exists_eq_left', exists_eq_left, keyOf, implies_true, fillC, capOf]
    exact ⟨_, rfl, .inl ⟨rfl, rfl⟩, Pre.app _ _⟩
  have hpk : pick x y z (fun c => decide (c ∈ cs)) = cs := hH.pick.symm
  simp (disch := omega) only [hH, ↓SXd, SXu, slBounds, ↓sop, ↓aop, ↓reduceIte, LV.cells, AOp.dst, LV.I, LV.B, LV.U, LV.S, LV.nil, Nat.reduceEqDiff, Nat.reduceAdd, Nat.reduceMul, Nat.reduceSub, Nat.reduceLeDiff, Nat.reduceBEq, Nat.reduceDiv, Nat.reduceMod, Int.reduceToNat, Int.reduceLT, Int.reduceLE, Int.reduceAdd, Int.reduceSub, Int.reduceMul, Int.reduceEq, Int.reduceNeg, reduceCtorEq, resV, resAll, ARes.ev, LV.flat, ite_true, ite_false, exists_eq_left', exists_eq_left, keyOf, implies_true, fillC, capOf]
  refine callK_of (hisd) ?_
  simp (disch := omega) only [↓SXd, SXu, slBounds, ↓sop, ↓aop, ↓reduceIte, LV.cells, AOp.dst, LV.I, LV.B, LV.U, LV.S, LV.nil, Nat.reduceEqDiff, Nat.reduceAdd, Nat.reduceMul, Nat.reduceSub, Nat.reduceLeDiff, Nat.reduceBEq, Nat.reduceDiv, Nat.reduceMod, Int.reduceToNat, Int.reduceLT, Int.reduceLE, Int.reduceAdd, Int.reduceSub, Int.reduceMul, Int.reduceEq, Int.reduceNeg, reduceCtorEq, resV, resAll, ARes.ev, LV.flat, ite_true, ite_false, exists_eq_left', exists_eq_left, keyOf, implies_true, fillC, capOf]
  by_cases hd : 0 ≤ d ∧ d ≤ 2
  rotate_left
  · rw [show vwOf x y z cs d = [] from if_neg (fun e => hd (hdd.1 e.2)), show sqrB x y z cs d = false from decide_eq_false fun e => hd (hdd.1 e.2), decide_eq_false hd]
    simp (disch := omega) only [↓SXd, SXu, slBounds, ↓sop, ↓aop, ↓reduceIte, LV.cells, AOp.dst, LV.I, LV.B, LV.U, LV.S, LV.nil, Nat.reduceEqDiff, Nat.reduceAdd, Nat.reduceMul, Nat.reduceSub, Nat.reduceLeDiff, Nat.reduceBEq, Nat.reduceDiv, Nat.reduceMod, Int.reduceToNat, Int.reduceLT, Int.reduceLE, Int.reduceAdd, Int.reduceSub, Int.reduceMul, Int.reduceEq, Int.reduceNeg, reduceCtorEq, resV, resAll, ARes.ev, LV.flat, ite_true, ite_false, exists_eq_left', exists_eq_left, keyOf, implies_true, fillC, capOf]
    exact ⟨_, rfl, .inl ⟨rfl, rfl⟩, Pre.app _ _⟩
  rw [show vwOf x y z cs d = viewL x y z d.toNat cs from if_pos ⟨hH, hdd.2 hd⟩, show sqrB x y z cs d = true from decide_eq_true ⟨hH, hdd.2 hd⟩, decide_eq_true hd]
  obtain ⟨n, rfl⟩ : ∃ n : Nat, d = n := ⟨d.toNat, by omega⟩
  rw [Int.toNat_natCast]
  simp (disch := omega) only [↓SXd, SXu, slBounds, ↓sop, ↓aop, ↓reduceIte, LV.cells, AOp.dst, LV.I, LV.B, LV.U, LV.S, LV.nil, Nat.reduceEqDiff, Nat.reduceAdd, Nat.reduceMul, Nat.reduceSub, Nat.reduceLeDiff, Nat.reduceBEq, Nat.reduceDiv, Nat.reduceMod, Int.reduceToNat, Int.reduceLT, Int.reduceLE, Int.reduceAdd, Int.reduceSub, Int.reduceMul, Int.reduceEq, Int.reduceNeg, reduceCtorEq, resV, resAll, ARes.ev, LV.flat, ite_true, ite_false, exists_eq_left', exists_eq_left, keyOf, implies_true, fillC, capOf]
  refine callK_of (g_box) ?_
  simp (disch := omega) only [↓SXd, SXu, slBounds, ↓sop, ↓aop, ↓reduceIte, LV.cells, AOp.dst, LV.I, LV.B, LV.U, LV.S, LV.nil, Nat.reduceEqDiff, Nat.reduceAdd, Nat.reduceMul, Nat.reduceSub, Nat.reduceLeDiff, Nat.reduceBEq, Nat.reduceDiv, Nat.reduceMod, Int.reduceToNat, Int.reduceLT, Int.reduceLE, Int.reduceAdd, Int.reduceSub, Int.reduceMul, Int.reduceEq, Int.reduceNeg, reduceCtorEq, resV, resAll, ARes.ev, LV.flat, ite_true, ite_false, exists_eq_left', exists_eq_left, keyOf, implies_true, fillC, capOf]
  refine callK_of (g_cubes h.app hn hH.1 (fun c hc => hH.mem hc)) ?_
  simp (disch := omega) only [↓SXd, SXu, slBounds, ↓sop, ↓aop, ↓reduceIte, LV.cells, AOp.dst, LV.I, LV.B, LV.U, LV.S, LV.nil, Nat.reduceEqDiff, Nat.reduceAdd, Nat.reduceMul, Nat.reduceSub, Nat.reduceLeDiff, Nat.reduceBEq, Nat.reduceDiv, Nat.reduceMod, Int.reduceToNat, Int.reduceLT, Int.reduceLE, Int.reduceAdd, Int.reduceSub, Int.reduceMul, Int.reduceEq, Int.reduceNeg, reduceCtorEq, resV, resAll, ARes.ev, LV.flat, ite_true, ite_false, exists_eq_left', exists_eq_left, keyOf, implies_true, fillC, capOf]
  have hgv := g_view (x := x) (y := y) (z := z) (d := n) (p := fun c => decide (c ∈ cs)) (M := M ++ [some (.row [.I x, .I y, .I z, .ref t 0 cs.length] true 0)]) hH.1 (by omega)
  rw [hpk] at hgv
  refine callK_of (hgv) ?_
  simp (disch := omega) only [↓SXd, SXu, slBounds, ↓sop, ↓aop, ↓reduceIte, LV.cells, AOp.dst, LV.I, LV.B, LV.U, LV.S, LV.nil, Nat.reduceEqDiff, Nat.reduceAdd, Nat.reduceMul, Nat.reduceSub, Nat.reduceLeDiff, Nat.reduceBEq, Nat.reduceDiv, Nat.reduceMod, Int.reduceToNat, Int.reduceLT, Int.reduceLE, Int.reduceAdd, Int.reduceSub, Int.reduceMul, Int.reduceEq, Int.reduceNeg, reduceCtorEq, resV, resAll, ARes.ev, LV.flat, ite_true, ite_false, exists_eq_left', exists_eq_left, keyOf, implies_true, fillC, capOf]
  exact ⟨_, rfl, .inr ⟨_, _, rfl, (Live.newj (j := 1) rfl : Live _ _ (.row (intL (viewL x y z n cs)) true 1)).has⟩, Pre.app _ _⟩
end
end Go.Ab
