/- Parts of the proof of FnExactFirstFewestSaid: Na Ub C_Nb K_Nb Nb Uc Ud Ug C_Ue K_Ue Ue Va Wa C_Ob K_Ob C_Oa K_Oa C_Dd K_Dd C_Dc K_Dc Dc Dd Oa Ob C_Uk K_Uk. -/
import Derived.Test.YtjpdjjeddagjlaaA5
import Derived.Test.YtjpdjjeddagjlaaA4
import Derived.Test.YtjpdjjeddagjlaaA3
import Derived.Test.YtjpdjjeddagjlaaProg
import Derived.KernelRfl
set_option linter.all false
/- Plain words: the cells of a box in their order; sets of them as 64 bits. -/
namespace Go.Ab

def idx (y z : Int) (c : Cell) : Int := (c.a * y + c.b) * z + c.c
def cellAt (y z i : Int) : Cell := ⟨(i.tdiv z).tdiv y, (i.tdiv z).tmod y, i.tmod z⟩
def vol (x y z : Int) : Nat := (x * y * z).toNat
def cellsOf (x y z : Int) : List Cell := (List.range (vol x y z)).map fun (i : Nat) => cellAt y z i
/-- The cells of a box of which p holds, in order. -/
def pick (x y z : Int) (p : Cell → Bool) : List Cell := (cellsOf x y z).filter p

section
variable {x y z : Int} (hS : Sides x y z)
include hS
omit hS in
theorem getD_mem' {α : Type} {l : List α} {k : Nat} {d : α} (h : k < l.length) : l.getD k d ∈ l := by simp [h]
theorem vol_bound : 1 ≤ x * y * z ∧ x * y * z ≤ 64 ∧ 1 ≤ y * z ∧ y * z ≤ 16 ∧ 1 ≤ x * y ∧ x * y ≤ 16 := by
  obtain ⟨hx, hy, hz⟩ := hS
  have h2 : y = 1 ∨ y = 2 ∨ y = 3 ∨ y = 4 := by omega
  have h3 : z = 1 ∨ z = 2 ∨ z = 3 ∨ z = 4 := by omega
  rcases h2 with rfl | rfl | rfl | rfl <;> rcases h3 with rfl | rfl | rfl | rfl <;> omega
theorem vol_cast : ((vol x y z : Nat) : Int) = x * y * z ∧ 1 ≤ vol x y z ∧ vol x y z ≤ 64 := by
  have := vol_bound hS
  unfold vol; omega
theorem idx_in {c : Cell} (hc : c.inBox x y z) : 0 ≤ idx y z c ∧ idx y z c < x * y * z ∧ cellAt y z (idx y z c) = c := by
  obtain ⟨hx, hy, hz⟩ := hS
  obtain ⟨a, b, d⟩ := c
  obtain ⟨h1, h2, h3⟩ := hc
  simp only at h1 h2 h3
  have e2 : y = 1 ∨ y = 2 ∨ y = 3 ∨ y = 4 := by omega
  have e3 : z = 1 ∨ z = 2 ∨ z = 3 ∨ z = 4 := by omega
  unfold idx cellAt
  simp only
  have hn : 0 ≤ (a * y + b) * z + d := by rcases e2 with rfl | rfl | rfl | rfl <;> rcases e3 with rfl | rfl | rfl | rfl <;> omega
  refine ⟨hn, by rcases e2 with rfl | rfl | rfl | rfl <;> rcases e3 with rfl | rfl | rfl | rfl <;> omega, ?_⟩
  rw [Int.tdiv_eq_ediv_of_nonneg hn, Int.tmod_eq_emod_of_nonneg hn]
  have hq : 0 ≤ ((a * y + b) * z + d) / z := Int.ediv_nonneg hn (by omega)
  rw [Int.tdiv_eq_ediv_of_nonneg hq, Int.tmod_eq_emod_of_nonneg hq]
  rw [cell_eq]
  rcases e2 with rfl | rfl | rfl | rfl <;> rcases e3 with rfl | rfl | rfl | rfl <;> simp only <;> omega
theorem cellAt_in {i : Int} (h0 : 0 ≤ i) (hi : i < x * y * z) : (cellAt y z i).inBox x y z ∧ idx y z (cellAt y z i) = i := by
  obtain ⟨hx, hy, hz⟩ := hS
  have e1 : x = 1 ∨ x = 2 ∨ x = 3 ∨ x = 4 := by omega
  have e2 : y = 1 ∨ y = 2 ∨ y = 3 ∨ y = 4 := by omega
  have e3 : z = 1 ∨ z = 2 ∨ z = 3 ∨ z = 4 := by omega
  unfold idx cellAt Cell.inBox
  simp only
  rw [Int.tdiv_eq_ediv_of_nonneg h0, Int.tmod_eq_emod_of_nonneg h0]
  have hq : 0 ≤ i / z := Int.ediv_nonneg h0 (by omega)
  rw [Int.tdiv_eq_ediv_of_nonneg hq, Int.tmod_eq_emod_of_nonneg hq]
  rcases e2 with rfl | rfl | rfl | rfl <;> rcases e3 with rfl | rfl | rfl | rfl <;> (refine ⟨⟨⟨?_, ?_⟩, ⟨?_, ?_⟩, ⟨?_, ?_⟩⟩, ?_⟩ <;> omega)
theorem lt_iff {c d : Cell} (hc : c.inBox x y z) (hd : d.inBox x y z) : c.lt d ↔ idx y z c < idx y z d := by
  obtain ⟨hx, hy, hz⟩ := hS
  obtain ⟨a, b, e⟩ := c
  obtain ⟨a', b', e'⟩ := d
  obtain ⟨h1, h2, h3⟩ := hc
  obtain ⟨k1, k2, k3⟩ := hd
  simp only at h1 h2 h3 k1 k2 k3
  unfold idx Cell.lt
  simp only
  have e2 : y = 1 ∨ y = 2 ∨ y = 3 ∨ y = 4 := by omega
  have e3 : z = 1 ∨ z = 2 ∨ z = 3 ∨ z = 4 := by omega
  rcases e2 with rfl | rfl | rfl | rfl <;> rcases e3 with rfl | rfl | rfl | rfl <;> omega

theorem mem_cellsOf {c : Cell} : c ∈ cellsOf x y z ↔ c.inBox x y z := by
  unfold cellsOf
  rw [List.mem_map]
  have hv := vol_cast hS
  constructor
  · rintro ⟨i, hi, rfl⟩
    exact (cellAt_in hS (by omega) (by have := List.mem_range.1 hi; omega)).1
  · intro hc
    obtain ⟨h1, h2, h3⟩ := idx_in hS hc
    refine ⟨(idx y z c).toNat, List.mem_range.2 (by omega), ?_⟩
    rw [Int.toNat_of_nonneg h1, h3]
theorem mem_pick {p : Cell → Bool} {c : Cell} : c ∈ pick x y z p ↔ c.inBox x y z ∧ p c = true := by
  unfold pick
  rw [List.mem_filter, mem_cellsOf hS]
theorem cellsOf_sorted : (cellsOf x y z).Pairwise Cell.lt := by
  unfold cellsOf
  rw [List.pairwise_map]
  have hv := vol_cast hS
  refine List.Pairwise.imp_of_mem (R := fun a b => a < b) ?_ (List.pairwise_lt_range)
  intro i j hi hj hij
  have hi := List.mem_range.1 hi
  have hj := List.mem_range.1 hj
  obtain ⟨h1, h2⟩ := cellAt_in hS (i := (i : Int)) (by omega) (by omega)
  obtain ⟨h3, h4⟩ := cellAt_in hS (i := (j : Int)) (by omega) (by omega)
  rw [lt_iff hS h1 h3, h2, h4]; omega
theorem pick_sorted (p : Cell → Bool) : (pick x y z p).Pairwise Cell.lt := (cellsOf_sorted hS).filter p
end

theorem Cell.lt_irrefl (c : Cell) : ¬ c.lt c := by unfold Cell.lt; omega
theorem Cell.lt_trans {a b c : Cell} (h : a.lt b) (k : b.lt c) : a.lt c := by unfold Cell.lt at *; omega
/-- Sorted lists with the same members are the same. -/
theorem sorted_ext : ∀ {l m : List Cell}, l.Pairwise Cell.lt → m.Pairwise Cell.lt → (∀ c, c ∈ l ↔ c ∈ m) → l = m
  | [], [], _, _, _ => rfl
  | [], b :: m, _, _, h => by have := (h b).2 (by simp); simp at this
  | a :: l, [], _, _, h => by have := (h a).1 (by simp); simp at this
  | a :: l, b :: m, hl, hm, h => by
    rw [List.pairwise_cons] at hl hm
    have hab : a = b := by
      rcases List.mem_cons.1 ((h a).1 (by simp)) with h1 | h1
      · exact h1
      · rcases List.mem_cons.1 ((h b).2 (by simp)) with h2 | h2
        · exact h2.symm
        · exact absurd (Cell.lt_trans (hm.1 a h1) (hl.1 b h2)) (Cell.lt_irrefl b)
    subst hab
    congr 1
    refine sorted_ext hl.2 hm.2 fun c => ?_
    have h1 : ∀ {c}, c ∈ l → a ≠ c := fun hc e => Cell.lt_irrefl a (by have := hl.1 _ hc; rw [← e] at this; exact this)
    have h2 : ∀ {c}, c ∈ m → a ≠ c := fun hc e => Cell.lt_irrefl a (by have := hm.1 _ hc; rw [← e] at this; exact this)
    have := h c
    simp only [List.mem_cons] at this
    constructor
    · intro hc; exact (this.1 (.inr hc)).resolve_left fun e => h1 hc e.symm
    · intro hc; exact (this.2 (.inr hc)).resolve_left fun e => h2 hc e.symm

theorem HeapOK.sorted {x y z : Int} {cs : List Cell} (h : HeapOK x y z cs) : cs.Pairwise Cell.lt := by
  rw [List.pairwise_iff_getElem]
  have key : ∀ (d i : Nat) (h1 : i < cs.length) (h2 : i + d + 1 < cs.length), (cs.getD i default).lt (cs.getD (i + d + 1) default) := by
    intro d
    induction d with
    | zero => intro i h1 h2; have := (h.2 (i + 1) h2).2 (by omega); simpa using this
    | succ d ih =>
      intro i h1 h2
      have h3 := ih i h1 (by omega)
      have h4 := (h.2 (i + (d + 1) + 1) h2).2 (by omega)
      rw [show i + (d + 1) + 1 - 1 = i + d + 1 by omega] at h4
      exact Cell.lt_trans h3 h4
  intro i j hi hj hij
  have := key (j - i - 1) i hi (by omega)
  rw [show i + (j - i - 1) + 1 = j by omega] at this
  simpa [hi, hj] using this
theorem HeapOK.mem {x y z : Int} {cs : List Cell} (h : HeapOK x y z cs) {c : Cell} (hc : c ∈ cs) : c.inBox x y z := by
  obtain ⟨i, hi, rfl⟩ := List.getElem_of_mem hc
  have := (h.2 i hi).1
  simpa [hi] using this
theorem HeapOK.of {x y z : Int} {cs : List Cell} (hS : Sides x y z) (hs : cs.Pairwise Cell.lt) (hm : ∀ c ∈ cs, c.inBox x y z) : HeapOK x y z cs := by
  refine ⟨hS, fun k hk => ⟨hm _ (by simp [hk]), fun h0 => ?_⟩⟩
  rw [List.pairwise_iff_getElem] at hs
  have := hs (k - 1) k (by omega) hk (by omega)
  have h1 : k - 1 < cs.length := by omega
  simpa [hk, h1] using this
theorem pick_ok {x y z : Int} (hS : Sides x y z) (p : Cell → Bool) : HeapOK x y z (pick x y z p) := HeapOK.of hS (pick_sorted hS p) fun c hc => ((mem_pick hS).1 hc).1
/-- A valid heap's cells are those of its box that it has, in order. -/
theorem HeapOK.pick {x y z : Int} {cs : List Cell} (h : HeapOK x y z cs) : cs = pick x y z fun c => decide (c ∈ cs) := by
  refine sorted_ext h.sorted (pick_sorted h.1 _) fun c => ?_
  rw [mem_pick h.1]
  simp only [decide_eq_true_eq]
  exact ⟨fun hc => ⟨h.mem hc, hc⟩, fun hc => hc.2⟩
theorem pick_len {x y z : Int} (hS : Sides x y z) (p : Cell → Bool) : (pick x y z p).length ≤ 64 := by
  have h1 := List.length_filter_le p (cellsOf x y z)
  have h2 : (cellsOf x y z).length = vol x y z := by simp [cellsOf]
  have h3 := vol_cast hS
  unfold Go.Ab.pick
  omega
theorem HeapOK.len {x y z : Int} {cs : List Cell} (h : HeapOK x y z cs) : cs.length ≤ 64 := by rw [h.pick]; exact pick_len h.1 _
theorem pick_congr {x y z : Int} (hS : Sides x y z) {p q : Cell → Bool} (h : ∀ c, c.inBox x y z → p c = q c) : pick x y z p = pick x y z q :=
  List.filter_congr fun c hc => h c ((mem_cellsOf hS).1 hc)
theorem HeapOK.nodup {x y z : Int} {cs : List Cell} (h : HeapOK x y z cs) : cs.Nodup := h.sorted.imp fun {a b} hab e => by subst e; exact Cell.lt_irrefl _ hab

/-! ### Bits -/
def bsN (n : Nat) (f : Nat → Bool) : BitVec 64 := (List.range n).foldl (fun s i => if f i then s ||| (1#64 <<< i) else s) 0#64
theorem bsN_succ (n : Nat) (f : Nat → Bool) : bsN (n + 1) f = if f n then bsN n f ||| (1#64 <<< n) else bsN n f := by
  simp [bsN, List.range_succ, List.foldl_append]
theorem bit_one {n i : Nat} (hn : n < 64) : (1#64 <<< n).getLsbD i = decide (i = n) := by
  rw [BitVec.getLsbD_shiftLeft, BitVec.getLsbD_one]
  by_cases h1 : i < 64
  · by_cases h2 : i < n
    · simp [h1, h2]; omega
    · simp [h1, h2]; omega
  · simp [h1]; omega
theorem bsN_bit {f : Nat → Bool} : ∀ {n : Nat}, n ≤ 64 → ∀ i, (bsN n f).getLsbD i = (decide (i < n) && f i)
  | 0, _, i => by simp [bsN]
  | n + 1, hn, i => by
    rw [bsN_succ]
    have ih := bsN_bit (f := f) (n := n) (by omega) i
    by_cases hf : f n = true
    · rw [if_pos hf, BitVec.getLsbD_or, ih, bit_one (by omega)]
      by_cases h1 : i = n
      · subst h1; simp [hf]
      · have : decide (i < n + 1) = decide (i < n) := decide_eq_decide.2 (by omega)
        rw [this]; simp [h1]
    · rw [if_neg hf, ih]
      by_cases h1 : i = n
      · subst h1; simp [hf]
      · have : decide (i < n + 1) = decide (i < n) := decide_eq_decide.2 (by omega)
        rw [this]

/-- The set of the cells of a box of which p holds. -/
def bs (x y z : Int) (p : Cell → Bool) : BitVec 64 := bsN (vol x y z) fun i => p (cellAt y z i)

section
variable {x y z : Int} (hS : Sides x y z)
include hS
theorem bs_bit (p : Cell → Bool) (i : Nat) : (bs x y z p).getLsbD i = (decide (i < vol x y z) && p (cellAt y z i)) := bsN_bit (vol_cast hS).2.2 i
theorem bs_has {p : Cell → Bool} {c : Cell} (hc : c.inBox x y z) : (bs x y z p).getLsbD (idx y z c).toNat = p c := by
  obtain ⟨h1, h2, h3⟩ := idx_in hS hc
  have hv := vol_cast hS
  rw [bs_bit hS, Int.toNat_of_nonneg h1, h3, decide_eq_true (by omega)]; rfl
theorem bs_ext {p : Cell → Bool} {s : BitVec 64} (h : ∀ i : Nat, i < vol x y z → s.getLsbD i = p (cellAt y z i)) (h' : ∀ i, vol x y z ≤ i → s.getLsbD i = false) : s = bs x y z p := by
  apply BitVec.eq_of_getLsbD_eq
  intro i _
  rw [bs_bit hS]
  by_cases hi : i < vol x y z
  · rw [h i hi, decide_eq_true hi]; rfl
  · rw [h' i (by omega), decide_eq_false hi]; rfl
theorem bs_eq {p q : Cell → Bool} : bs x y z p = bs x y z q ↔ ∀ c, c.inBox x y z → p c = q c := by
  constructor
  · intro h c hc; rw [← bs_has (p := p) hS hc, h, bs_has hS hc]
  · intro h
    have hv := vol_cast hS
    refine bs_ext hS (fun i hi => ?_) fun i hi => ?_
    · rw [bs_bit hS, decide_eq_true hi]; exact h _ (cellAt_in hS (by omega) (by omega)).1
    · rw [bs_bit hS, decide_eq_false (by omega)]; rfl
theorem bs_or (p q : Cell → Bool) : bs x y z p ||| bs x y z q = bs x y z fun c => p c || q c :=
  bs_ext hS (fun i hi => by rw [BitVec.getLsbD_or, bs_bit hS, bs_bit hS, decide_eq_true hi]; rfl) fun i hi => by rw [BitVec.getLsbD_or, bs_bit hS, bs_bit hS, decide_eq_false (by omega)]; rfl
theorem bs_and (p q : Cell → Bool) : bs x y z p &&& bs x y z q = bs x y z fun c => p c && q c :=
  bs_ext hS (fun i hi => by rw [BitVec.getLsbD_and, bs_bit hS, bs_bit hS, decide_eq_true hi]; rfl) fun i hi => by rw [BitVec.getLsbD_and, bs_bit hS, bs_bit hS, decide_eq_false (by omega)]; rfl
theorem bs_diff (p q : Cell → Bool) : bs x y z p &&& ~~~bs x y z q = bs x y z fun c => p c && !q c :=
  bs_ext hS (fun i hi => by
    have := vol_cast hS
    rw [BitVec.getLsbD_and, BitVec.getLsbD_not, bs_bit hS, bs_bit hS, decide_eq_true hi, decide_eq_true (show i < 64 by omega)]; rfl) fun i hi => by rw [BitVec.getLsbD_and, bs_bit hS, decide_eq_false (by omega)]; rfl
theorem bs_none : (0#64) = bs x y z fun _ => false := bs_ext hS (fun i _ => by simp) fun i _ => by simp
theorem bs_zero {p : Cell → Bool} : bs x y z p = 0#64 ↔ ∀ c, c.inBox x y z → p c = false := by rw [bs_none hS, bs_eq hS]
theorem bs_one {c : Cell} (hc : c.inBox x y z) : 1#64 <<< (idx y z c).toNat = bs x y z fun d => decide (d = c) := by
  obtain ⟨h1, h2, h3⟩ := idx_in hS hc
  have hv := vol_cast hS
  refine bs_ext hS (fun i hi => ?_) fun i hi => ?_
  · rw [bit_one (by omega)]
    refine decide_eq_decide.2 ⟨fun e => ?_, fun e => ?_⟩
    · rw [e, Int.toNat_of_nonneg h1, h3]
    · have := (cellAt_in hS (i := (i : Int)) (by omega) (by omega)).2
      rw [e] at this; omega
  · rw [bit_one (by omega)]; exact decide_eq_false (by omega)
/-- The first cell of a set. -/
theorem bs_low {p : Cell → Bool} {c : Cell} (hc : c.inBox x y z) (hp : p c = true) (hl : ∀ d, d.inBox x y z → p d = true → ¬ d.lt c) : bs x y z p &&& -bs x y z p = bs x y z fun d => decide (d = c) := by
  obtain ⟨h1, h2, h3⟩ := idx_in hS hc
  have hv := vol_cast hS
  refine bs_ext hS (fun i hi => ?_) fun i hi => ?_
  · rw [BitVec.getLsbD_and, BitVec.getLsbD_neg]
    have hb := bs_bit hS p
    have hin := cellAt_in hS (i := (i : Int)) (by omega) (by omega)
    by_cases hpi : p (cellAt y z i) = true
    · have hbi : (bs x y z p).getLsbD i = true := by rw [hb, decide_eq_true hi, hpi]; rfl
      rw [hbi]
      have hge : (idx y z c).toNat ≤ i := by
        have := hl _ hin.1 hpi
        rw [lt_iff hS hin.1 hc, hin.2] at this
        omega
      by_cases e : cellAt y z i = c
      · have hi' : i = (idx y z c).toNat := by have := hin.2; rw [e] at this; omega
        have hno : ¬ ∃ j, j < i ∧ (bs x y z p).getLsbD j = true := by
          rintro ⟨j, hj, hbj⟩
          rw [hb, decide_eq_true (by omega)] at hbj
          have hjn := cellAt_in hS (i := (j : Int)) (by omega) (by omega)
          have := hl _ hjn.1 (by simpa using hbj)
          rw [lt_iff hS hjn.1 hc, hjn.2] at this
          omega
        simp [e, hno]
      · have hyes : ∃ j, j < i ∧ (bs x y z p).getLsbD j = true := by
          refine ⟨(idx y z c).toNat, ?_, by rw [bs_has hS hc]; exact hp⟩
          rcases Nat.lt_or_ge (idx y z c).toNat i with h | h
          · exact h
          · exfalso; apply e; rw [← h3]; congr 1; omega
        simp [e, hyes]; omega
    · have hbi : (bs x y z p).getLsbD i = false := by rw [hb, decide_eq_true hi]; simpa using hpi
      rw [hbi]
      have : cellAt y z i ≠ c := fun e => hpi (by rw [e]; exact hp)
      simp [this]
  · rw [BitVec.getLsbD_and, bs_bit hS, decide_eq_false (by omega)]; rfl
end
end Go.Ab

/- Contracts: valid shadows, both sides. -/
namespace Go.Ab
open Go
set_option linter.unusedSimpArgs false
set_option linter.unusedVariables false

/-- All numbers are 0 or 1. -/
def Ones (xs : List Int) : Prop := ∀ v ∈ xs, 0 ≤ v ∧ v ≤ 1
instance (xs : List Int) : Decidable (Ones xs) := by unfold Ones; exact inferInstance
theorem ones_of {xs : List Int} (h : ∀ j, j < xs.length → 0 ≤ xs.getD j 0 ∧ xs.getD j 0 ≤ 1) : Ones xs := fun v hv => by
  obtain ⟨i, hi, rfl⟩ := List.getElem_of_mem hv
  have := h i hi
  simpa [hi] using this
theorem ones_not {xs : List Int} {k : Nat} (hk : k < xs.length) (h : ¬ (0 ≤ xs.getD k 0 ∧ xs.getD k 0 ≤ 1)) : ¬ Ones xs := fun ho => h (ho _ (getD_mem' hk))

theorem h_l3Ones {xs : List Int} {t o : Nat} {n : Int} {M : Mem} (h : Ints M t o xs) (hn : xs.length ≤ 1000000000) : CallsTo PG F.spec_l3Ones [.ref t o xs.length, .I n] M (.B (decide (Ones xs ∧ (xs.length : Int) = n))) M := by
  refine calls_run K.spec_l3Ones rfl ?_
  simp (disch := omega) only [C.spec_l3Ones, ↓SXd, SXu, slBounds, ↓sop, ↓aop, ↓reduceIte, LV.cells, AOp.dst, LV.I, LV.B, LV.U, LV.S, LV.nil, Nat.reduceEqDiff, Nat.reduceAdd, Nat.reduceMul, Nat.reduceSub, Nat.reduceLeDiff, Nat.reduceBEq, Nat.reduceDiv, Nat.reduceMod, Int.reduceToNat, Int.reduceLT, Int.reduceLE, Int.reduceAdd, Int.reduceSub, Int.reduceMul, Int.reduceEq, Int.reduceNeg, reduceCtorEq, resV, resAll, ARes.ev, LV.flat, ite_true, ite_false, exists_eq_left', exists_eq_left, keyOf, implies_true, fillC, capOf]
  refine ev_loop (fun m fr M' => ∃ k : Nat, k + m = xs.length ∧ M' = M ∧ (∀ j, j < k → 0 ≤ xs.getD j 0 ∧ xs.getD j 0 ≤ 1) ∧ fr 0 = .ref t o xs.length ∧ fr 1 = .I n ∧ fr 5 = .I k) xs.length ⟨0, by omega, rfl, by omega, rfl, rfl, rfl⟩ ?_
  rintro m fr M' ⟨k, hk, rfl, hj, f0, f1, f5⟩
  simp (disch := omega) only [f0, f1, f5, ↓SXd, SXu, slBounds, ↓sop, ↓aop, ↓reduceIte, LV.cells, AOp.dst, LV.I, LV.B, LV.U, LV.S, LV.nil, Nat.reduceEqDiff, Nat.reduceAdd, Nat.reduceMul, Nat.reduceSub, Nat.reduceLeDiff, Nat.reduceBEq, Nat.reduceDiv, Nat.reduceMod, Int.reduceToNat, Int.reduceLT, Int.reduceLE, Int.reduceAdd, Int.reduceSub, Int.reduceMul, Int.reduceEq, Int.reduceNeg, reduceCtorEq, resV, resAll, ARes.ev, LV.flat, ite_true, ite_false, exists_eq_left', exists_eq_left, keyOf, implies_true, fillC, capOf]
  refine condC_dec (fun hlt => ?_) (fun hlt => ?_)
  · have hkl : k < xs.length := by omega
    have hg := Ints.get h hkl
    simp (disch := omega) only [f0, f1, f5, hg, Nat.mul_one, ↓SXd, SXu, slBounds, ↓sop, ↓aop, ↓reduceIte, LV.cells, AOp.dst, LV.I, LV.B, LV.U, LV.S, LV.nil, Nat.reduceEqDiff, Nat.reduceAdd, Nat.reduceMul, Nat.reduceSub, Nat.reduceLeDiff, Nat.reduceBEq, Nat.reduceDiv, Nat.reduceMod, Int.reduceToNat, Int.reduceLT, Int.reduceLE, Int.reduceAdd, Int.reduceSub, Int.reduceMul, Int.reduceEq, Int.reduceNeg, reduceCtorEq, resV, resAll, ARes.ev, LV.flat, ite_true, ite_false, exists_eq_left', exists_eq_left, keyOf, implies_true, fillC, capOf]
    refine callK_of (h_l1In) ?_
    simp (disch := omega) only [f0, f1, f5, ↓SXd, SXu, slBounds, ↓sop, ↓aop, ↓reduceIte, LV.cells, AOp.dst, LV.I, LV.B, LV.U, LV.S, LV.nil, Nat.reduceEqDiff, Nat.reduceAdd, Nat.reduceMul, Nat.reduceSub, Nat.reduceLeDiff, Nat.reduceBEq, Nat.reduceDiv, Nat.reduceMod, Int.reduceToNat, Int.reduceLT, Int.reduceLE, Int.reduceAdd, Int.reduceSub, Int.reduceMul, Int.reduceEq, Int.reduceNeg, reduceCtorEq, resV, resAll, ARes.ev, LV.flat, ite_true, ite_false, exists_eq_left', exists_eq_left, keyOf, implies_true, fillC, capOf]
    by_cases hv : 0 ≤ xs.getD k 0 ∧ xs.getD k 0 ≤ 1
    · simp (disch := omega) only [f0, f1, f5, hv, ↓SXd, SXu, slBounds, ↓sop, ↓aop, ↓reduceIte, LV.cells, AOp.dst, LV.I, LV.B, LV.U, LV.S, LV.nil, Nat.reduceEqDiff, Nat.reduceAdd, Nat.reduceMul, Nat.reduceSub, Nat.reduceLeDiff, Nat.reduceBEq, Nat.reduceDiv, Nat.reduceMod, Int.reduceToNat, Int.reduceLT, Int.reduceLE, Int.reduceAdd, Int.reduceSub, Int.reduceMul, Int.reduceEq, Int.reduceNeg, reduceCtorEq, resV, resAll, ARes.ev, LV.flat, ite_true, ite_false, exists_eq_left', exists_eq_left, keyOf, implies_true, fillC, capOf]
      exact ⟨m - 1, by omega, k + 1, by omega, rfl, fun j hj1 => by
        rcases Nat.lt_or_ge j k with h2 | h2
        · exact hj j h2
        · rw [show j = k by omega]; exact hv, f0, f1, eqI (natI _)⟩
    · simp (disch := omega) only [f0, f1, f5, hv, ↓SXd, SXu, slBounds, ↓sop, ↓aop, ↓reduceIte, LV.cells, AOp.dst, LV.I, LV.B, LV.U, LV.S, LV.nil, Nat.reduceEqDiff, Nat.reduceAdd, Nat.reduceMul, Nat.reduceSub, Nat.reduceLeDiff, Nat.reduceBEq, Nat.reduceDiv, Nat.reduceMod, Int.reduceToNat, Int.reduceLT, Int.reduceLE, Int.reduceAdd, Int.reduceSub, Int.reduceMul, Int.reduceEq, Int.reduceNeg, reduceCtorEq, resV, resAll, ARes.ev, LV.flat, ite_true, ite_false, exists_eq_left', exists_eq_left, keyOf, implies_true, fillC, capOf]
      rw [decide_eq_false (fun e => ones_not hkl hv e.1)]
      exact cmp_drop0 rfl
  · simp (disch := omega) only [f0, f1, f5, ↓SXd, SXu, slBounds, ↓sop, ↓aop, ↓reduceIte, LV.cells, AOp.dst, LV.I, LV.B, LV.U, LV.S, LV.nil, Nat.reduceEqDiff, Nat.reduceAdd, Nat.reduceMul, Nat.reduceSub, Nat.reduceLeDiff, Nat.reduceBEq, Nat.reduceDiv, Nat.reduceMod, Int.reduceToNat, Int.reduceLT, Int.reduceLE, Int.reduceAdd, Int.reduceSub, Int.reduceMul, Int.reduceEq, Int.reduceNeg, reduceCtorEq, resV, resAll, ARes.ev, LV.flat, ite_true, ite_false, exists_eq_left', exists_eq_left, keyOf, implies_true, fillC, capOf]
    have : k = xs.length := by omega
    subst this
    rw [show decide (Ones xs ∧ (xs.length : Int) = n) = decide ((xs.length : Int) = n) from decide_eq_decide.2 ⟨fun e => e.2, fun e => ⟨ones_of hj, e⟩⟩]
    exact cmp_drop0 rfl
theorem g_allWithin {xs : List Int} {t o : Nat} {M : Mem} (h : Ints M t o xs) (hn : xs.length ≤ 1000000000) : CallsTo PG F.impl_allWithin [.ref t o xs.length, .I 0, .I 1] M (.B (decide (Ones xs))) M := by
  refine calls_run K.impl_allWithin rfl ?_
  simp (disch := omega) only [C.impl_allWithin, ↓SXd, SXu, slBounds, ↓sop, ↓aop, ↓reduceIte, LV.cells, AOp.dst, LV.I, LV.B, LV.U, LV.S, LV.nil, Nat.reduceEqDiff, Nat.reduceAdd, Nat.reduceMul, Nat.reduceSub, Nat.reduceLeDiff, Nat.reduceBEq, Nat.reduceDiv, Nat.reduceMod, Int.reduceToNat, Int.reduceLT, Int.reduceLE, Int.reduceAdd, Int.reduceSub, Int.reduceMul, Int.reduceEq, Int.reduceNeg, reduceCtorEq, resV, resAll, ARes.ev, LV.flat, ite_true, ite_false, exists_eq_left', exists_eq_left, keyOf, implies_true, fillC, capOf]
  refine ev_loop (fun m fr M' => ∃ k : Nat, k + m = xs.length ∧ M' = M ∧ (∀ j, j < k → 0 ≤ xs.getD j 0 ∧ xs.getD j 0 ≤ 1) ∧ fr 1 = .I 0 ∧ fr 2 = .I 1 ∧ fr 9 = .ref t o xs.length ∧ fr 10 = .I xs.length ∧ fr 11 = .I k) xs.length ⟨0, by omega, rfl, by omega, rfl, rfl, rfl, rfl, rfl⟩ ?_
  rintro m fr M' ⟨k, hk, rfl, hj, f1, f2, f9, f10, f11⟩
  simp (disch := omega) only [f1, f2, f9, f10, f11, ↓SXd, SXu, slBounds, ↓sop, ↓aop, ↓reduceIte, LV.cells, AOp.dst, LV.I, LV.B, LV.U, LV.S, LV.nil, Nat.reduceEqDiff, Nat.reduceAdd, Nat.reduceMul, Nat.reduceSub, Nat.reduceLeDiff, Nat.reduceBEq, Nat.reduceDiv, Nat.reduceMod, Int.reduceToNat, Int.reduceLT, Int.reduceLE, Int.reduceAdd, Int.reduceSub, Int.reduceMul, Int.reduceEq, Int.reduceNeg, reduceCtorEq, resV, resAll, ARes.ev, LV.flat, ite_true, ite_false, exists_eq_left', exists_eq_left, keyOf, implies_true, fillC, capOf]
  refine condC_dec (fun hlt => ?_) (fun hlt => ?_)
  · have hkl : k < xs.length := by omega
    have hg := Ints.get h hkl
    simp (disch := omega) only [f1, f2, f9, f10, f11, hg, Nat.mul_one, ↓SXd, SXu, slBounds, ↓sop, ↓aop, ↓reduceIte, LV.cells, AOp.dst, LV.I, LV.B, LV.U, LV.S, LV.nil, Nat.reduceEqDiff, Nat.reduceAdd, Nat.reduceMul, Nat.reduceSub, Nat.reduceLeDiff, Nat.reduceBEq, Nat.reduceDiv, Nat.reduceMod, Int.reduceToNat, Int.reduceLT, Int.reduceLE, Int.reduceAdd, Int.reduceSub, Int.reduceMul, Int.reduceEq, Int.reduceNeg, reduceCtorEq, resV, resAll, ARes.ev, LV.flat, ite_true, ite_false, exists_eq_left', exists_eq_left, keyOf, implies_true, fillC, capOf]
    refine callK_of (g_within) ?_
    simp (disch := omega) only [f1, f2, f9, f10, f11, ↓SXd, SXu, slBounds, ↓sop, ↓aop, ↓reduceIte, LV.cells, AOp.dst, LV.I, LV.B, LV.U, LV.S, LV.nil, Nat.reduceEqDiff, Nat.reduceAdd, Nat.reduceMul, Nat.reduceSub, Nat.reduceLeDiff, Nat.reduceBEq, Nat.reduceDiv, Nat.reduceMod, Int.reduceToNat, Int.reduceLT, Int.reduceLE, Int.reduceAdd, Int.reduceSub, Int.reduceMul, Int.reduceEq, Int.reduceNeg, reduceCtorEq, resV, resAll, ARes.ev, LV.flat, ite_true, ite_false, exists_eq_left', exists_eq_left, keyOf, implies_true, fillC, capOf]
    by_cases hv : 0 ≤ xs.getD k 0 ∧ xs.getD k 0 ≤ 1
    · simp (disch := omega) only [f1, f2, f9, f10, f11, hv, ↓SXd, SXu, slBounds, ↓sop, ↓aop, ↓reduceIte, LV.cells, AOp.dst, LV.I, LV.B, LV.U, LV.S, LV.nil, Nat.reduceEqDiff, Nat.reduceAdd, Nat.reduceMul, Nat.reduceSub, Nat.reduceLeDiff, Nat.reduceBEq, Nat.reduceDiv, Nat.reduceMod, Int.reduceToNat, Int.reduceLT, Int.reduceLE, Int.reduceAdd, Int.reduceSub, Int.reduceMul, Int.reduceEq, Int.reduceNeg, reduceCtorEq, resV, resAll, ARes.ev, LV.flat, ite_true, ite_false, exists_eq_left', exists_eq_left, keyOf, implies_true, fillC, capOf]
      exact ⟨m - 1, by omega, k + 1, by omega, rfl, fun j hj1 => by
        rcases Nat.lt_or_ge j k with h2 | h2
        · exact hj j h2
        · rw [show j = k by omega]; exact hv, f1, f2, f9, f10, eqI (natI _)⟩
    · simp (disch := omega) only [f1, f2, f9, f10, f11, hv, ↓SXd, SXu, slBounds, ↓sop, ↓aop, ↓reduceIte, LV.cells, AOp.dst, LV.I, LV.B, LV.U, LV.S, LV.nil, Nat.reduceEqDiff, Nat.reduceAdd, Nat.reduceMul, Nat.reduceSub, Nat.reduceLeDiff, Nat.reduceBEq, Nat.reduceDiv, Nat.reduceMod, Int.reduceToNat, Int.reduceLT, Int.reduceLE, Int.reduceAdd, Int.reduceSub, Int.reduceMul, Int.reduceEq, Int.reduceNeg, reduceCtorEq, resV, resAll, ARes.ev, LV.flat, ite_true, ite_false, exists_eq_left', exists_eq_left, keyOf, implies_true, fillC, capOf]
      rw [decide_eq_false (fun e => ones_not hkl hv e)]
      exact cmp_drop0 rfl
  · simp (disch := omega) only [f1, f2, f9, f10, f11, ↓SXd, SXu, slBounds, ↓sop, ↓aop, ↓reduceIte, LV.cells, AOp.dst, LV.I, LV.B, LV.U, LV.S, LV.nil, Nat.reduceEqDiff, Nat.reduceAdd, Nat.reduceMul, Nat.reduceSub, Nat.reduceLeDiff, Nat.reduceBEq, Nat.reduceDiv, Nat.reduceMod, Int.reduceToNat, Int.reduceLT, Int.reduceLE, Int.reduceAdd, Int.reduceSub, Int.reduceMul, Int.reduceEq, Int.reduceNeg, reduceCtorEq, resV, resAll, ARes.ev, LV.flat, ite_true, ite_false, exists_eq_left', exists_eq_left, keyOf, implies_true, fillC, capOf]
    have : k = xs.length := by omega
    subst this
    rw [decide_eq_true (ones_of hj)]
    exact cmp_drop0 rfl

/-- A valid shadow. -/
def ShdOK (x y z : Int) (tp fr sd : List Int) : Prop := Sides x y z ∧ (Ones tp ∧ (tp.length : Int) = x * y) ∧ (Ones fr ∧ (fr.length : Int) = x * z) ∧ (Ones sd ∧ (sd.length : Int) = y * z)
instance (x y z : Int) (tp fr sd : List Int) : Decidable (ShdOK x y z tp fr sd) := by unfold ShdOK; exact inferInstance
theorem prod_le {x y z : Int} (hS : Sides x y z) : (1 ≤ x * y ∧ x * y ≤ 16) ∧ (1 ≤ x * z ∧ x * z ≤ 16) ∧ (1 ≤ y * z ∧ y * z ≤ 16) := by
  obtain ⟨hx, hy, hz⟩ := hS
  have h2 : y = 1 ∨ y = 2 ∨ y = 3 ∨ y = 4 := by omega
  have h3 : z = 1 ∨ z = 2 ∨ z = 3 ∨ z = 4 := by omega
  rcases h2 with rfl | rfl | rfl | rfl <;> rcases h3 with rfl | rfl | rfl | rfl <;> omega
theorem h_l3Shadow {x y z : Int} {t o t' o' t2 o2 : Nat} {tp fr sd : List Int} {M : Mem} (h1 : Ints M t o tp) (h2 : Ints M t' o' fr) (h3 : Ints M t2 o2 sd) (l1 : tp.length ≤ 1000000000) (l2 : fr.length ≤ 1000000000) (l3 : sd.length ≤ 1000000000) :
    CallsTo PG F.spec_l3Shadow [.agg [.I x, .I y, .I z, .ref t o tp.length, .ref t' o' fr.length, .ref t2 o2 sd.length]] M (.B (decide (ShdOK x y z tp fr sd))) M := by
  refine calls_run K.spec_l3Shadow rfl ?_
  simp (disch := omega) only [C.spec_l3Shadow, ↓SXd, SXu, slBounds, ↓sop, ↓aop, ↓reduceIte, LV.cells, AOp.dst, LV.I, LV.B, LV.U, LV.S, LV.nil, Nat.reduceEqDiff, Nat.reduceAdd, Nat.reduceMul, Nat.reduceSub, Nat.reduceLeDiff, Nat.reduceBEq, Nat.reduceDiv, Nat.reduceMod, Int.reduceToNat, Int.reduceLT, Int.reduceLE, Int.reduceAdd, Int.reduceSub, Int.reduceMul, Int.reduceEq, Int.reduceNeg, reduceCtorEq, resV, resAll, ARes.ev, LV.flat, ite_true, ite_false, exists_eq_left', exists_eq_left, keyOf, implies_true, fillC, capOf]
  refine callK_of (h_l2Sides) ?_
  simp (disch := omega) only [↓SXd, SXu, slBounds, ↓sop, ↓aop, ↓reduceIte, LV.cells, AOp.dst, LV.I, LV.B, LV.U, LV.S, LV.nil, Nat.reduceEqDiff, Nat.reduceAdd, Nat.reduceMul, Nat.reduceSub, Nat.reduceLeDiff, Nat.reduceBEq, Nat.reduceDiv, Nat.reduceMod, Int.reduceToNat, Int.reduceLT, Int.reduceLE, Int.reduceAdd, Int.reduceSub, Int.reduceMul, Int.reduceEq, Int.reduceNeg, reduceCtorEq, resV, resAll, ARes.ev, LV.flat, ite_true, ite_false, exists_eq_left', exists_eq_left, keyOf, implies_true, fillC, capOf]
  unfold ShdOK
  by_cases hS : Sides x y z
  · obtain ⟨⟨_, _⟩, ⟨_, _⟩, ⟨_, _⟩⟩ := prod_le hS
    simp (disch := omega) only [hS, true_and, ↓SXd, SXu, slBounds, ↓sop, ↓aop, ↓reduceIte, LV.cells, AOp.dst, LV.I, LV.B, LV.U, LV.S, LV.nil, Nat.reduceEqDiff, Nat.reduceAdd, Nat.reduceMul, Nat.reduceSub, Nat.reduceLeDiff, Nat.reduceBEq, Nat.reduceDiv, Nat.reduceMod, Int.reduceToNat, Int.reduceLT, Int.reduceLE, Int.reduceAdd, Int.reduceSub, Int.reduceMul, Int.reduceEq, Int.reduceNeg, reduceCtorEq, resV, resAll, ARes.ev, LV.flat, ite_true, ite_false, exists_eq_left', exists_eq_left, keyOf, implies_true, fillC, capOf]
    refine callK_of (h_l3Ones h1.app l1) ?_
    simp (disch := omega) only [↓SXd, SXu, slBounds, ↓sop, ↓aop, ↓reduceIte, LV.cells, AOp.dst, LV.I, LV.B, LV.U, LV.S, LV.nil, Nat.reduceEqDiff, Nat.reduceAdd, Nat.reduceMul, Nat.reduceSub, Nat.reduceLeDiff, Nat.reduceBEq, Nat.reduceDiv, Nat.reduceMod, Int.reduceToNat, Int.reduceLT, Int.reduceLE, Int.reduceAdd, Int.reduceSub, Int.reduceMul, Int.reduceEq, Int.reduceNeg, reduceCtorEq, resV, resAll, ARes.ev, LV.flat, ite_true, ite_false, exists_eq_left', exists_eq_left, keyOf, implies_true, fillC, capOf]
    by_cases k1 : Ones tp ∧ (tp.length : Int) = x * y
    · simp (disch := omega) only [k1, true_and, ↓SXd, SXu, slBounds, ↓sop, ↓aop, ↓reduceIte, LV.cells, AOp.dst, LV.I, LV.B, LV.U, LV.S, LV.nil, Nat.reduceEqDiff, Nat.reduceAdd, Nat.reduceMul, Nat.reduceSub, Nat.reduceLeDiff, Nat.reduceBEq, Nat.reduceDiv, Nat.reduceMod, Int.reduceToNat, Int.reduceLT, Int.reduceLE, Int.reduceAdd, Int.reduceSub, Int.reduceMul, Int.reduceEq, Int.reduceNeg, reduceCtorEq, resV, resAll, ARes.ev, LV.flat, ite_true, ite_false, exists_eq_left', exists_eq_left, keyOf, implies_true, fillC, capOf]
      refine callK_of (h_l3Ones h2.app l2) ?_
      simp (disch := omega) only [↓SXd, SXu, slBounds, ↓sop, ↓aop, ↓reduceIte, LV.cells, AOp.dst, LV.I, LV.B, LV.U, LV.S, LV.nil, Nat.reduceEqDiff, Nat.reduceAdd, Nat.reduceMul, Nat.reduceSub, Nat.reduceLeDiff, Nat.reduceBEq, Nat.reduceDiv, Nat.reduceMod, Int.reduceToNat, Int.reduceLT, Int.reduceLE, Int.reduceAdd, Int.reduceSub, Int.reduceMul, Int.reduceEq, Int.reduceNeg, reduceCtorEq, resV, resAll, ARes.ev, LV.flat, ite_true, ite_false, exists_eq_left', exists_eq_left, keyOf, implies_true, fillC, capOf]
      by_cases k2 : Ones fr ∧ (fr.length : Int) = x * z
      · simp (disch := omega) only [k2, true_and, ↓SXd, SXu, slBounds, ↓sop, ↓aop, ↓reduceIte, LV.cells, AOp.dst, LV.I, LV.B, LV.U, LV.S, LV.nil, Nat.reduceEqDiff, Nat.reduceAdd, Nat.reduceMul, Nat.reduceSub, Nat.reduceLeDiff, Nat.reduceBEq, Nat.reduceDiv, Nat.reduceMod, Int.reduceToNat, Int.reduceLT, Int.reduceLE, Int.reduceAdd, Int.reduceSub, Int.reduceMul, Int.reduceEq, Int.reduceNeg, reduceCtorEq, resV, resAll, ARes.ev, LV.flat, ite_true, ite_false, exists_eq_left', exists_eq_left, keyOf, implies_true, fillC, capOf]
        refine callK_of (h_l3Ones h3.app l3) ?_
        simp (disch := omega) only [↓SXd, SXu, slBounds, ↓sop, ↓aop, ↓reduceIte, LV.cells, AOp.dst, LV.I, LV.B, LV.U, LV.S, LV.nil, Nat.reduceEqDiff, Nat.reduceAdd, Nat.reduceMul, Nat.reduceSub, Nat.reduceLeDiff, Nat.reduceBEq, Nat.reduceDiv, Nat.reduceMod, Int.reduceToNat, Int.reduceLT, Int.reduceLE, Int.reduceAdd, Int.reduceSub, Int.reduceMul, Int.reduceEq, Int.reduceNeg, reduceCtorEq, resV, resAll, ARes.ev, LV.flat, ite_true, ite_false, exists_eq_left', exists_eq_left, keyOf, implies_true, fillC, capOf]
        exact cmp_drop rfl
      · simp (disch := omega) only [k2, false_and, ↓SXd, SXu, slBounds, ↓sop, ↓aop, ↓reduceIte, LV.cells, AOp.dst, LV.I, LV.B, LV.U, LV.S, LV.nil, Nat.reduceEqDiff, Nat.reduceAdd, Nat.reduceMul, Nat.reduceSub, Nat.reduceLeDiff, Nat.reduceBEq, Nat.reduceDiv, Nat.reduceMod, Int.reduceToNat, Int.reduceLT, Int.reduceLE, Int.reduceAdd, Int.reduceSub, Int.reduceMul, Int.reduceEq, Int.reduceNeg, reduceCtorEq, resV, resAll, ARes.ev, LV.flat, ite_true, ite_false, exists_eq_left', exists_eq_left, keyOf, implies_true, fillC, capOf]
        exact cmp_drop rfl
    · simp (disch := omega) only [k1, false_and, ↓SXd, SXu, slBounds, ↓sop, ↓aop, ↓reduceIte, LV.cells, AOp.dst, LV.I, LV.B, LV.U, LV.S, LV.nil, Nat.reduceEqDiff, Nat.reduceAdd, Nat.reduceMul, Nat.reduceSub, Nat.reduceLeDiff, Nat.reduceBEq, Nat.reduceDiv, Nat.reduceMod, Int.reduceToNat, Int.reduceLT, Int.reduceLE, Int.reduceAdd, Int.reduceSub, Int.reduceMul, Int.reduceEq, Int.reduceNeg, reduceCtorEq, resV, resAll, ARes.ev, LV.flat, ite_true, ite_false, exists_eq_left', exists_eq_left, keyOf, implies_true, fillC, capOf]
      exact cmp_drop rfl
  · simp (disch := omega) only [hS, false_and, ↓SXd, SXu, slBounds, ↓sop, ↓aop, ↓reduceIte, LV.cells, AOp.dst, LV.I, LV.B, LV.U, LV.S, LV.nil, Nat.reduceEqDiff, Nat.reduceAdd, Nat.reduceMul, Nat.reduceSub, Nat.reduceLeDiff, Nat.reduceBEq, Nat.reduceDiv, Nat.reduceMod, Int.reduceToNat, Int.reduceLT, Int.reduceLE, Int.reduceAdd, Int.reduceSub, Int.reduceMul, Int.reduceEq, Int.reduceNeg, reduceCtorEq, resV, resAll, ARes.ev, LV.flat, ite_true, ite_false, exists_eq_left', exists_eq_left, keyOf, implies_true, fillC, capOf]
    exact cmp_drop rfl
end Go.Ab

/- The abstract code of some functions (written by a program of mine from the translation, by way of prepF). -/
namespace Go.Ab.C
open Go.Ab
def impl_box_size : AFn :=
  ⟨1, 11, [.tmp 2],
    .seq (.ops [(none, .box 1 (.t 0)),
       (none, .mv 2 (.c (.I 0)))])
    (.seq (.ops [(none, .idxA 3 3 1 (.t 1) (.c (.I 0))),
        (none, .load1 4 (.t 3)),
        (none, .idxA 5 3 1 (.t 1) (.c (.I 1))),
        (none, .load1 6 (.t 5)),
        (none, .bin 7 .mul (.t 4) (.t 6)),
        (none, .idxA 8 3 1 (.t 1) (.c (.I 2))),
        (none, .load1 9 (.t 8)),
        (none, .bin 10 .mul (.t 7) (.t 9)),
        (none, .mv 2 (.t 10))])
     (.ret))⟩
def impl_box_cell : AFn :=
  ⟨2, 24, [.cellN 4 3],
    .seq (.ops [(none, .box 2 (.t 0)),
       (none, .alloc 4 [(.I 0), (.I 0), (.I 0)])])
    (.seq (.draw [⟨(none, .mv 5 (.t 1)), [], []⟩,
        ⟨(none, .idxA 6 3 1 (.t 2) (.c (.I 2))), [], []⟩,
        ⟨(none, .load1 7 (.t 6)), [], []⟩,
        ⟨(none, .bin 8 .quo (.t 5) (.t 7)), [], []⟩,
        ⟨(none, .idxA 9 3 1 (.t 2) (.c (.I 1))), [], []⟩,
        ⟨(none, .load1 10 (.t 9)), [], []⟩,
        ⟨(none, .bin 11 .quo (.t 8) (.t 10)), [], []⟩,
        ⟨(none, .mv 12 (.t 1)), [], []⟩,
        ⟨(none, .idxA 13 3 1 (.t 2) (.c (.I 2))), [], []⟩,
        ⟨(none, .load1 14 (.t 13)), [], []⟩,
        ⟨(none, .bin 15 .quo (.t 12) (.t 14)), [], []⟩,
        ⟨(none, .idxA 16 3 1 (.t 2) (.c (.I 1))), [], []⟩,
        ⟨(none, .load1 17 (.t 16)), [], []⟩,
        ⟨(none, .bin 18 .rem (.t 15) (.t 17)), [], []⟩,
        ⟨(none, .mv 19 (.t 1)), [], []⟩,
        ⟨(none, .idxA 20 3 1 (.t 2) (.c (.I 2))), [], []⟩,
        ⟨(none, .load1 21 (.t 20)), [], []⟩,
        ⟨(none, .bin 22 .rem (.t 19) (.t 21)), [], []⟩,
        ⟨(none, .build 23 [(.I 0), (.I 0), (.I 0)] [(0, 1, (.t 11)), (1, 1, (.t 18)), (2, 1, (.t 22))]), [], []⟩,
        ⟨(none, .store 3 (.t 4) (.t 23)), [], []⟩])
     (.ret))⟩
def impl_set_has : AFn :=
  ⟨2, 10, [.tmp 4],
    .seq (.ops [(none, .mv 4 (.c (.B false)))])
    (.seq (.ops [(none, .mv 5 (.t 0)),
        (none, .mv 6 (.t 1)),
        (none, .bin 7 .shr (.t 5) (.t 6)),
        (none, .bin 8 .and (.t 7) (.c (.U 1))),
        (none, .bin 9 .eql (.t 8) (.c (.U 1))),
        (none, .mv 4 (.t 9))])
     (.ret))⟩
def impl_box_list : AFn :=
  ⟨2, 24, [.tmp 4],
    .seq (.ops [(none, .box 2 (.t 0)),
       (none, .mv 4 (.c .nil))])
    (.seq (.ops [(none, .buildSl 7 0 3 [] []),
        (none, .mv 5 (.t 7))])
     (.seq (.seq (.ops [(none, .loadN 8 3 (.t 2)),
          (none, .call (some 9) F.impl_box_size [(.t 8)]),
          (none, .mv 10 (.c (.I 0)))])
       (.block 0 (.loop (.seq (.ops [(none, .bin 11 .lss (.t 10) (.t 9))])
          (.seq (.cond (.t 11) (.skip)
            (.exit 0))
           (.seq (.block 1 (.seq (.ops [(none, .mv 12 (.t 10)),
                 (none, .mv 6 (.t 12))])
              (.seq (.ops [(none, .mv 13 (.t 1)),
                  (none, .mv 14 (.t 6)),
                  (none, .call (some 15) F.impl_set_has [(.t 13), (.t 14)])])
               (.cond (.t 15) (.ops [(none, .mv 16 (.t 5)),
                   (none, .loadN 17 3 (.t 2)),
                   (none, .mv 18 (.t 6)),
                   (none, .call (some 19) F.impl_box_cell [(.t 17), (.t 18)]),
                   (none, .buildSl 20 1 3 [(.I 0), (.I 0), (.I 0)] [(0, 3, (.t 19))]),
                   (none, .append 21 3 24 (.t 16) (.t 20)),
                   (none, .mv 5 (.t 21))])
                (.skip)))))
            (.ops [(none, .bin 22 .add (.t 10) (.c (.I 1))),
               (none, .mv 10 (.t 22))])))))))
      (.seq (.ops [(none, .mv 23 (.t 5)),
          (none, .mv 4 (.t 23))])
       (.ret))))⟩
def impl_box_heap : AFn :=
  ⟨2, 15, [.cellN 4 4],
    .seq (.ops [(none, .box 2 (.t 0)),
       (none, .alloc 4 [(.I 0), (.I 0), (.I 0), .nil])])
    (.seq (.draw [⟨(none, .idxA 5 3 1 (.t 2) (.c (.I 0))), [], []⟩,
        ⟨(none, .load1 6 (.t 5)), [], []⟩,
        ⟨(none, .idxA 7 3 1 (.t 2) (.c (.I 1))), [], []⟩,
        ⟨(none, .load1 8 (.t 7)), [], []⟩,
        ⟨(none, .idxA 9 3 1 (.t 2) (.c (.I 2))), [], []⟩,
        ⟨(none, .load1 10 (.t 9)), [], []⟩,
        ⟨(none, .loadN 11 3 (.t 2)), [], []⟩,
        ⟨(none, .mv 12 (.t 1)), [], []⟩,
        ⟨(none, .call (some 13) F.impl_box_list [(.t 11), (.t 12)]), [], [0, 1, 2, 3, 4, 5]⟩,
        ⟨(none, .build 14 [(.I 0), (.I 0), (.I 0), .nil] [(0, 1, (.t 6)), (1, 1, (.t 8)), (2, 1, (.t 10)), (3, 1, (.t 13))]), [], []⟩,
        ⟨(none, .store 4 (.t 4) (.t 14)), [], []⟩])
     (.ret))⟩
def impl_box_those : AFn :=
  ⟨2, 23, [.tmp 4],
    .seq (.ops [(none, .box 2 (.t 0)),
       (none, .mv 4 (.c (.U 0)))])
    (.seq (.ops [(none, .mv 5 (.c (.U 0)))])
     (.seq (.seq (.ops [(none, .loadN 7 3 (.t 2)),
          (none, .call (some 8) F.impl_box_size [(.t 7)]),
          (none, .mv 9 (.c (.I 0)))])
       (.block 0 (.loop (.seq (.ops [(none, .bin 10 .lss (.t 9) (.t 8))])
          (.seq (.cond (.t 10) (.skip)
            (.exit 0))
           (.seq (.block 1 (.seq (.ops [(none, .mv 11 (.t 9)),
                 (none, .mv 6 (.t 11))])
              (.seq (.ops [(none, .mv 12 (.t 1)),
                  (none, .loadN 13 3 (.t 2)),
                  (none, .mv 14 (.t 6)),
                  (none, .call (some 15) F.impl_box_cell [(.t 13), (.t 14)]),
                  (none, .callV (some 16) (.t 12) [(.t 15)])])
               (.cond (.t 16) (.ops [(none, .mv 17 (.t 5)),
                   (none, .mv 18 (.t 6)),
                   (none, .bin 19 .shl (.c (.U 1)) (.t 18)),
                   (none, .bin 20 .or (.t 17) (.t 19)),
                   (none, .mv 5 (.t 20))])
                (.skip)))))
            (.ops [(none, .bin 21 .add (.t 9) (.c (.I 1))),
               (none, .mv 9 (.t 21))])))))))
      (.seq (.ops [(none, .mv 22 (.t 5)),
          (none, .mv 4 (.t 22))])
       (.ret))))⟩
end Go.Ab.C

/- That the program has this code. -/
namespace Go.Ab.K
open Go Go.Ab
theorem impl_box_size : prepF Go.Proofs.Try.prog F.impl_box_size = some C.impl_box_size := by kernel_rfl
theorem impl_box_cell : prepF Go.Proofs.Try.prog F.impl_box_cell = some C.impl_box_cell := by kernel_rfl
theorem impl_set_has : prepF Go.Proofs.Try.prog F.impl_set_has = some C.impl_set_has := by kernel_rfl
theorem impl_box_list : prepF Go.Proofs.Try.prog F.impl_box_list = some C.impl_box_list := by kernel_rfl
theorem impl_box_heap : prepF Go.Proofs.Try.prog F.impl_box_heap = some C.impl_box_heap := by kernel_rfl
theorem impl_box_those : prepF Go.Proofs.Try.prog F.impl_box_those = some C.impl_box_those := by kernel_rfl
end Go.Ab.K

/- Contracts: the program's boxes, cells and sets. -/
namespace Go.Ab
open Go
set_option linter.unusedSimpArgs false
set_option linter.unusedVariables false

theorem set_bit {s : BitVec 64} {n : Nat} : decide (s >>> n &&& 1#64 = 1#64) = s.getLsbD n := by
  have : (s >>> n &&& 1#64 = 1#64) ↔ s.getLsbD n = true := by
    constructor
    · intro h
      have := congrArg (fun t => BitVec.getLsbD t 0) h
      simpa using this
    · intro h
      apply BitVec.eq_of_getLsbD_eq
      intro i hi
      rw [BitVec.getLsbD_and, BitVec.getLsbD_one]
      by_cases h0 : i = 0
      · subst h0; simp [h]
      · simp [h0]
  by_cases h : s.getLsbD n = true
  · rw [h, decide_eq_true (this.2 h)]
  · rw [decide_eq_false (fun e => h (this.1 e))]; simpa using h

theorem g_has_set {s : BitVec 64} {i : Int} {M : Mem} (hi : 0 ≤ i) : CallsTo PG F.impl_set_has [.W s, .I i] M (.B (s.getLsbD i.toNat)) M := by
  refine calls_run K.impl_set_has rfl ?_
  simp (disch := omega) only [C.impl_set_has, set_bit, ↓SXd, SXu, slBounds, ↓sop, ↓aop, ↓reduceIte, LV.cells, AOp.dst, LV.I, LV.B, LV.U, LV.S, LV.nil, Nat.reduceEqDiff, Nat.reduceAdd, Nat.reduceMul, Nat.reduceSub, Nat.reduceLeDiff, Nat.reduceBEq, Nat.reduceDiv, Nat.reduceMod, Int.reduceToNat, Int.reduceLT, Int.reduceLE, Int.reduceAdd, Int.reduceSub, Int.reduceMul, Int.reduceEq, Int.reduceNeg, reduceCtorEq, resV, resAll, ARes.ev, LV.flat, ite_true, ite_false, exists_eq_left', exists_eq_left, keyOf, implies_true, fillC, capOf]
  exact cmp_drop0 rfl

section
variable {x y z : Int} (hS : Sides x y z)
include hS

theorem g_size {M : Mem} : CallsTo PG F.impl_box_size [.agg [.I x, .I y, .I z]] M (.I ((vol x y z : Nat) : Int)) M := by
  have hb := vol_bound hS
  have hv := vol_cast hS
  refine calls_run K.impl_box_size rfl ?_
  simp (disch := omega) only [C.impl_box_size, ↓SXd, SXu, slBounds, ↓sop, ↓aop, ↓reduceIte, LV.cells, AOp.dst, LV.I, LV.B, LV.U, LV.S, LV.nil, Nat.reduceEqDiff, Nat.reduceAdd, Nat.reduceMul, Nat.reduceSub, Nat.reduceLeDiff, Nat.reduceBEq, Nat.reduceDiv, Nat.reduceMod, Int.reduceToNat, Int.reduceLT, Int.reduceLE, Int.reduceAdd, Int.reduceSub, Int.reduceMul, Int.reduceEq, Int.reduceNeg, reduceCtorEq, resV, resAll, ARes.ev, LV.flat, ite_true, ite_false, exists_eq_left', exists_eq_left, keyOf, implies_true, fillC, capOf]
  rw [hv.1]
  exact cmp_drop rfl

theorem g_cell {i : Int} {M : Mem} (h0 : 0 ≤ i) (hi : i < x * y * z) : CallsTo PG F.impl_box_cell [.agg [.I x, .I y, .I z], .I i] M (.agg [.I (cellAt y z i).a, .I (cellAt y z i).b, .I (cellAt y z i).c]) M := by
  have hb := vol_bound hS
  obtain ⟨hx, hy, hz⟩ := id hS
  have hy0 : y ≠ 0 := by omega
  have hz0 : z ≠ 0 := by omega
  have q1 : 0 ≤ i.tdiv z ∧ i.tdiv z ≤ 100 := by
    rw [Int.tdiv_eq_ediv_of_nonneg h0]
    exact ⟨Int.ediv_nonneg h0 (by omega), Int.le_trans (Int.ediv_le_self z h0) (by omega)⟩
  have q2 : 0 ≤ (i.tdiv z).tdiv y ∧ (i.tdiv z).tdiv y ≤ 100 := by
    rw [Int.tdiv_eq_ediv_of_nonneg q1.1]
    exact ⟨Int.ediv_nonneg q1.1 (by omega), Int.le_trans (Int.ediv_le_self y q1.1) (by omega)⟩
  have q3 : 0 ≤ (i.tdiv z).tmod y ∧ (i.tdiv z).tmod y ≤ 100 := by
    rw [Int.tmod_eq_emod_of_nonneg q1.1]
    have := Int.emod_lt_of_pos (i.tdiv z) (show 0 < y by omega)
    exact ⟨Int.emod_nonneg _ hy0, by omega⟩
  have q4 : 0 ≤ i.tmod z ∧ i.tmod z ≤ 100 := by
    rw [Int.tmod_eq_emod_of_nonneg h0]
    have := Int.emod_lt_of_pos i (show 0 < z by omega)
    exact ⟨Int.emod_nonneg _ hz0, by omega⟩
  refine calls_run K.impl_box_cell rfl ?_
  simp (disch := omega) only [C.impl_box_cell, ne_eq, not_false_eq_true, hy0, hz0, splice, ↓SXd, SXu, slBounds, ↓sop, ↓aop, ↓reduceIte, LV.cells, AOp.dst, LV.I, LV.B, LV.U, LV.S, LV.nil, Nat.reduceEqDiff, Nat.reduceAdd, Nat.reduceMul, Nat.reduceSub, Nat.reduceLeDiff, Nat.reduceBEq, Nat.reduceDiv, Nat.reduceMod, Int.reduceToNat, Int.reduceLT, Int.reduceLE, Int.reduceAdd, Int.reduceSub, Int.reduceMul, Int.reduceEq, Int.reduceNeg, reduceCtorEq, resV, resAll, ARes.ev, LV.flat, ite_true, ite_false, exists_eq_left', exists_eq_left, keyOf, implies_true, fillC, capOf]
  exact cmp_drop rfl

theorem range_pick_step {p : Cell → Bool} {k : Nat} : ((List.range (k + 1)).map fun (i : Nat) => cellAt y z i).filter p = ((List.range k).map fun (i : Nat) => cellAt y z i).filter p ++ (if p (cellAt y z k) then [cellAt y z k] else []) := by
  rw [List.range_succ, List.map_append, List.filter_append]
  congr 1
  by_cases h : p (cellAt y z k) = true
  · simp [h]
  · simp [h]

theorem g_list {p : Cell → Bool} {M : Mem} : CallsTo PG F.impl_box_list [.agg [.I x, .I y, .I z], .W (bs x y z p)] M (.ref M.length 0 (pick x y z p).length) (M ++ [some (.row (triL (pick x y z p)) true 3)]) := by
  have hv := vol_cast hS
  refine calls_run K.impl_box_list rfl ?_
  simp (disch := omega) only [C.impl_box_list, ↓SXd, SXu, slBounds, ↓sop, ↓aop, ↓reduceIte, LV.cells, AOp.dst, LV.I, LV.B, LV.U, LV.S, LV.nil, Nat.reduceEqDiff, Nat.reduceAdd, Nat.reduceMul, Nat.reduceSub, Nat.reduceLeDiff, Nat.reduceBEq, Nat.reduceDiv, Nat.reduceMod, Int.reduceToNat, Int.reduceLT, Int.reduceLE, Int.reduceAdd, Int.reduceSub, Int.reduceMul, Int.reduceEq, Int.reduceNeg, reduceCtorEq, resV, resAll, ARes.ev, LV.flat, ite_true, ite_false, exists_eq_left', exists_eq_left, keyOf, implies_true, fillC, capOf]
  refine callK_of (g_size hS) ?_
  simp (disch := omega) only [↓SXd, SXu, slBounds, ↓sop, ↓aop, ↓reduceIte, LV.cells, AOp.dst, LV.I, LV.B, LV.U, LV.S, LV.nil, Nat.reduceEqDiff, Nat.reduceAdd, Nat.reduceMul, Nat.reduceSub, Nat.reduceLeDiff, Nat.reduceBEq, Nat.reduceDiv, Nat.reduceMod, Int.reduceToNat, Int.reduceLT, Int.reduceLE, Int.reduceAdd, Int.reduceSub, Int.reduceMul, Int.reduceEq, Int.reduceNeg, reduceCtorEq, resV, resAll, ARes.ev, LV.flat, ite_true, ite_false, exists_eq_left', exists_eq_left, keyOf, implies_true, fillC, capOf]
  refine ev_loop (fun m fr M' => ∃ (k u : Nat) (acc : List Cell), k + m = vol x y z ∧ acc = ((List.range k).map fun (i : Nat) => cellAt y z i).filter p ∧ Pre M M' ∧ Live M' M.length (.row [.I x, .I y, .I z] true 0) ∧ M.length + 1 ≤ u ∧ Live M' u (.row (triL acc) true 3) ∧
    fr 1 = .W (bs x y z p) ∧ fr 2 = .ptr M.length 0 ∧ fr 5 = .ref u 0 acc.length ∧ fr 9 = .I ((vol x y z : Nat) : Int) ∧ fr 10 = .I k) (vol x y z)
    ⟨0, M.length + 1, [], by omega, rfl, Pre.app _ _, Live.new, by omega, Live.newj rfl, rfl, rfl, rfl, rfl, rfl⟩ ?_
  rintro m fr M' ⟨k, u, acc, hk, hacc, hpre, hbox, hu, hout, f1, f2, f5, f9, f10⟩
  have hal : acc.length ≤ k := by
    rw [hacc]
    exact Nat.le_trans (List.length_filter_le _ _) (by simp)
  simp (disch := omega) only [f1, f2, f5, f9, f10, ↓SXd, SXu, slBounds, ↓sop, ↓aop, ↓reduceIte, LV.cells, AOp.dst, LV.I, LV.B, LV.U, LV.S, LV.nil, Nat.reduceEqDiff, Nat.reduceAdd, Nat.reduceMul, Nat.reduceSub, Nat.reduceLeDiff, Nat.reduceBEq, Nat.reduceDiv, Nat.reduceMod, Int.reduceToNat, Int.reduceLT, Int.reduceLE, Int.reduceAdd, Int.reduceSub, Int.reduceMul, Int.reduceEq, Int.reduceNeg, reduceCtorEq, resV, resAll, ARes.ev, LV.flat, ite_true, ite_false, exists_eq_left', exists_eq_left, keyOf, implies_true, fillC, capOf]
  refine condC_dec (fun hlt => ?_) (fun hlt => ?_)
  · simp (disch := omega) only [f1, f2, f5, f9, f10, ↓SXd, SXu, slBounds, ↓sop, ↓aop, ↓reduceIte, LV.cells, AOp.dst, LV.I, LV.B, LV.U, LV.S, LV.nil, Nat.reduceEqDiff, Nat.reduceAdd, Nat.reduceMul, Nat.reduceSub, Nat.reduceLeDiff, Nat.reduceBEq, Nat.reduceDiv, Nat.reduceMod, Int.reduceToNat, Int.reduceLT, Int.reduceLE, Int.reduceAdd, Int.reduceSub, Int.reduceMul, Int.reduceEq, Int.reduceNeg, reduceCtorEq, resV, resAll, ARes.ev, LV.flat, ite_true, ite_false, exists_eq_left', exists_eq_left, keyOf, implies_true, fillC, capOf]
    refine callK_of (g_has_set (by omega)) ?_
    simp (disch := omega) only [f1, f2, f5, f9, f10, ↓SXd, SXu, slBounds, ↓sop, ↓aop, ↓reduceIte, LV.cells, AOp.dst, LV.I, LV.B, LV.U, LV.S, LV.nil, Nat.reduceEqDiff, Nat.reduceAdd, Nat.reduceMul, Nat.reduceSub, Nat.reduceLeDiff, Nat.reduceBEq, Nat.reduceDiv, Nat.reduceMod, Int.reduceToNat, Int.reduceLT, Int.reduceLE, Int.reduceAdd, Int.reduceSub, Int.reduceMul, Int.reduceEq, Int.reduceNeg, reduceCtorEq, resV, resAll, ARes.ev, LV.flat, ite_true, ite_false, exists_eq_left', exists_eq_left, keyOf, implies_true, fillC, capOf]
    have hst := range_pick_step hS (p := p) (k := k)
    have hbit := bs_bit hS p k
    rw [decide_eq_true (show k < vol x y z by omega), Bool.true_and] at hbit
    rw [hbit]
    by_cases hp : p (cellAt y z k) = true
    · rw [hp]
      rw [hp, if_pos rfl, ← hacc] at hst
      simp (disch := omega) only [f1, f2, f5, f9, f10, hbox.cells, ↓SXd, SXu, slBounds, ↓sop, ↓aop, ↓reduceIte, LV.cells, AOp.dst, LV.I, LV.B, LV.U, LV.S, LV.nil, Nat.reduceEqDiff, Nat.reduceAdd, Nat.reduceMul, Nat.reduceSub, Nat.reduceLeDiff, Nat.reduceBEq, Nat.reduceDiv, Nat.reduceMod, Int.reduceToNat, Int.reduceLT, Int.reduceLE, Int.reduceAdd, Int.reduceSub, Int.reduceMul, Int.reduceEq, Int.reduceNeg, reduceCtorEq, resV, resAll, ARes.ev, LV.flat, ite_true, ite_false, exists_eq_left', exists_eq_left, keyOf, implies_true, fillC, capOf]
      refine callK_of (g_cell hS (by omega) (by omega)) ?_
      simp (disch := omega) only [f1, f2, f5, f9, f10, ↓SXd, SXu, slBounds, ↓sop, ↓aop, ↓reduceIte, LV.cells, AOp.dst, LV.I, LV.B, LV.U, LV.S, LV.nil, Nat.reduceEqDiff, Nat.reduceAdd, Nat.reduceMul, Nat.reduceSub, Nat.reduceLeDiff, Nat.reduceBEq, Nat.reduceDiv, Nat.reduceMod, Int.reduceToNat, Int.reduceLT, Int.reduceLE, Int.reduceAdd, Int.reduceSub, Int.reduceMul, Int.reduceEq, Int.reduceNeg, reduceCtorEq, resV, resAll, ARes.ev, LV.flat, ite_true, ite_false, exists_eq_left', exists_eq_left, keyOf, implies_true, fillC, capOf]
      refine appendK_cell hout (by omega) fun N' l1 l2 l3 => ?_
      simp (disch := omega) only [f1, f2, f5, f9, f10, ↓SXd, SXu, slBounds, ↓sop, ↓aop, ↓reduceIte, LV.cells, AOp.dst, LV.I, LV.B, LV.U, LV.S, LV.nil, Nat.reduceEqDiff, Nat.reduceAdd, Nat.reduceMul, Nat.reduceSub, Nat.reduceLeDiff, Nat.reduceBEq, Nat.reduceDiv, Nat.reduceMod, Int.reduceToNat, Int.reduceLT, Int.reduceLE, Int.reduceAdd, Int.reduceSub, Int.reduceMul, Int.reduceEq, Int.reduceNeg, reduceCtorEq, resV, resAll, ARes.ev, LV.flat, ite_true, ite_false, exists_eq_left', exists_eq_left, keyOf, implies_true, fillC, capOf]
      exact ⟨m - 1, by omega, k + 1, _, _, by omega, hst.symm, pre_step hpre (by omega) l1 l3, live_step hbox (by omega) l3, by have := hpre.1; omega, l2, f1, f2, rfl, f9, eqI (natI _)⟩
    · have hp' : p (cellAt y z k) = false := by simpa using hp
      rw [hp']
      rw [hp', if_neg (by simp), List.append_nil, ← hacc] at hst
      simp (disch := omega) only [f1, f2, f5, f9, f10, ↓SXd, SXu, slBounds, ↓sop, ↓aop, ↓reduceIte, LV.cells, AOp.dst, LV.I, LV.B, LV.U, LV.S, LV.nil, Nat.reduceEqDiff, Nat.reduceAdd, Nat.reduceMul, Nat.reduceSub, Nat.reduceLeDiff, Nat.reduceBEq, Nat.reduceDiv, Nat.reduceMod, Int.reduceToNat, Int.reduceLT, Int.reduceLE, Int.reduceAdd, Int.reduceSub, Int.reduceMul, Int.reduceEq, Int.reduceNeg, reduceCtorEq, resV, resAll, ARes.ev, LV.flat, ite_true, ite_false, exists_eq_left', exists_eq_left, keyOf, implies_true, fillC, capOf]
      exact ⟨m - 1, by omega, k + 1, u, acc, by omega, hst.symm, hpre, hbox, hu, hout, f1, f2, f5, f9, eqI (natI _)⟩
  · simp (disch := omega) only [f1, f2, f5, f9, f10, ↓SXd, SXu, slBounds, ↓sop, ↓aop, ↓reduceIte, LV.cells, AOp.dst, LV.I, LV.B, LV.U, LV.S, LV.nil, Nat.reduceEqDiff, Nat.reduceAdd, Nat.reduceMul, Nat.reduceSub, Nat.reduceLeDiff, Nat.reduceBEq, Nat.reduceDiv, Nat.reduceMod, Int.reduceToNat, Int.reduceLT, Int.reduceLE, Int.reduceAdd, Int.reduceSub, Int.reduceMul, Int.reduceEq, Int.reduceNeg, reduceCtorEq, resV, resAll, ARes.ev, LV.flat, ite_true, ite_false, exists_eq_left', exists_eq_left, keyOf, implies_true, fillC, capOf]
    have : k = vol x y z := by omega
    subst this
    have e : pick x y z p = acc := hacc.symm
    rw [e]
    exact cmp_keepL hpre (by omega) hout (triL_lo acc) (by simp [rn, rn0, rn1])

theorem g_heap {p : Cell → Bool} {M : Mem} : CallsTo PG F.impl_box_heap [.agg [.I x, .I y, .I z], .W (bs x y z p)] M (.agg [.I x, .I y, .I z, .ref M.length 0 (pick x y z p).length]) (M ++ [some (.row (triL (pick x y z p)) true 3)]) := by
  refine calls_run K.impl_box_heap rfl ?_
  simp (disch := omega) only [C.impl_box_heap, ↓SXd, SXu, slBounds, ↓sop, ↓aop, ↓reduceIte, LV.cells, AOp.dst, LV.I, LV.B, LV.U, LV.S, LV.nil, Nat.reduceEqDiff, Nat.reduceAdd, Nat.reduceMul, Nat.reduceSub, Nat.reduceLeDiff, Nat.reduceBEq, Nat.reduceDiv, Nat.reduceMod, Int.reduceToNat, Int.reduceLT, Int.reduceLE, Int.reduceAdd, Int.reduceSub, Int.reduceMul, Int.reduceEq, Int.reduceNeg, reduceCtorEq, resV, resAll, ARes.ev, LV.flat, ite_true, ite_false, exists_eq_left', exists_eq_left, keyOf, implies_true, fillC, capOf]
  refine callK_of (g_list hS) ?_
  simp (disch := omega) only [splice, ↓SXd, SXu, slBounds, ↓sop, ↓aop, ↓reduceIte, LV.cells, AOp.dst, LV.I, LV.B, LV.U, LV.S, LV.nil, Nat.reduceEqDiff, Nat.reduceAdd, Nat.reduceMul, Nat.reduceSub, Nat.reduceLeDiff, Nat.reduceBEq, Nat.reduceDiv, Nat.reduceMod, Int.reduceToNat, Int.reduceLT, Int.reduceLE, Int.reduceAdd, Int.reduceSub, Int.reduceMul, Int.reduceEq, Int.reduceNeg, reduceCtorEq, resV, resAll, ARes.ev, LV.flat, ite_true, ite_false, exists_eq_left', exists_eq_left, keyOf, implies_true, fillC, capOf]
  exact cmp_keep1 (j := 2) rfl (triL_lo _) (by simp [rn, rn0, rn1, keepR_n])
end

/-- The six neighbours of a cell, as the program looks at them. -/
def nbrs (c : Cell) : List Cell := [⟨c.a + -1, c.b, c.c⟩, ⟨c.a + 1, c.b, c.c⟩, ⟨c.a, c.b + -1, c.c⟩, ⟨c.a, c.b + 1, c.c⟩, ⟨c.a, c.b, c.c + -1⟩, ⟨c.a, c.b, c.c + 1⟩]
section
variable {x y z : Int} (hS : Sides x y z)
include hS
theorem g_those {p : Cell → Bool} {f : FuncId} {caps : List (Nat × Nat)} {M : Mem}
    (hf : ∀ M', Pre M M' → ∀ i : Nat, i < vol x y z → CallsTo PG f ([.agg [.I (cellAt y z i).a, .I (cellAt y z i).b, .I (cellAt y z i).c]] ++ caps.map fun p => .ptr p.1 p.2) M' (.B (p (cellAt y z i))) M') :
    CallsTo PG F.impl_box_those [.agg [.I x, .I y, .I z], .clo f caps] M (.W (bs x y z p)) M := by
  have hv := vol_cast hS
  refine calls_run K.impl_box_those rfl ?_
  simp (disch := omega) only [C.impl_box_those, ↓SXd, SXu, slBounds, ↓sop, ↓aop, ↓reduceIte, LV.cells, AOp.dst, LV.I, LV.B, LV.U, LV.S, LV.nil, Nat.reduceEqDiff, Nat.reduceAdd, Nat.reduceMul, Nat.reduceSub, Nat.reduceLeDiff, Nat.reduceBEq, Nat.reduceDiv, Nat.reduceMod, Int.reduceToNat, Int.reduceLT, Int.reduceLE, Int.reduceAdd, Int.reduceSub, Int.reduceMul, Int.reduceEq, Int.reduceNeg, reduceCtorEq, resV, resAll, ARes.ev, LV.flat, ite_true, ite_false, exists_eq_left', exists_eq_left, keyOf, implies_true, fillC, capOf]
  refine callK_of (g_size hS) ?_
  simp (disch := omega) only [↓SXd, SXu, slBounds, ↓sop, ↓aop, ↓reduceIte, LV.cells, AOp.dst, LV.I, LV.B, LV.U, LV.S, LV.nil, Nat.reduceEqDiff, Nat.reduceAdd, Nat.reduceMul, Nat.reduceSub, Nat.reduceLeDiff, Nat.reduceBEq, Nat.reduceDiv, Nat.reduceMod, Int.reduceToNat, Int.reduceLT, Int.reduceLE, Int.reduceAdd, Int.reduceSub, Int.reduceMul, Int.reduceEq, Int.reduceNeg, reduceCtorEq, resV, resAll, ARes.ev, LV.flat, ite_true, ite_false, exists_eq_left', exists_eq_left, keyOf, implies_true, fillC, capOf]
  refine ev_loop (fun m fr M' => ∃ k : Nat, k + m = vol x y z ∧ Pre M M' ∧ Live M' M.length (.row [.I x, .I y, .I z] true 0) ∧ fr 1 = .clo f caps ∧ fr 2 = .ptr M.length 0 ∧ fr 5 = .W (bsN k fun i => p (cellAt y z i)) ∧ fr 8 = .I ((vol x y z : Nat) : Int) ∧ fr 9 = .I k) (vol x y z)
    ⟨0, by omega, Pre.app _ _, Live.new, rfl, rfl, rfl, rfl, rfl⟩ ?_
  rintro m fr M' ⟨k, hk, hpre, hbox, f1, f2, f5, f8, f9⟩
  simp (disch := omega) only [f1, f2, f5, f8, f9, ↓SXd, SXu, slBounds, ↓sop, ↓aop, ↓reduceIte, LV.cells, AOp.dst, LV.I, LV.B, LV.U, LV.S, LV.nil, Nat.reduceEqDiff, Nat.reduceAdd, Nat.reduceMul, Nat.reduceSub, Nat.reduceLeDiff, Nat.reduceBEq, Nat.reduceDiv, Nat.reduceMod, Int.reduceToNat, Int.reduceLT, Int.reduceLE, Int.reduceAdd, Int.reduceSub, Int.reduceMul, Int.reduceEq, Int.reduceNeg, reduceCtorEq, resV, resAll, ARes.ev, LV.flat, ite_true, ite_false, exists_eq_left', exists_eq_left, keyOf, implies_true, fillC, capOf]
  refine condC_dec (fun hlt => ?_) (fun hlt => ?_)
  · simp (disch := omega) only [f1, f2, f5, f8, f9, hbox.cells, ↓SXd, SXu, slBounds, ↓sop, ↓aop, ↓reduceIte, LV.cells, AOp.dst, LV.I, LV.B, LV.U, LV.S, LV.nil, Nat.reduceEqDiff, Nat.reduceAdd, Nat.reduceMul, Nat.reduceSub, Nat.reduceLeDiff, Nat.reduceBEq, Nat.reduceDiv, Nat.reduceMod, Int.reduceToNat, Int.reduceLT, Int.reduceLE, Int.reduceAdd, Int.reduceSub, Int.reduceMul, Int.reduceEq, Int.reduceNeg, reduceCtorEq, resV, resAll, ARes.ev, LV.flat, ite_true, ite_false, exists_eq_left', exists_eq_left, keyOf, implies_true, fillC, capOf]
    refine callK_of (g_cell hS (by omega) (by omega)) ?_
    simp (disch := omega) only [f1, f2, f5, f8, f9, ↓SXd, SXu, slBounds, ↓sop, ↓aop, ↓reduceIte, LV.cells, AOp.dst, LV.I, LV.B, LV.U, LV.S, LV.nil, Nat.reduceEqDiff, Nat.reduceAdd, Nat.reduceMul, Nat.reduceSub, Nat.reduceLeDiff, Nat.reduceBEq, Nat.reduceDiv, Nat.reduceMod, Int.reduceToNat, Int.reduceLT, Int.reduceLE, Int.reduceAdd, Int.reduceSub, Int.reduceMul, Int.reduceEq, Int.reduceNeg, reduceCtorEq, resV, resAll, ARes.ev, LV.flat, ite_true, ite_false, exists_eq_left', exists_eq_left, keyOf, implies_true, fillC, capOf]
    refine callK_of (hf M' hpre k (by omega)) ?_
    have hst := bsN_succ k fun i => p (cellAt y z i)
    by_cases hp : p (cellAt y z k) = true
    · rw [if_pos hp] at hst
      simp (disch := omega) only [f1, f2, f5, f8, f9, hp, ↓SXd, SXu, slBounds, ↓sop, ↓aop, ↓reduceIte, LV.cells, AOp.dst, LV.I, LV.B, LV.U, LV.S, LV.nil, Nat.reduceEqDiff, Nat.reduceAdd, Nat.reduceMul, Nat.reduceSub, Nat.reduceLeDiff, Nat.reduceBEq, Nat.reduceDiv, Nat.reduceMod, Int.reduceToNat, Int.reduceLT, Int.reduceLE, Int.reduceAdd, Int.reduceSub, Int.reduceMul, Int.reduceEq, Int.reduceNeg, reduceCtorEq, resV, resAll, ARes.ev, LV.flat, ite_true, ite_false, exists_eq_left', exists_eq_left, keyOf, implies_true, fillC, capOf]
      rw [← hst]
      exact ⟨m - 1, by omega, k + 1, by omega, hpre, hbox, f1, f2, rfl, f8, eqI (natI _)⟩
    · rw [if_neg hp] at hst
      have hp' : p (cellAt y z k) = false := by simpa using hp
      simp (disch := omega) only [f1, f2, f5, f8, f9, hp', ↓SXd, SXu, slBounds, ↓sop, ↓aop, ↓reduceIte, LV.cells, AOp.dst, LV.I, LV.B, LV.U, LV.S, LV.nil, Nat.reduceEqDiff, Nat.reduceAdd, Nat.reduceMul, Nat.reduceSub, Nat.reduceLeDiff, Nat.reduceBEq, Nat.reduceDiv, Nat.reduceMod, Int.reduceToNat, Int.reduceLT, Int.reduceLE, Int.reduceAdd, Int.reduceSub, Int.reduceMul, Int.reduceEq, Int.reduceNeg, reduceCtorEq, resV, resAll, ARes.ev, LV.flat, ite_true, ite_false, exists_eq_left', exists_eq_left, keyOf, implies_true, fillC, capOf]
      exact ⟨m - 1, by omega, k + 1, by omega, hpre, hbox, f1, f2, by rw [hst]; exact f5, f8, eqI (natI _)⟩
  · simp (disch := omega) only [f1, f2, f5, f8, f9, ↓SXd, SXu, slBounds, ↓sop, ↓aop, ↓reduceIte, LV.cells, AOp.dst, LV.I, LV.B, LV.U, LV.S, LV.nil, Nat.reduceEqDiff, Nat.reduceAdd, Nat.reduceMul, Nat.reduceSub, Nat.reduceLeDiff, Nat.reduceBEq, Nat.reduceDiv, Nat.reduceMod, Int.reduceToNat, Int.reduceLT, Int.reduceLE, Int.reduceAdd, Int.reduceSub, Int.reduceMul, Int.reduceEq, Int.reduceNeg, reduceCtorEq, resV, resAll, ARes.ev, LV.flat, ite_true, ite_false, exists_eq_left', exists_eq_left, keyOf, implies_true, fillC, capOf]
    have : k = vol x y z := by omega
    subst this
    exact cmp_pre hpre rfl
end
end Go.Ab

/- Contracts: valid shadows, the program's side. -/
namespace Go.Ab
open Go
set_option linter.unusedSimpArgs false
set_option linter.unusedVariables false

def shdList (d : Nat) (tp fr sd : List Int) : List Int := if d = 0 then sd else if d = 1 then fr else tp
def linesOf (x y z : Int) (d : Nat) : Int := if d = 0 then y * z else if d = 1 then x * z else x * y
theorem g_Shadow_box {x y z : Int} {a b c : LV} {M : Mem} : CallsTo PG F.impl_Shadow_box [.agg [.I x, .I y, .I z, a, b, c]] M (.agg [.I x, .I y, .I z]) M := by
  refine calls_run K.impl_Shadow_box rfl ?_
  simp (disch := omega) only [C.impl_Shadow_box, splice, ↓SXd, SXu, slBounds, ↓sop, ↓aop, ↓reduceIte, LV.cells, AOp.dst, LV.I, LV.B, LV.U, LV.S, LV.nil, Nat.reduceEqDiff, Nat.reduceAdd, Nat.reduceMul, Nat.reduceSub, Nat.reduceLeDiff, Nat.reduceBEq, Nat.reduceDiv, Nat.reduceMod, Int.reduceToNat, Int.reduceLT, Int.reduceLE, Int.reduceAdd, Int.reduceSub, Int.reduceMul, Int.reduceEq, Int.reduceNeg, reduceCtorEq, resV, resAll, ARes.ev, LV.flat, ite_true, ite_false, exists_eq_left', exists_eq_left, keyOf, implies_true, fillC, capOf]
  exact cmp_drop rfl
theorem g_Shadow_list {x y z : Int} {t t' t2 o o' o2 n n' n2 d : Nat} {M : Mem} (hd : d < 3) (ht : t < M.length) (ht' : t' < M.length) (ht2 : t2 < M.length) :
    CallsTo PG F.impl_Shadow_list [.agg [.I x, .I y, .I z, .ref t o n, .ref t' o' n', .ref t2 o2 n2], .I d] M (if d = 0 then .ref t2 o2 n2 else if d = 1 then .ref t' o' n' else .ref t o n) M := by
  refine calls_run K.impl_Shadow_list rfl ?_
  rcases (show d = 0 ∨ d = 1 ∨ d = 2 by omega) with rfl | rfl | rfl
  all_goals
    simp (disch := omega) only [C.impl_Shadow_list, splice, ↓SXd, SXu, slBounds, ↓sop, ↓aop, ↓reduceIte, LV.cells, AOp.dst, LV.I, LV.B, LV.U, LV.S, LV.nil, Nat.reduceEqDiff, Nat.reduceAdd, Nat.reduceMul, Nat.reduceSub, Nat.reduceLeDiff, Nat.reduceBEq, Nat.reduceDiv, Nat.reduceMod, Int.reduceToNat, Int.reduceLT, Int.reduceLE, Int.reduceAdd, Int.reduceSub, Int.reduceMul, Int.reduceEq, Int.reduceNeg, reduceCtorEq, resV, resAll, ARes.ev, LV.flat, ite_true, ite_false, exists_eq_left', exists_eq_left, keyOf, implies_true, fillC, capOf]
    exact cmp_drop (by simp [LV.lo, LV.lo1, ht, ht', ht2])
theorem g_lines {x y z : Int} {d : Nat} {M : Mem} (hS : Sides x y z) (hd : d < 3) : CallsTo PG F.impl_box_lines [.agg [.I x, .I y, .I z], .I d] M (.I (linesOf x y z d)) M := by
  obtain ⟨hx, hy, hz⟩ := id hS
  obtain ⟨hv, _, _⟩ := vol_cast hS
  have hp := prod_le hS
  refine calls_run K.impl_box_lines rfl ?_
  have hx0 : ¬ x = 0 := by omega
  have hy0 : ¬ y = 0 := by omega
  have hz0 : ¬ z = 0 := by omega
  have q1 : ((vol x y z : Nat) : Int).tdiv x = y * z := by
    rw [hv, Int.mul_assoc]; exact Int.mul_tdiv_cancel_left _ hx0
  have q2 : ((vol x y z : Nat) : Int).tdiv y = x * z := by
    rw [hv, show x * y * z = y * (x * z) by rw [← Int.mul_assoc, Int.mul_comm y x]]; exact Int.mul_tdiv_cancel_left _ hy0
  have q3 : ((vol x y z : Nat) : Int).tdiv z = x * y := by
    rw [hv]; exact Int.mul_tdiv_cancel _ hz0
  obtain ⟨⟨_, _⟩, ⟨_, _⟩, ⟨_, _⟩⟩ := hp
  rcases (show d = 0 ∨ d = 1 ∨ d = 2 by omega) with rfl | rfl | rfl
  · simp (disch := omega) only [C.impl_box_lines, ↓SXd, SXu, slBounds, ↓sop, ↓aop, ↓reduceIte, LV.cells, AOp.dst, LV.I, LV.B, LV.U, LV.S, LV.nil, Nat.reduceEqDiff, Nat.reduceAdd, Nat.reduceMul, Nat.reduceSub, Nat.reduceLeDiff, Nat.reduceBEq, Nat.reduceDiv, Nat.reduceMod, Int.reduceToNat, Int.reduceLT, Int.reduceLE, Int.reduceAdd, Int.reduceSub, Int.reduceMul, Int.reduceEq, Int.reduceNeg, reduceCtorEq, resV, resAll, ARes.ev, LV.flat, ite_true, ite_false, exists_eq_left', exists_eq_left, keyOf, implies_true, fillC, capOf]
    refine callK_of (g_size hS) ?_
    simp (disch := omega) only [ne_eq, not_false_eq_true, hx0, q1, ↓SXd, SXu, slBounds, ↓sop, ↓aop, ↓reduceIte, LV.cells, AOp.dst, LV.I, LV.B, LV.U, LV.S, LV.nil, Nat.reduceEqDiff, Nat.reduceAdd, Nat.reduceMul, Nat.reduceSub, Nat.reduceLeDiff, Nat.reduceBEq, Nat.reduceDiv, Nat.reduceMod, Int.reduceToNat, Int.reduceLT, Int.reduceLE, Int.reduceAdd, Int.reduceSub, Int.reduceMul, Int.reduceEq, Int.reduceNeg, reduceCtorEq, resV, resAll, ARes.ev, LV.flat, ite_true, ite_false, exists_eq_left', exists_eq_left, keyOf, implies_true, fillC, capOf]
    exact cmp_drop rfl
  · simp (disch := omega) only [C.impl_box_lines, ↓SXd, SXu, slBounds, ↓sop, ↓aop, ↓reduceIte, LV.cells, AOp.dst, LV.I, LV.B, LV.U, LV.S, LV.nil, Nat.reduceEqDiff, Nat.reduceAdd, Nat.reduceMul, Nat.reduceSub, Nat.reduceLeDiff, Nat.reduceBEq, Nat.reduceDiv, Nat.reduceMod, Int.reduceToNat, Int.reduceLT, Int.reduceLE, Int.reduceAdd, Int.reduceSub, Int.reduceMul, Int.reduceEq, Int.reduceNeg, reduceCtorEq, resV, resAll, ARes.ev, LV.flat, ite_true, ite_false, exists_eq_left', exists_eq_left, keyOf, implies_true, fillC, capOf]
    refine callK_of (g_size hS) ?_
    simp (disch := omega) only [ne_eq, not_false_eq_true, hy0, q2, ↓SXd, SXu, slBounds, ↓sop, ↓aop, ↓reduceIte, LV.cells, AOp.dst, LV.I, LV.B, LV.U, LV.S, LV.nil, Nat.reduceEqDiff, Nat.reduceAdd, Nat.reduceMul, Nat.reduceSub, Nat.reduceLeDiff, Nat.reduceBEq, Nat.reduceDiv, Nat.reduceMod, Int.reduceToNat, Int.reduceLT, Int.reduceLE, Int.reduceAdd, Int.reduceSub, Int.reduceMul, Int.reduceEq, Int.reduceNeg, reduceCtorEq, resV, resAll, ARes.ev, LV.flat, ite_true, ite_false, exists_eq_left', exists_eq_left, keyOf, implies_true, fillC, capOf]
    exact cmp_drop rfl
  · simp (disch := omega) only [C.impl_box_lines, ↓SXd, SXu, slBounds, ↓sop, ↓aop, ↓reduceIte, LV.cells, AOp.dst, LV.I, LV.B, LV.U, LV.S, LV.nil, Nat.reduceEqDiff, Nat.reduceAdd, Nat.reduceMul, Nat.reduceSub, Nat.reduceLeDiff, Nat.reduceBEq, Nat.reduceDiv, Nat.reduceMod, Int.reduceToNat, Int.reduceLT, Int.reduceLE, Int.reduceAdd, Int.reduceSub, Int.reduceMul, Int.reduceEq, Int.reduceNeg, reduceCtorEq, resV, resAll, ARes.ev, LV.flat, ite_true, ite_false, exists_eq_left', exists_eq_left, keyOf, implies_true, fillC, capOf]
    refine callK_of (g_size hS) ?_
    simp (disch := omega) only [ne_eq, not_false_eq_true, hz0, q3, ↓SXd, SXu, slBounds, ↓sop, ↓aop, ↓reduceIte, LV.cells, AOp.dst, LV.I, LV.B, LV.U, LV.S, LV.nil, Nat.reduceEqDiff, Nat.reduceAdd, Nat.reduceMul, Nat.reduceSub, Nat.reduceLeDiff, Nat.reduceBEq, Nat.reduceDiv, Nat.reduceMod, Int.reduceToNat, Int.reduceLT, Int.reduceLE, Int.reduceAdd, Int.reduceSub, Int.reduceMul, Int.reduceEq, Int.reduceNeg, reduceCtorEq, resV, resAll, ARes.ev, LV.flat, ite_true, ite_false, exists_eq_left', exists_eq_left, keyOf, implies_true, fillC, capOf]
    exact cmp_drop rfl

theorem g_IsShadow {x y z : Int} {t o t' o' t2 o2 : Nat} {tp fr sd : List Int} {M : Mem} (h1 : Ints M t o tp) (h2 : Ints M t' o' fr) (h3 : Ints M t2 o2 sd) (l1 : tp.length ≤ 1000000000) (l2 : fr.length ≤ 1000000000) (l3 : sd.length ≤ 1000000000) :
    CallsTo PG F.impl_IsShadow [.agg [.I x, .I y, .I z, .ref t o tp.length, .ref t' o' fr.length, .ref t2 o2 sd.length]] M (.B (decide (ShdOK x y z tp fr sd))) M := by
  have ht := h1.lt
  have ht' := h2.lt
  have ht2 := h3.lt
  refine calls_run K.impl_IsShadow rfl ?_
  simp (disch := omega) only [C.impl_IsShadow, ↓SXd, SXu, slBounds, ↓sop, ↓aop, ↓reduceIte, LV.cells, AOp.dst, LV.I, LV.B, LV.U, LV.S, LV.nil, Nat.reduceEqDiff, Nat.reduceAdd, Nat.reduceMul, Nat.reduceSub, Nat.reduceLeDiff, Nat.reduceBEq, Nat.reduceDiv, Nat.reduceMod, Int.reduceToNat, Int.reduceLT, Int.reduceLE, Int.reduceAdd, Int.reduceSub, Int.reduceMul, Int.reduceEq, Int.reduceNeg, reduceCtorEq, resV, resAll, ARes.ev, LV.flat, ite_true, ite_false, exists_eq_left', exists_eq_left, keyOf, implies_true, fillC, capOf]
  refine callK_of (g_Shadow_box) ?_
  simp (disch := omega) only [↓SXd, SXu, slBounds, ↓sop, ↓aop, ↓reduceIte, LV.cells, AOp.dst, LV.I, LV.B, LV.U, LV.S, LV.nil, Nat.reduceEqDiff, Nat.reduceAdd, Nat.reduceMul, Nat.reduceSub, Nat.reduceLeDiff, Nat.reduceBEq, Nat.reduceDiv, Nat.reduceMod, Int.reduceToNat, Int.reduceLT, Int.reduceLE, Int.reduceAdd, Int.reduceSub, Int.reduceMul, Int.reduceEq, Int.reduceNeg, reduceCtorEq, resV, resAll, ARes.ev, LV.flat, ite_true, ite_false, exists_eq_left', exists_eq_left, keyOf, implies_true, fillC, capOf]
  refine callK_of (g_valid) ?_
  simp (disch := omega) only [↓SXd, SXu, slBounds, ↓sop, ↓aop, ↓reduceIte, LV.cells, AOp.dst, LV.I, LV.B, LV.U, LV.S, LV.nil, Nat.reduceEqDiff, Nat.reduceAdd, Nat.reduceMul, Nat.reduceSub, Nat.reduceLeDiff, Nat.reduceBEq, Nat.reduceDiv, Nat.reduceMod, Int.reduceToNat, Int.reduceLT, Int.reduceLE, Int.reduceAdd, Int.reduceSub, Int.reduceMul, Int.reduceEq, Int.reduceNeg, reduceCtorEq, resV, resAll, ARes.ev, LV.flat, ite_true, ite_false, exists_eq_left', exists_eq_left, keyOf, implies_true, fillC, capOf]
  unfold ShdOK
  by_cases hS : Sides x y z
  · simp (disch := omega) only [hS, true_and, ↓SXd, SXu, slBounds, ↓sop, ↓aop, ↓reduceIte, LV.cells, AOp.dst, LV.I, LV.B, LV.U, LV.S, LV.nil, Nat.reduceEqDiff, Nat.reduceAdd, Nat.reduceMul, Nat.reduceSub, Nat.reduceLeDiff, Nat.reduceBEq, Nat.reduceDiv, Nat.reduceMod, Int.reduceToNat, Int.reduceLT, Int.reduceLE, Int.reduceAdd, Int.reduceSub, Int.reduceMul, Int.reduceEq, Int.reduceNeg, reduceCtorEq, resV, resAll, ARes.ev, LV.flat, ite_true, ite_false, exists_eq_left', exists_eq_left, keyOf, implies_true, fillC, capOf]
    refine ev_loop (fun m fr1 M' => ∃ d : Nat, d + m = 3 ∧ M' = M ++ [some (.row [.I x, .I y, .I z, .ref t o tp.length, .ref t' o' fr.length, .ref t2 o2 sd.length] true 0)] ∧ (∀ j, j < d → Ones (shdList j tp fr sd) ∧ ((shdList j tp fr sd).length : Int) = linesOf x y z j) ∧ fr1 1 = .ptr M.length 0 ∧ fr1 9 = .I d) 3
      ⟨0, rfl, rfl, by omega, rfl, rfl⟩ ?_
    rintro m fr1 M' ⟨d, hd, rfl, hj, f1, f9⟩
    simp (disch := omega) only [f1, f9, ↓SXd, SXu, slBounds, ↓sop, ↓aop, ↓reduceIte, LV.cells, AOp.dst, LV.I, LV.B, LV.U, LV.S, LV.nil, Nat.reduceEqDiff, Nat.reduceAdd, Nat.reduceMul, Nat.reduceSub, Nat.reduceLeDiff, Nat.reduceBEq, Nat.reduceDiv, Nat.reduceMod, Int.reduceToNat, Int.reduceLT, Int.reduceLE, Int.reduceAdd, Int.reduceSub, Int.reduceMul, Int.reduceEq, Int.reduceNeg, reduceCtorEq, resV, resAll, ARes.ev, LV.flat, ite_true, ite_false, exists_eq_left', exists_eq_left, keyOf, implies_true, fillC, capOf]
    refine condC_dec (fun hlt => ?_) (fun hlt => ?_)
    · have hd3 : d < 3 := by omega
      simp (disch := omega) only [f1, f9, ↓SXd, SXu, slBounds, ↓sop, ↓aop, ↓reduceIte, LV.cells, AOp.dst, LV.I, LV.B, LV.U, LV.S, LV.nil, Nat.reduceEqDiff, Nat.reduceAdd, Nat.reduceMul, Nat.reduceSub, Nat.reduceLeDiff, Nat.reduceBEq, Nat.reduceDiv, Nat.reduceMod, Int.reduceToNat, Int.reduceLT, Int.reduceLE, Int.reduceAdd, Int.reduceSub, Int.reduceMul, Int.reduceEq, Int.reduceNeg, reduceCtorEq, resV, resAll, ARes.ev, LV.flat, ite_true, ite_false, exists_eq_left', exists_eq_left, keyOf, implies_true, fillC, capOf]
      obtain ⟨tt, oo, hq, hI⟩ : ∃ tt oo, (if d = 0 then LV.ref t2 o2 sd.length else if d = 1 then LV.ref t' o' fr.length else LV.ref t o tp.length) = .ref tt oo (shdList d tp fr sd).length ∧ Ints M tt oo (shdList d tp fr sd) := by
        unfold shdList
        rcases (show d = 0 ∨ d = 1 ∨ d = 2 by omega) with rfl | rfl | rfl
        · exact ⟨_, _, rfl, h3⟩
        · exact ⟨_, _, rfl, h2⟩
        · exact ⟨_, _, rfl, h1⟩
      have hlist := g_Shadow_list (x := x) (y := y) (z := z) (t := t) (t' := t') (t2 := t2) (o := o) (o' := o') (o2 := o2) (n := tp.length) (n' := fr.length) (n2 := sd.length) (M := M ++ [some (.row [.I x, .I y, .I z, .ref t o tp.length, .ref t' o' fr.length, .ref t2 o2 sd.length] true 0)]) hd3 (by simp; omega) (by simp; omega) (by simp; omega)
      rw [hq] at hlist
      have hll : (shdList d tp fr sd).length ≤ 1000000000 := by unfold shdList; split <;> (try split) <;> assumption
      have hbad : ¬ (Ones (shdList d tp fr sd) ∧ ((shdList d tp fr sd).length : Int) = linesOf x y z d) → ¬ ((Ones tp ∧ (tp.length : Int) = x * y) ∧ (Ones fr ∧ (fr.length : Int) = x * z) ∧ (Ones sd ∧ (sd.length : Int) = y * z)) := by
        intro hb ⟨a1, a2, a3⟩
        apply hb
        rcases (show d = 0 ∨ d = 1 ∨ d = 2 by omega) with rfl | rfl | rfl
        · exact a3
        · exact a2
        · exact a1
      generalize hxs : shdList d tp fr sd = xs at hlist hI hll hbad
      refine callK_of (hlist) ?_
      simp (disch := omega) only [f1, f9, ↓SXd, SXu, slBounds, ↓sop, ↓aop, ↓reduceIte, LV.cells, AOp.dst, LV.I, LV.B, LV.U, LV.S, LV.nil, Nat.reduceEqDiff, Nat.reduceAdd, Nat.reduceMul, Nat.reduceSub, Nat.reduceLeDiff, Nat.reduceBEq, Nat.reduceDiv, Nat.reduceMod, Int.reduceToNat, Int.reduceLT, Int.reduceLE, Int.reduceAdd, Int.reduceSub, Int.reduceMul, Int.reduceEq, Int.reduceNeg, reduceCtorEq, resV, resAll, ARes.ev, LV.flat, ite_true, ite_false, exists_eq_left', exists_eq_left, keyOf, implies_true, fillC, capOf]
      refine callK_of (g_Shadow_box) ?_
      simp (disch := omega) only [f1, f9, ↓SXd, SXu, slBounds, ↓sop, ↓aop, ↓reduceIte, LV.cells, AOp.dst, LV.I, LV.B, LV.U, LV.S, LV.nil, Nat.reduceEqDiff, Nat.reduceAdd, Nat.reduceMul, Nat.reduceSub, Nat.reduceLeDiff, Nat.reduceBEq, Nat.reduceDiv, Nat.reduceMod, Int.reduceToNat, Int.reduceLT, Int.reduceLE, Int.reduceAdd, Int.reduceSub, Int.reduceMul, Int.reduceEq, Int.reduceNeg, reduceCtorEq, resV, resAll, ARes.ev, LV.flat, ite_true, ite_false, exists_eq_left', exists_eq_left, keyOf, implies_true, fillC, capOf]
      refine callK_of (g_lines hS hd3) ?_
      simp (disch := omega) only [f1, f9, ↓SXd, SXu, slBounds, ↓sop, ↓aop, ↓reduceIte, LV.cells, AOp.dst, LV.I, LV.B, LV.U, LV.S, LV.nil, Nat.reduceEqDiff, Nat.reduceAdd, Nat.reduceMul, Nat.reduceSub, Nat.reduceLeDiff, Nat.reduceBEq, Nat.reduceDiv, Nat.reduceMod, Int.reduceToNat, Int.reduceLT, Int.reduceLE, Int.reduceAdd, Int.reduceSub, Int.reduceMul, Int.reduceEq, Int.reduceNeg, reduceCtorEq, resV, resAll, ARes.ev, LV.flat, ite_true, ite_false, exists_eq_left', exists_eq_left, keyOf, implies_true, fillC, capOf]
      by_cases hlen : (xs.length : Int) = linesOf x y z d
      · simp (disch := omega) only [f1, f9, hlen, ↓SXd, SXu, slBounds, ↓sop, ↓aop, ↓reduceIte, LV.cells, AOp.dst, LV.I, LV.B, LV.U, LV.S, LV.nil, Nat.reduceEqDiff, Nat.reduceAdd, Nat.reduceMul, Nat.reduceSub, Nat.reduceLeDiff, Nat.reduceBEq, Nat.reduceDiv, Nat.reduceMod, Int.reduceToNat, Int.reduceLT, Int.reduceLE, Int.reduceAdd, Int.reduceSub, Int.reduceMul, Int.reduceEq, Int.reduceNeg, reduceCtorEq, resV, resAll, ARes.ev, LV.flat, ite_true, ite_false, exists_eq_left', exists_eq_left, keyOf, implies_true, fillC, capOf]
        refine callK_of (g_allWithin hI.app hll) ?_
        simp (disch := omega) only [f1, f9, ↓SXd, SXu, slBounds, ↓sop, ↓aop, ↓reduceIte, LV.cells, AOp.dst, LV.I, LV.B, LV.U, LV.S, LV.nil, Nat.reduceEqDiff, Nat.reduceAdd, Nat.reduceMul, Nat.reduceSub, Nat.reduceLeDiff, Nat.reduceBEq, Nat.reduceDiv, Nat.reduceMod, Int.reduceToNat, Int.reduceLT, Int.reduceLE, Int.reduceAdd, Int.reduceSub, Int.reduceMul, Int.reduceEq, Int.reduceNeg, reduceCtorEq, resV, resAll, ARes.ev, LV.flat, ite_true, ite_false, exists_eq_left', exists_eq_left, keyOf, implies_true, fillC, capOf]
        by_cases hone : Ones xs
        · simp (disch := omega) only [f1, f9, hone, ↓SXd, SXu, slBounds, ↓sop, ↓aop, ↓reduceIte, LV.cells, AOp.dst, LV.I, LV.B, LV.U, LV.S, LV.nil, Nat.reduceEqDiff, Nat.reduceAdd, Nat.reduceMul, Nat.reduceSub, Nat.reduceLeDiff, Nat.reduceBEq, Nat.reduceDiv, Nat.reduceMod, Int.reduceToNat, Int.reduceLT, Int.reduceLE, Int.reduceAdd, Int.reduceSub, Int.reduceMul, Int.reduceEq, Int.reduceNeg, reduceCtorEq, resV, resAll, ARes.ev, LV.flat, ite_true, ite_false, exists_eq_left', exists_eq_left, keyOf, implies_true, fillC, capOf]
          exact ⟨m - 1, by omega, d + 1, by omega, rfl, fun j hj1 => by
            rcases Nat.lt_or_ge j d with h2 | h2
            · exact hj j h2
            · rw [show j = d by omega, hxs]; exact ⟨hone, hlen⟩, f1, eqI (natI _)⟩
        · simp (disch := omega) only [f1, f9, hone, ↓SXd, SXu, slBounds, ↓sop, ↓aop, ↓reduceIte, LV.cells, AOp.dst, LV.I, LV.B, LV.U, LV.S, LV.nil, Nat.reduceEqDiff, Nat.reduceAdd, Nat.reduceMul, Nat.reduceSub, Nat.reduceLeDiff, Nat.reduceBEq, Nat.reduceDiv, Nat.reduceMod, Int.reduceToNat, Int.reduceLT, Int.reduceLE, Int.reduceAdd, Int.reduceSub, Int.reduceMul, Int.reduceEq, Int.reduceNeg, reduceCtorEq, resV, resAll, ARes.ev, LV.flat, ite_true, ite_false, exists_eq_left', exists_eq_left, keyOf, implies_true, fillC, capOf]
          rw [decide_eq_false (hbad fun e => hone e.1)]
          exact cmp_drop rfl
      · simp (disch := omega) only [f1, f9, hlen, ↓SXd, SXu, slBounds, ↓sop, ↓aop, ↓reduceIte, LV.cells, AOp.dst, LV.I, LV.B, LV.U, LV.S, LV.nil, Nat.reduceEqDiff, Nat.reduceAdd, Nat.reduceMul, Nat.reduceSub, Nat.reduceLeDiff, Nat.reduceBEq, Nat.reduceDiv, Nat.reduceMod, Int.reduceToNat, Int.reduceLT, Int.reduceLE, Int.reduceAdd, Int.reduceSub, Int.reduceMul, Int.reduceEq, Int.reduceNeg, reduceCtorEq, resV, resAll, ARes.ev, LV.flat, ite_true, ite_false, exists_eq_left', exists_eq_left, keyOf, implies_true, fillC, capOf]
        rw [decide_eq_false (hbad fun e => hlen e.2)]
        exact cmp_drop rfl
    · simp (disch := omega) only [f1, f9, ↓SXd, SXu, slBounds, ↓sop, ↓aop, ↓reduceIte, LV.cells, AOp.dst, LV.I, LV.B, LV.U, LV.S, LV.nil, Nat.reduceEqDiff, Nat.reduceAdd, Nat.reduceMul, Nat.reduceSub, Nat.reduceLeDiff, Nat.reduceBEq, Nat.reduceDiv, Nat.reduceMod, Int.reduceToNat, Int.reduceLT, Int.reduceLE, Int.reduceAdd, Int.reduceSub, Int.reduceMul, Int.reduceEq, Int.reduceNeg, reduceCtorEq, resV, resAll, ARes.ev, LV.flat, ite_true, ite_false, exists_eq_left', exists_eq_left, keyOf, implies_true, fillC, capOf]
      rw [decide_eq_true ⟨hj 2 (by omega), hj 1 (by omega), hj 0 (by omega)⟩]
      exact cmp_drop rfl
  · simp (disch := omega) only [hS, false_and, ↓SXd, SXu, slBounds, ↓sop, ↓aop, ↓reduceIte, LV.cells, AOp.dst, LV.I, LV.B, LV.U, LV.S, LV.nil, Nat.reduceEqDiff, Nat.reduceAdd, Nat.reduceMul, Nat.reduceSub, Nat.reduceLeDiff, Nat.reduceBEq, Nat.reduceDiv, Nat.reduceMod, Int.reduceToNat, Int.reduceLT, Int.reduceLE, Int.reduceAdd, Int.reduceSub, Int.reduceMul, Int.reduceEq, Int.reduceNeg, reduceCtorEq, resV, resAll, ARes.ev, LV.flat, ite_true, ite_false, exists_eq_left', exists_eq_left, keyOf, implies_true, fillC, capOf]
    exact cmp_drop rfl
end Go.Ab

/- Contracts: lines of a box; allowed cells, the program's side. -/
namespace Go.Ab
open Go
set_option linter.unusedSimpArgs false
set_option linter.unusedVariables false

theorem g_others {d : Nat} {M : Mem} (hd : d < 3) : CallsTo PG F.impl_others [.I d] M (.tup [.I (if d = 0 then 1 else 0), .I (if d = 2 then 1 else 2)]) M := by
  refine calls_run K.impl_others rfl ?_
  rcases (show d = 0 ∨ d = 1 ∨ d = 2 by omega) with rfl | rfl | rfl
  all_goals
    simp (disch := omega) only [C.impl_others, ↓SXd, SXu, slBounds, ↓sop, ↓aop, ↓reduceIte, LV.cells, AOp.dst, LV.I, LV.B, LV.U, LV.S, LV.nil, Nat.reduceEqDiff, Nat.reduceAdd, Nat.reduceMul, Nat.reduceSub, Nat.reduceLeDiff, Nat.reduceBEq, Nat.reduceDiv, Nat.reduceMod, Int.reduceToNat, Int.reduceLT, Int.reduceLE, Int.reduceAdd, Int.reduceSub, Int.reduceMul, Int.reduceEq, Int.reduceNeg, reduceCtorEq, resV, resAll, ARes.ev, LV.flat, ite_true, ite_false, exists_eq_left', exists_eq_left, keyOf, implies_true, fillC, capOf]
    exact cmp_drop0 rfl
/-- The place of a cell's line in a direction. -/
def lineOf (y z : Int) (c : Cell) (d : Nat) : Int := if d = 0 then c.b * z + c.c else if d = 1 then c.a * z + c.c else c.a * y + c.b
theorem lineOf_in {x y z : Int} {c : Cell} {d : Nat} (hS : Sides x y z) (hc : c.inBox x y z) (hd : d < 3) : 0 ≤ lineOf y z c d ∧ lineOf y z c d < linesOf x y z d := by
  obtain ⟨hx, hy, hz⟩ := hS
  obtain ⟨⟨_, _⟩, ⟨_, _⟩, ⟨_, _⟩⟩ := hc
  have e2 : y = 1 ∨ y = 2 ∨ y = 3 ∨ y = 4 := by omega
  have e3 : z = 1 ∨ z = 2 ∨ z = 3 ∨ z = 4 := by omega
  rcases (show d = 0 ∨ d = 1 ∨ d = 2 by omega) with rfl | rfl | rfl <;> simp only [lineOf, linesOf, if_true, Nat.one_ne_zero, if_false, show ¬ ((2 : Nat) = 0) by decide, show ¬ ((2 : Nat) = 1) by decide] <;> rcases e2 with rfl | rfl | rfl | rfl <;> rcases e3 with rfl | rfl | rfl | rfl <;> omega
theorem g_line {x y z : Int} {c : Cell} {d : Nat} {M : Mem} (hS : Sides x y z) (hc : c.inBox x y z) (hd : d < 3) : CallsTo PG F.impl_box_line [.agg [.I x, .I y, .I z], .agg [.I c.a, .I c.b, .I c.c], .I d] M (.I (lineOf y z c d)) M := by
  have hl := lineOf_in hS hc hd
  have hp := prod_le hS
  have hm : ∀ {a b k : Int}, 0 ≤ a → a ≤ 3 → 1 ≤ b → b ≤ 4 → 0 ≤ a * b ∧ a * b ≤ 12 := fun {a b k} h1 h2 h3 h4 => by
    rcases (show b = 1 ∨ b = 2 ∨ b = 3 ∨ b = 4 by omega) with rfl | rfl | rfl | rfl <;> omega
  obtain ⟨⟨_, _⟩, ⟨_, _⟩, ⟨_, _⟩⟩ := id hS
  obtain ⟨⟨_, _⟩, ⟨_, _⟩, ⟨_, _⟩⟩ := id hc
  obtain ⟨_, _⟩ := hm (a := c.a) (b := y) (k := 0) (by omega) (by omega) (by omega) (by omega)
  obtain ⟨_, _⟩ := hm (a := c.a) (b := z) (k := 0) (by omega) (by omega) (by omega) (by omega)
  obtain ⟨_, _⟩ := hm (a := c.b) (b := z) (k := 0) (by omega) (by omega) (by omega) (by omega)
  refine calls_run K.impl_box_line rfl ?_
  rcases (show d = 0 ∨ d = 1 ∨ d = 2 by omega) with rfl | rfl | rfl
  all_goals
    simp (disch := omega) only [C.impl_box_line, ↓SXd, SXu, slBounds, ↓sop, ↓aop, ↓reduceIte, LV.cells, AOp.dst, LV.I, LV.B, LV.U, LV.S, LV.nil, Nat.reduceEqDiff, Nat.reduceAdd, Nat.reduceMul, Nat.reduceSub, Nat.reduceLeDiff, Nat.reduceBEq, Nat.reduceDiv, Nat.reduceMod, Int.reduceToNat, Int.reduceLT, Int.reduceLE, Int.reduceAdd, Int.reduceSub, Int.reduceMul, Int.reduceEq, Int.reduceNeg, reduceCtorEq, resV, resAll, ARes.ev, LV.flat, ite_true, ite_false, exists_eq_left', exists_eq_left, keyOf, implies_true, fillC, capOf]
    refine callK_of (g_others (by omega)) ?_
    simp (disch := omega) only [↓SXd, SXu, slBounds, ↓sop, ↓aop, ↓reduceIte, LV.cells, AOp.dst, LV.I, LV.B, LV.U, LV.S, LV.nil, Nat.reduceEqDiff, Nat.reduceAdd, Nat.reduceMul, Nat.reduceSub, Nat.reduceLeDiff, Nat.reduceBEq, Nat.reduceDiv, Nat.reduceMod, Int.reduceToNat, Int.reduceLT, Int.reduceLE, Int.reduceAdd, Int.reduceSub, Int.reduceMul, Int.reduceEq, Int.reduceNeg, reduceCtorEq, resV, resAll, ARes.ev, LV.flat, ite_true, ite_false, exists_eq_left', exists_eq_left, keyOf, implies_true, fillC, capOf]
    exact cmp_drop rfl
end Go.Ab

/- Contracts: views, the program's side. -/
namespace Go.Ab
open Go
set_option linter.unusedSimpArgs false
set_option linter.unusedVariables false

/-- One more cube in a view. -/
def viewStep (y z : Int) (d : Nat) (v : List Int) (c : Cell) : List Int := v.set (lineOf y z c d).toNat (v.getD (lineOf y z c d).toNat 0 + 1)
def viewL (x y z : Int) (d : Nat) (cs : List Cell) : List Int := cs.foldl (viewStep y z d) (List.replicate (linesOf x y z d).toNat 0)
theorem foldl_len {y z : Int} {d : Nat} : ∀ {cs : List Cell} {v : List Int}, (cs.foldl (viewStep y z d) v).length = v.length
  | [], _ => rfl
  | c :: cs, v => by rw [List.foldl_cons, foldl_len]; simp [viewStep]
theorem viewL_len {x y z : Int} {d : Nat} {cs : List Cell} : (viewL x y z d cs).length = (linesOf x y z d).toNat := by unfold viewL; rw [foldl_len]; simp
theorem fold_bound {y z : Int} {d : Nat} : ∀ {cs : List Cell} {v : List Int} {n : Int}, (∀ j, 0 ≤ v.getD j 0 ∧ v.getD j 0 ≤ n) → ∀ j, 0 ≤ (cs.foldl (viewStep y z d) v).getD j 0 ∧ (cs.foldl (viewStep y z d) v).getD j 0 ≤ n + cs.length
  | [], v, n, h, j => by have := h j; simp only [List.foldl_nil, List.length_nil]; omega
  | c :: cs, v, n, h, j => by
    rw [List.foldl_cons]
    have := fold_bound (y := y) (z := z) (d := d) (cs := cs) (v := viewStep y z d v c) (n := n + 1) (fun i => by
      have h1 := h i
      have h2 := h (lineOf y z c d).toNat
      unfold viewStep
      rw [List.getD_eq_getElem?_getD, List.getElem?_set]
      split
      · split
        · simp only [Option.getD_some]; omega
        · simp; omega
      · rw [← List.getD_eq_getElem?_getD]; omega) j
    simp only [List.length_cons]; omega
theorem take_foldl {y z : Int} {d i : Nat} {cs : List Cell} {v : List Int} (h : i < cs.length) : (cs.take (i + 1)).foldl (viewStep y z d) v = viewStep y z d ((cs.take i).foldl (viewStep y z d) v) (cs.getD i default) := by
  rw [List.take_succ, List.getElem?_eq_getElem h, Option.toList_some, List.foldl_append]
  have e : cs.getD i default = cs[i] := by simp [h]
  rw [e]; rfl

theorem g_view {x y z : Int} {d : Nat} {p : Cell → Bool} {M : Mem} (hS : Sides x y z) (hd : d < 3) : CallsTo PG F.impl_box_view [.agg [.I x, .I y, .I z], .W (bs x y z p), .I d] M (.ref M.length 0 (viewL x y z d (pick x y z p)).length) (M ++ [some (.row (intL (viewL x y z d (pick x y z p))) true 1)]) := by
  have hlp : 1 ≤ linesOf x y z d ∧ linesOf x y z d ≤ 16 := by
    have := prod_le hS
    rcases (show d = 0 ∨ d = 1 ∨ d = 2 by omega) with rfl | rfl | rfl
    · exact this.2.2
    · exact this.2.1
    · exact this.1
  have hpl := pick_len hS p
  refine calls_run K.impl_box_view rfl ?_
  simp (disch := omega) only [C.impl_box_view, ↓SXd, SXu, slBounds, ↓sop, ↓aop, ↓reduceIte, LV.cells, AOp.dst, LV.I, LV.B, LV.U, LV.S, LV.nil, Nat.reduceEqDiff, Nat.reduceAdd, Nat.reduceMul, Nat.reduceSub, Nat.reduceLeDiff, Nat.reduceBEq, Nat.reduceDiv, Nat.reduceMod, Int.reduceToNat, Int.reduceLT, Int.reduceLE, Int.reduceAdd, Int.reduceSub, Int.reduceMul, Int.reduceEq, Int.reduceNeg, reduceCtorEq, resV, resAll, ARes.ev, LV.flat, ite_true, ite_false, exists_eq_left', exists_eq_left, keyOf, implies_true, fillC, capOf]
  refine callK_of (g_lines hS hd) ?_
  simp (disch := omega) only [made_int, ↓SXd, SXu, slBounds, ↓sop, ↓aop, ↓reduceIte, LV.cells, AOp.dst, LV.I, LV.B, LV.U, LV.S, LV.nil, Nat.reduceEqDiff, Nat.reduceAdd, Nat.reduceMul, Nat.reduceSub, Nat.reduceLeDiff, Nat.reduceBEq, Nat.reduceDiv, Nat.reduceMod, Int.reduceToNat, Int.reduceLT, Int.reduceLE, Int.reduceAdd, Int.reduceSub, Int.reduceMul, Int.reduceEq, Int.reduceNeg, reduceCtorEq, resV, resAll, ARes.ev, LV.flat, ite_true, ite_false, exists_eq_left', exists_eq_left, keyOf, implies_true, fillC, capOf]
  refine callK_of (g_list hS) ?_
  simp (disch := omega) only [↓SXd, SXu, slBounds, ↓sop, ↓aop, ↓reduceIte, LV.cells, AOp.dst, LV.I, LV.B, LV.U, LV.S, LV.nil, Nat.reduceEqDiff, Nat.reduceAdd, Nat.reduceMul, Nat.reduceSub, Nat.reduceLeDiff, Nat.reduceBEq, Nat.reduceDiv, Nat.reduceMod, Int.reduceToNat, Int.reduceLT, Int.reduceLE, Int.reduceAdd, Int.reduceSub, Int.reduceMul, Int.reduceEq, Int.reduceNeg, reduceCtorEq, resV, resAll, ARes.ev, LV.flat, ite_true, ite_false, exists_eq_left', exists_eq_left, keyOf, implies_true, fillC, capOf]
  have hz : ∀ j, 0 ≤ (List.replicate (linesOf x y z d).toNat (0 : Int)).getD j 0 ∧ (List.replicate (linesOf x y z d).toNat (0 : Int)).getD j 0 ≤ 0 := fun j => by
    rw [List.getD_eq_getElem?_getD, List.getElem?_replicate]; split <;> simp
  have hin : ∀ c ∈ pick x y z p, c.inBox x y z := fun c hc => ((mem_pick hS).1 hc).1
  have hvl := viewL_len (x := x) (y := y) (z := z) (d := d) (cs := pick x y z p)
  refine ev_loop (fun m fr M' => ∃ i : Nat, i + m = (pick x y z p).length ∧ Pre M M' ∧ Live M' M.length (.row [.I x, .I y, .I z] true 0) ∧ Live M' (M.length + 1) (.row (intL (((pick x y z p).take i).foldl (viewStep y z d) (List.replicate (linesOf x y z d).toNat 0))) true 1) ∧ Live M' (M.length + 2) (.row (triL (pick x y z p)) true 3) ∧
    fr 2 = .I d ∧ fr 3 = .ptr M.length 0 ∧ fr 7 = .ref (M.length + 1) 0 (linesOf x y z d).toNat ∧ fr 16 = .ref (M.length + 2) 0 (pick x y z p).length ∧ fr 17 = .I (pick x y z p).length ∧ fr 18 = .I i) (pick x y z p).length
    ⟨0, by omega, Pre.app _ _, Live.new, Live.newj rfl, Live.newj rfl, rfl, rfl, rfl, rfl, rfl, rfl⟩ ?_
  rintro m fr M' ⟨i, hi, hpre, b3, bo, bl, f2, f3, f7, f16, f17, f18⟩
  simp (disch := omega) only [f2, f3, f7, f16, f17, f18, ↓SXd, SXu, slBounds, ↓sop, ↓aop, ↓reduceIte, LV.cells, AOp.dst, LV.I, LV.B, LV.U, LV.S, LV.nil, Nat.reduceEqDiff, Nat.reduceAdd, Nat.reduceMul, Nat.reduceSub, Nat.reduceLeDiff, Nat.reduceBEq, Nat.reduceDiv, Nat.reduceMod, Int.reduceToNat, Int.reduceLT, Int.reduceLE, Int.reduceAdd, Int.reduceSub, Int.reduceMul, Int.reduceEq, Int.reduceNeg, reduceCtorEq, resV, resAll, ARes.ev, LV.flat, ite_true, ite_false, exists_eq_left', exists_eq_left, keyOf, implies_true, fillC, capOf]
  refine condC_dec (fun hlt => ?_) (fun hlt => ?_)
  · have hil : i < (pick x y z p).length := by omega
    have hg := bl.tri0 hil
    have hc := hin _ (getD_mem' (d := default) hil)
    have htf := take_foldl (y := y) (z := z) (d := d) (v := List.replicate (linesOf x y z d).toNat 0) hil
    have hbd := fold_bound (y := y) (z := z) (d := d) (cs := (pick x y z p).take i) hz
    have hfl := foldl_len (y := y) (z := z) (d := d) (cs := (pick x y z p).take i) (v := List.replicate (linesOf x y z d).toNat 0)
    have htl := List.length_take_le i (pick x y z p)
    rw [List.length_replicate] at hfl
    generalize (pick x y z p).getD i default = c at hg hc htf
    generalize ((pick x y z p).take i).foldl (viewStep y z d) (List.replicate (linesOf x y z d).toNat 0) = v at bo htf hbd hfl
    obtain ⟨l1, l2⟩ := lineOf_in hS hc hd
    obtain ⟨v1, v2⟩ := hbd (lineOf y z c d).toNat
    have hlt2 : (lineOf y z c d).toNat < v.length := by omega
    have hlm := bl.lt
    have hcell := (Live.app (L := [some (.row [.I c.a, .I c.b, .I c.c] true 0)]) bo).cell (o := (lineOf y z c d).toNat)
    rw [intL_get hlt2] at hcell
    simp (disch := omega) only [f2, f3, f7, f16, f17, f18, hg, Cell.row, splice, b3.app.cells, ↓SXd, SXu, slBounds, ↓sop, ↓aop, ↓reduceIte, LV.cells, AOp.dst, LV.I, LV.B, LV.U, LV.S, LV.nil, Nat.reduceEqDiff, Nat.reduceAdd, Nat.reduceMul, Nat.reduceSub, Nat.reduceLeDiff, Nat.reduceBEq, Nat.reduceDiv, Nat.reduceMod, Int.reduceToNat, Int.reduceLT, Int.reduceLE, Int.reduceAdd, Int.reduceSub, Int.reduceMul, Int.reduceEq, Int.reduceNeg, reduceCtorEq, resV, resAll, ARes.ev, LV.flat, ite_true, ite_false, exists_eq_left', exists_eq_left, keyOf, implies_true, fillC, capOf]
    refine callK_of (g_line hS hc hd) ?_
    simp (disch := omega) only [f2, f3, f7, f16, f17, f18, hcell, Nat.mul_one, Nat.zero_add, ↓SXd, SXu, slBounds, ↓sop, ↓aop, ↓reduceIte, LV.cells, AOp.dst, LV.I, LV.B, LV.U, LV.S, LV.nil, Nat.reduceEqDiff, Nat.reduceAdd, Nat.reduceMul, Nat.reduceSub, Nat.reduceLeDiff, Nat.reduceBEq, Nat.reduceDiv, Nat.reduceMod, Int.reduceToNat, Int.reduceLT, Int.reduceLE, Int.reduceAdd, Int.reduceSub, Int.reduceMul, Int.reduceEq, Int.reduceNeg, reduceCtorEq, resV, resAll, ARes.ev, LV.flat, ite_true, ite_false, exists_eq_left', exists_eq_left, keyOf, implies_true, fillC, capOf]
    refine memK_int (Live.app bo) hlt2 fun N k1 k2 k3 => ?_
    simp (disch := omega) only [f2, f3, f7, f16, f17, f18, ↓SXd, SXu, slBounds, ↓sop, ↓aop, ↓reduceIte, LV.cells, AOp.dst, LV.I, LV.B, LV.U, LV.S, LV.nil, Nat.reduceEqDiff, Nat.reduceAdd, Nat.reduceMul, Nat.reduceSub, Nat.reduceLeDiff, Nat.reduceBEq, Nat.reduceDiv, Nat.reduceMod, Int.reduceToNat, Int.reduceLT, Int.reduceLE, Int.reduceAdd, Int.reduceSub, Int.reduceMul, Int.reduceEq, Int.reduceNeg, reduceCtorEq, resV, resAll, ARes.ev, LV.flat, ite_true, ite_false, exists_eq_left', exists_eq_left, keyOf, implies_true, fillC, capOf]
    have hp1 : Pre M' (M' ++ [some (.row [.I c.a, .I c.b, .I c.c] true 0)]) := Pre.app _ _
    rw [show v.set (lineOf y z c d).toNat (v.getD (lineOf y z c d).toNat 0 + 1) = viewStep y z d v c from rfl, ← htf] at k2
    exact ⟨m - 1, by omega, i + 1, by omega, pre_step (hpre.trans hp1) (by omega) (j := 0) k1 k3, live_step b3.app (by omega) k3, k2, live_step bl.app (by omega) k3, f2, f3, f7, f16, f17, eqI (natI _)⟩
  · simp (disch := omega) only [f2, f3, f7, f16, f17, f18, ↓SXd, SXu, slBounds, ↓sop, ↓aop, ↓reduceIte, LV.cells, AOp.dst, LV.I, LV.B, LV.U, LV.S, LV.nil, Nat.reduceEqDiff, Nat.reduceAdd, Nat.reduceMul, Nat.reduceSub, Nat.reduceLeDiff, Nat.reduceBEq, Nat.reduceDiv, Nat.reduceMod, Int.reduceToNat, Int.reduceLT, Int.reduceLE, Int.reduceAdd, Int.reduceSub, Int.reduceMul, Int.reduceEq, Int.reduceNeg, reduceCtorEq, resV, resAll, ARes.ev, LV.flat, ite_true, ite_false, exists_eq_left', exists_eq_left, keyOf, implies_true, fillC, capOf]
    have : i = (pick x y z p).length := by omega
    subst this
    rw [List.take_length] at bo
    change Live M' (M.length + 1) (.row (intL (viewL x y z d (pick x y z p))) true 1) at bo
    exact cmp_keepL hpre (by omega) bo (intL_lo _) (by simp [rn, rn0, rn1, hvl])
end Go.Ab

/- The abstract code of some functions (written by a program of mine from the translation, by way of prepF). -/
namespace Go.Ab.C
open Go.Ab
def impl_Shadow_allowed : AFn :=
  ⟨1, 7, [.tmp 2],
    .seq (.ops [(none, .box 1 (.t 0)),
       (none, .mv 2 (.c (.U 0)))])
    (.seq (.ops [(none, .loadN 3 6 (.t 1)),
        (none, .call (some 4) F.impl_Shadow_box [(.t 3)]),
        (none, .mkf 5 F.impl_Shadow_allowed_1 [(.t 1)]),
        (none, .call (some 6) F.impl_box_those [(.t 4), (.t 5)]),
        (none, .mv 2 (.t 6))])
     (.ret))⟩
def impl_Shadow_allowed_1 : AFn :=
  ⟨2, 20, [.tmp 3],
    .seq (.ops [(none, .box 2 (.t 0)),
       (none, .mv 3 (.c (.B false)))])
    (.seq (.seq (.ops [(none, .mv 5 (.c (.I 0)))])
      (.block 0 (.loop (.seq (.ops [(none, .bin 6 .lss (.t 5) (.c (.I 3)))])
         (.seq (.cond (.t 6) (.skip)
           (.exit 0))
          (.seq (.block 1 (.seq (.ops [(none, .mv 7 (.t 5)),
                (none, .mv 4 (.t 7))])
             (.seq (.draw [⟨(none, .loadN 8 6 (.t 1)), [], []⟩,
                 ⟨(none, .mv 9 (.t 4)), [], []⟩,
                 ⟨(none, .loadN 11 6 (.t 1)), [], []⟩,
                 ⟨(none, .loadN 13 3 (.t 2)), [], []⟩,
                 ⟨(none, .mv 14 (.t 4)), [], []⟩,
                 ⟨(none, .call (some 10) F.impl_Shadow_list [(.t 8), (.t 9)]), [], [2, 3, 4]⟩,
                 ⟨(none, .call (some 12) F.impl_Shadow_box [(.t 11)]), [], [3, 4]⟩,
                 ⟨(none, .call (some 15) F.impl_box_line [(.t 12), (.t 13), (.t 14)]), [], []⟩,
                 ⟨(none, .idxS 16 1 (.t 10) (.t 15)), [], []⟩,
                 ⟨(none, .load1 17 (.t 16)), [], []⟩,
                 ⟨(none, .bin 18 .eql (.t 17) (.c (.I 0))), [], []⟩])
              (.cond (.t 18) (.seq (.ops [(none, .mv 3 (.c (.B false)))])
                (.ret))
               (.skip)))))
           (.ops [(none, .bin 19 .add (.t 5) (.c (.I 1))),
              (none, .mv 5 (.t 19))])))))))
     (.seq (.ops [(none, .mv 3 (.c (.B true)))])
      (.ret)))⟩
end Go.Ab.C

/- That the program has this code. -/
namespace Go.Ab.K
open Go Go.Ab
theorem impl_Shadow_allowed : prepF Go.Proofs.Try.prog F.impl_Shadow_allowed = some C.impl_Shadow_allowed := by kernel_rfl
theorem impl_Shadow_allowed_1 : prepF Go.Proofs.Try.prog F.impl_Shadow_allowed_1 = some C.impl_Shadow_allowed_1 := by kernel_rfl
end Go.Ab.K

/- Contracts: allowed cells, the program's side. -/
namespace Go.Ab
open Go
set_option linter.unusedSimpArgs false
set_option linter.unusedVariables false

/-- Of a cell's lines the first k are lit. -/
def litK (y z : Int) (tp fr sd : List Int) (k : Nat) (c : Cell) : Bool := decide (∀ j, j < k → (shdList j tp fr sd).getD (lineOf y z c j).toNat 0 ≠ 0)
def allowedB (y z : Int) (tp fr sd : List Int) (c : Cell) : Bool := litK y z tp fr sd 3 c
theorem litK_succ {y z : Int} {tp fr sd : List Int} {k : Nat} {c : Cell} : litK y z tp fr sd (k + 1) c = (litK y z tp fr sd k c && !decide ((shdList k tp fr sd).getD (lineOf y z c k).toNat 0 = 0)) := by
  unfold litK
  rw [Bool.eq_iff_iff, Bool.and_eq_true, decide_eq_true_iff, decide_eq_true_iff, Bool.not_eq_true', decide_eq_false_iff_not]
  refine ⟨fun h => ⟨fun j hj => h j (by omega), h k (by omega)⟩, fun ⟨h1, h2⟩ j hj => ?_⟩
  rcases Nat.lt_or_ge j k with h3 | h3
  · exact h1 j h3
  · rw [show j = k by omega]; exact h2
theorem lit_mono {y z : Int} {tp fr sd : List Int} {k : Nat} {c : Cell} (hk : k < 3) (h : (shdList k tp fr sd).getD (lineOf y z c k).toNat 0 = 0) : allowedB y z tp fr sd c = false := decide_eq_false fun a => a k hk h
theorem ShdOK.list {x y z : Int} {tp fr sd : List Int} (h : ShdOK x y z tp fr sd) {d : Nat} (hd : d < 3) : Ones (shdList d tp fr sd) ∧ ((shdList d tp fr sd).length : Int) = linesOf x y z d := by
  obtain ⟨_, a1, a2, a3⟩ := h
  rcases (show d = 0 ∨ d = 1 ∨ d = 2 by omega) with rfl | rfl | rfl
  · exact a3
  · exact a2
  · exact a1

theorem g_allowed_1 {x y z : Int} {c : Cell} {t o t' o' t2 o2 u : Nat} {tp fr sd : List Int} {M : Mem} (h1 : Ints M t o tp) (h2 : Ints M t' o' fr) (h3 : Ints M t2 o2 sd) (hok : ShdOK x y z tp fr sd) (hc : c.inBox x y z)
    (hb : Live M u (.row [.I x, .I y, .I z, .ref t o tp.length, .ref t' o' fr.length, .ref t2 o2 sd.length] true 0)) :
    CallsTo PG F.impl_Shadow_allowed_1 ([.agg [.I c.a, .I c.b, .I c.c]] ++ [(u, 0)].map fun p => .ptr p.1 p.2) M (.B (allowedB y z tp fr sd c)) M := by
  have ht := h1.lt
  have ht' := h2.lt
  have ht2 := h3.lt
  have hul := hb.lt
  have hS := hok.1
  have hp := prod_le hS
  refine calls_run K.impl_Shadow_allowed_1 rfl ?_
  simp (disch := omega) only [C.impl_Shadow_allowed_1, List.map_cons, List.map_nil, ↓SXd, SXu, slBounds, ↓sop, ↓aop, ↓reduceIte, LV.cells, AOp.dst, LV.I, LV.B, LV.U, LV.S, LV.nil, Nat.reduceEqDiff, Nat.reduceAdd, Nat.reduceMul, Nat.reduceSub, Nat.reduceLeDiff, Nat.reduceBEq, Nat.reduceDiv, Nat.reduceMod, Int.reduceToNat, Int.reduceLT, Int.reduceLE, Int.reduceAdd, Int.reduceSub, Int.reduceMul, Int.reduceEq, Int.reduceNeg, reduceCtorEq, resV, resAll, ARes.ev, LV.flat, ite_true, ite_false, exists_eq_left', exists_eq_left, keyOf, implies_true, fillC, capOf]
  refine ev_loop (fun m fr1 M' => ∃ d : Nat, d + m = 3 ∧ M' = M ++ [some (.row [.I c.a, .I c.b, .I c.c] true 0)] ∧ litK y z tp fr sd d c = true ∧ fr1 1 = .ptr u 0 ∧ fr1 2 = .ptr M.length 0 ∧ fr1 5 = .I d) 3
    ⟨0, rfl, rfl, decide_eq_true (by omega), rfl, rfl, rfl⟩ ?_
  rintro m fr1 M' ⟨d, hd, rfl, hlit, f1, f2, f5⟩
  simp (disch := omega) only [f1, f2, f5, ↓SXd, SXu, slBounds, ↓sop, ↓aop, ↓reduceIte, LV.cells, AOp.dst, LV.I, LV.B, LV.U, LV.S, LV.nil, Nat.reduceEqDiff, Nat.reduceAdd, Nat.reduceMul, Nat.reduceSub, Nat.reduceLeDiff, Nat.reduceBEq, Nat.reduceDiv, Nat.reduceMod, Int.reduceToNat, Int.reduceLT, Int.reduceLE, Int.reduceAdd, Int.reduceSub, Int.reduceMul, Int.reduceEq, Int.reduceNeg, reduceCtorEq, resV, resAll, ARes.ev, LV.flat, ite_true, ite_false, exists_eq_left', exists_eq_left, keyOf, implies_true, fillC, capOf]
  refine condC_dec (fun hlt => ?_) (fun hlt => ?_)
  · have hd3 : d < 3 := by omega
    obtain ⟨tt, oo, hq, hI⟩ : ∃ tt oo, (if d = 0 then LV.ref t2 o2 sd.length else if d = 1 then LV.ref t' o' fr.length else LV.ref t o tp.length) = .ref tt oo (shdList d tp fr sd).length ∧ Ints M tt oo (shdList d tp fr sd) := by
      unfold shdList
      rcases (show d = 0 ∨ d = 1 ∨ d = 2 by omega) with rfl | rfl | rfl
      · exact ⟨_, _, rfl, h3⟩
      · exact ⟨_, _, rfl, h2⟩
      · exact ⟨_, _, rfl, h1⟩
    have hlist := g_Shadow_list (x := x) (y := y) (z := z) (t := t) (t' := t') (t2 := t2) (o := o) (o' := o') (o2 := o2) (n := tp.length) (n' := fr.length) (n2 := sd.length) (M := M ++ [some (.row [.I c.a, .I c.b, .I c.c] true 0)]) hd3 (by simp; omega) (by simp; omega) (by simp; omega)
    rw [hq] at hlist
    obtain ⟨_, hlen⟩ := hok.list hd3
    obtain ⟨hl1, hl2⟩ := lineOf_in hS hc hd3
    have hsucc := litK_succ (y := y) (z := z) (tp := tp) (fr := fr) (sd := sd) (k := d) (c := c)
    have hmono := lit_mono (y := y) (z := z) (tp := tp) (fr := fr) (sd := sd) (c := c) hd3
    generalize shdList d tp fr sd = xs at hlist hI hlen hsucc hmono
    simp (disch := omega) only [f1, f2, f5, hb.app.cells, ↓SXd, SXu, slBounds, ↓sop, ↓aop, ↓reduceIte, LV.cells, AOp.dst, LV.I, LV.B, LV.U, LV.S, LV.nil, Nat.reduceEqDiff, Nat.reduceAdd, Nat.reduceMul, Nat.reduceSub, Nat.reduceLeDiff, Nat.reduceBEq, Nat.reduceDiv, Nat.reduceMod, Int.reduceToNat, Int.reduceLT, Int.reduceLE, Int.reduceAdd, Int.reduceSub, Int.reduceMul, Int.reduceEq, Int.reduceNeg, reduceCtorEq, resV, resAll, ARes.ev, LV.flat, ite_true, ite_false, exists_eq_left', exists_eq_left, keyOf, implies_true, fillC, capOf]
    refine callK_of (hlist) ?_
    simp (disch := omega) only [f1, f2, f5, ↓SXd, SXu, slBounds, ↓sop, ↓aop, ↓reduceIte, LV.cells, AOp.dst, LV.I, LV.B, LV.U, LV.S, LV.nil, Nat.reduceEqDiff, Nat.reduceAdd, Nat.reduceMul, Nat.reduceSub, Nat.reduceLeDiff, Nat.reduceBEq, Nat.reduceDiv, Nat.reduceMod, Int.reduceToNat, Int.reduceLT, Int.reduceLE, Int.reduceAdd, Int.reduceSub, Int.reduceMul, Int.reduceEq, Int.reduceNeg, reduceCtorEq, resV, resAll, ARes.ev, LV.flat, ite_true, ite_false, exists_eq_left', exists_eq_left, keyOf, implies_true, fillC, capOf]
    refine callK_of (g_Shadow_box) ?_
    simp (disch := omega) only [f1, f2, f5, ↓SXd, SXu, slBounds, ↓sop, ↓aop, ↓reduceIte, LV.cells, AOp.dst, LV.I, LV.B, LV.U, LV.S, LV.nil, Nat.reduceEqDiff, Nat.reduceAdd, Nat.reduceMul, Nat.reduceSub, Nat.reduceLeDiff, Nat.reduceBEq, Nat.reduceDiv, Nat.reduceMod, Int.reduceToNat, Int.reduceLT, Int.reduceLE, Int.reduceAdd, Int.reduceSub, Int.reduceMul, Int.reduceEq, Int.reduceNeg, reduceCtorEq, resV, resAll, ARes.ev, LV.flat, ite_true, ite_false, exists_eq_left', exists_eq_left, keyOf, implies_true, fillC, capOf]
    have hgx := Ints.get (hI.app (L := [some (.row [.I c.a, .I c.b, .I c.c] true 0)])) (k := (lineOf y z c d).toNat) (by omega)
    refine callK_of (g_line hS hc hd3) ?_
    simp (disch := omega) only [f1, f2, f5, hgx, ↓SXd, SXu, slBounds, ↓sop, ↓aop, ↓reduceIte, LV.cells, AOp.dst, LV.I, LV.B, LV.U, LV.S, LV.nil, Nat.reduceEqDiff, Nat.reduceAdd, Nat.reduceMul, Nat.reduceSub, Nat.reduceLeDiff, Nat.reduceBEq, Nat.reduceDiv, Nat.reduceMod, Int.reduceToNat, Int.reduceLT, Int.reduceLE, Int.reduceAdd, Int.reduceSub, Int.reduceMul, Int.reduceEq, Int.reduceNeg, reduceCtorEq, resV, resAll, ARes.ev, LV.flat, ite_true, ite_false, exists_eq_left', exists_eq_left, keyOf, implies_true, fillC, capOf]
    by_cases hz : xs.getD (lineOf y z c d).toNat 0 = 0
    · simp (disch := omega) only [f1, f2, f5, hz, ↓SXd, SXu, slBounds, ↓sop, ↓aop, ↓reduceIte, LV.cells, AOp.dst, LV.I, LV.B, LV.U, LV.S, LV.nil, Nat.reduceEqDiff, Nat.reduceAdd, Nat.reduceMul, Nat.reduceSub, Nat.reduceLeDiff, Nat.reduceBEq, Nat.reduceDiv, Nat.reduceMod, Int.reduceToNat, Int.reduceLT, Int.reduceLE, Int.reduceAdd, Int.reduceSub, Int.reduceMul, Int.reduceEq, Int.reduceNeg, reduceCtorEq, resV, resAll, ARes.ev, LV.flat, ite_true, ite_false, exists_eq_left', exists_eq_left, keyOf, implies_true, fillC, capOf]
      rw [hmono hz]
      exact cmp_drop rfl
    · simp (disch := omega) only [f1, f2, f5, hz, ↓SXd, SXu, slBounds, ↓sop, ↓aop, ↓reduceIte, LV.cells, AOp.dst, LV.I, LV.B, LV.U, LV.S, LV.nil, Nat.reduceEqDiff, Nat.reduceAdd, Nat.reduceMul, Nat.reduceSub, Nat.reduceLeDiff, Nat.reduceBEq, Nat.reduceDiv, Nat.reduceMod, Int.reduceToNat, Int.reduceLT, Int.reduceLE, Int.reduceAdd, Int.reduceSub, Int.reduceMul, Int.reduceEq, Int.reduceNeg, reduceCtorEq, resV, resAll, ARes.ev, LV.flat, ite_true, ite_false, exists_eq_left', exists_eq_left, keyOf, implies_true, fillC, capOf]
      exact ⟨m - 1, by omega, d + 1, by omega, rfl, by rw [hsucc, hlit, decide_eq_false hz]; rfl, f1, f2, eqI (natI _)⟩
  · simp (disch := omega) only [f1, f2, f5, ↓SXd, SXu, slBounds, ↓sop, ↓aop, ↓reduceIte, LV.cells, AOp.dst, LV.I, LV.B, LV.U, LV.S, LV.nil, Nat.reduceEqDiff, Nat.reduceAdd, Nat.reduceMul, Nat.reduceSub, Nat.reduceLeDiff, Nat.reduceBEq, Nat.reduceDiv, Nat.reduceMod, Int.reduceToNat, Int.reduceLT, Int.reduceLE, Int.reduceAdd, Int.reduceSub, Int.reduceMul, Int.reduceEq, Int.reduceNeg, reduceCtorEq, resV, resAll, ARes.ev, LV.flat, ite_true, ite_false, exists_eq_left', exists_eq_left, keyOf, implies_true, fillC, capOf]
    have : d = 3 := by omega
    subst this
    rw [show allowedB y z tp fr sd c = true from hlit]
    exact cmp_drop rfl

theorem g_allowed {x y z : Int} {t o t' o' t2 o2 : Nat} {tp fr sd : List Int} {M : Mem} (h1 : Ints M t o tp) (h2 : Ints M t' o' fr) (h3 : Ints M t2 o2 sd) (hok : ShdOK x y z tp fr sd) :
    CallsTo PG F.impl_Shadow_allowed [.agg [.I x, .I y, .I z, .ref t o tp.length, .ref t' o' fr.length, .ref t2 o2 sd.length]] M (.W (bs x y z (allowedB y z tp fr sd))) M := by
  have hS := hok.1
  have hv := vol_cast hS
  refine calls_run K.impl_Shadow_allowed rfl ?_
  simp (disch := omega) only [C.impl_Shadow_allowed, ↓SXd, SXu, slBounds, ↓sop, ↓aop, ↓reduceIte, LV.cells, AOp.dst, LV.I, LV.B, LV.U, LV.S, LV.nil, Nat.reduceEqDiff, Nat.reduceAdd, Nat.reduceMul, Nat.reduceSub, Nat.reduceLeDiff, Nat.reduceBEq, Nat.reduceDiv, Nat.reduceMod, Int.reduceToNat, Int.reduceLT, Int.reduceLE, Int.reduceAdd, Int.reduceSub, Int.reduceMul, Int.reduceEq, Int.reduceNeg, reduceCtorEq, resV, resAll, ARes.ev, LV.flat, ite_true, ite_false, exists_eq_left', exists_eq_left, keyOf, implies_true, fillC, capOf]
  refine callK_of (g_Shadow_box) ?_
  simp (disch := omega) only [↓SXd, SXu, slBounds, ↓sop, ↓aop, ↓reduceIte, LV.cells, AOp.dst, LV.I, LV.B, LV.U, LV.S, LV.nil, Nat.reduceEqDiff, Nat.reduceAdd, Nat.reduceMul, Nat.reduceSub, Nat.reduceLeDiff, Nat.reduceBEq, Nat.reduceDiv, Nat.reduceMod, Int.reduceToNat, Int.reduceLT, Int.reduceLE, Int.reduceAdd, Int.reduceSub, Int.reduceMul, Int.reduceEq, Int.reduceNeg, reduceCtorEq, resV, resAll, ARes.ev, LV.flat, ite_true, ite_false, exists_eq_left', exists_eq_left, keyOf, implies_true, fillC, capOf]
  refine callK_of (g_those hS (p := allowedB y z tp fr sd) (f := F.impl_Shadow_allowed_1) (caps := [(M.length, 0)]) fun M' hp i hi => ?_) ?_
  · have hpM : Pre M M' := (Pre.app _ _).trans hp
    exact g_allowed_1 (h1.pre hpM) (h2.pre hpM) (h3.pre hpM) hok (cellAt_in hS (by omega) (by omega)).1 (Live.new.pre hp)
  simp (disch := omega) only [↓SXd, SXu, slBounds, ↓sop, ↓aop, ↓reduceIte, LV.cells, AOp.dst, LV.I, LV.B, LV.U, LV.S, LV.nil, Nat.reduceEqDiff, Nat.reduceAdd, Nat.reduceMul, Nat.reduceSub, Nat.reduceLeDiff, Nat.reduceBEq, Nat.reduceDiv, Nat.reduceMod, Int.reduceToNat, Int.reduceLT, Int.reduceLE, Int.reduceAdd, Int.reduceSub, Int.reduceMul, Int.reduceEq, Int.reduceNeg, reduceCtorEq, resV, resAll, ARes.ev, LV.flat, ite_true, ite_false, exists_eq_left', exists_eq_left, keyOf, implies_true, fillC, capOf]
  exact cmp_drop rfl
end Go.Ab

/- Plain: how often a line of a box is met by cells of a list; cells that are alone in a line. -/
namespace Go.Ab
open Go
set_option linter.unusedSimpArgs false
set_option linter.unusedVariables false

def onLine (y z : Int) (d : Nat) (i : Nat) (c : Cell) : Bool := decide ((lineOf y z c d).toNat = i)
theorem fold_get {y z : Int} {d : Nat} : ∀ {cs : List Cell} {v : List Int} {i : Nat}, i < v.length → (cs.foldl (viewStep y z d) v).getD i 0 = v.getD i 0 + (cs.countP (onLine y z d i) : Nat)
  | [], v, i, _ => by simp
  | c :: cs, v, i, h => by
    rw [List.foldl_cons, fold_get (by simpa [viewStep] using h), List.countP_cons]
    unfold viewStep
    rw [getD_set]
    by_cases e : (lineOf y z c d).toNat = i
    · rw [if_pos ⟨e.symm, by omega⟩, show onLine y z d i c = true from decide_eq_true e]
      subst e; simp; omega
    · rw [if_neg (fun h => e h.1.symm), show onLine y z d i c = false from decide_eq_false e]
      simp
theorem viewL_get {x y z : Int} {d i : Nat} {cs : List Cell} (h : i < (linesOf x y z d).toNat) : (viewL x y z d cs).getD i 0 = (cs.countP (onLine y z d i) : Nat) := by
  unfold viewL
  rw [fold_get (by simpa using h)]
  simp [List.getD_eq_getElem?_getD, List.getElem?_replicate, h]

/-- A cell alone, among cells, in one of its lines of the first k directions. -/
def aloneK (y z : Int) (cs : List Cell) : Nat → Cell → Bool
  | 0, _ => false
  | k + 1, c => aloneK y z cs k c || decide (cs.countP (onLine y z k (lineOf y z c k).toNat) = 1)
theorem aloneK_iff {y z : Int} {cs : List Cell} {c : Cell} : ∀ {k : Nat}, aloneK y z cs k c = true ↔ ∃ d, d < k ∧ cs.countP (onLine y z d (lineOf y z c d).toNat) = 1
  | 0 => by simp [aloneK]
  | k + 1 => by
    unfold aloneK
    rw [Bool.or_eq_true, aloneK_iff, decide_eq_true_iff]
    constructor
    · rintro (⟨d, h, e⟩ | e)
      · exact ⟨d, by omega, e⟩
      · exact ⟨k, by omega, e⟩
    · rintro ⟨d, h, e⟩
      by_cases hd : d < k
      · exact .inl ⟨d, hd, e⟩
      · exact .inr (by rw [← show d = k by omega]; exact e)

/-- The lit lines of a shadow. -/
def litL (xs : List Int) (n : Nat) : List Nat := (List.range n).filter fun i => decide (xs.getD i 0 = 1)
def litTo (tp fr sd : List Int) (d i : Nat) : List (Nat × Nat) := ((List.range d).flatMap fun e => (litL (shdList e tp fr sd) (shdList e tp fr sd).length).map fun j => (e, j)) ++ (litL (shdList d tp fr sd) i).map fun j => (d, j)
def lits (tp fr sd : List Int) : List (Nat × Nat) := litTo tp fr sd 3 0
theorem litTo_next {tp fr sd : List Int} {d : Nat} : litTo tp fr sd d (shdList d tp fr sd).length = litTo tp fr sd (d + 1) 0 := by
  unfold litTo
  rw [List.range_succ, List.flatMap_append]
  simp [litL]
theorem litTo_succ {tp fr sd : List Int} {d i : Nat} : litTo tp fr sd d (i + 1) = litTo tp fr sd d i ++ (if (shdList d tp fr sd).getD i 0 = 1 then [(d, i)] else []) := by
  unfold litTo litL
  rw [List.range_succ, List.filter_append, List.map_append, List.append_assoc]
  congr 2
  by_cases h : (shdList d tp fr sd).getD i 0 = 1
  · rw [if_pos h, List.filter_cons_of_pos (by simpa using h)]; rfl
  · rw [if_neg h, List.filter_cons_of_neg (by simpa using h)]; rfl
theorem mem_lits {tp fr sd : List Int} {d i : Nat} : (d, i) ∈ lits tp fr sd ↔ d < 3 ∧ i < (shdList d tp fr sd).length ∧ (shdList d tp fr sd).getD i 0 = 1 := by
  unfold lits litTo
  simp only [litL, List.range_zero, List.filter_nil, List.map_nil, List.append_nil, List.mem_flatMap, List.mem_map, List.mem_filter, List.mem_range, decide_eq_true_eq, Prod.mk.injEq]
  constructor
  · rintro ⟨e, he, j, ⟨hj, h1⟩, rfl, rfl⟩; exact ⟨he, hj, h1⟩
  · rintro ⟨he, hj, h1⟩; exact ⟨d, he, i, ⟨hj, h1⟩, rfl, rfl⟩
theorem litTo_len {tp fr sd : List Int} {n : Nat} (h : ∀ d, (shdList d tp fr sd).length ≤ n) : ∀ {d i : Nat}, i ≤ n → (litTo tp fr sd d i).length ≤ (d + 1) * n := by
  have hl : ∀ xs k, (litL xs k).length ≤ k := fun xs k => by
    unfold litL; have := List.length_filter_le (fun i => decide (xs.getD i 0 = 1)) (List.range k); simpa using this
  intro d
  induction d with
  | zero => intro i hi; have := hl (shdList 0 tp fr sd) i; simp [litTo]; omega
  | succ d ih =>
    intro i hi
    have h1 := ih (h d)
    rw [litTo_next] at h1
    have h2 : litTo tp fr sd (d + 1) i = litTo tp fr sd (d + 1) 0 ++ (litL (shdList (d + 1) tp fr sd) i).map fun j => (d + 1, j) := by
      unfold litTo; simp [litL]
    have h3 := hl (shdList (d + 1) tp fr sd) i
    rw [h2, List.length_append, List.length_map, Nat.succ_mul]; omega
/-- The cells of p in a line. -/
def inLine (y z : Int) (p : Cell → Bool) (q : Nat × Nat) (c : Cell) : Bool := p c && onLine y z q.1 q.2 c
/-- The lines as sets. -/
def lineSets (x y z : Int) (p : Cell → Bool) (L : List (Nat × Nat)) : List LV := L.map fun q => .W (bs x y z (inLine y z p q))
theorem lineSets_lo {x y z : Int} {p : Cell → Bool} {n : Nat} {L : List (Nat × Nat)} : (lineSets x y z p L).all (LV.lo1 n) = true := by
  rw [List.all_eq_true]; intro v hv
  obtain ⟨l, _, rfl⟩ := List.mem_map.1 hv
  rfl
theorem lineSets_len {x y z : Int} {p : Cell → Bool} {L : List (Nat × Nat)} : (lineSets x y z p L).length = L.length := by simp [lineSets]
theorem lineSets_get {x y z : Int} {p : Cell → Bool} {L : List (Nat × Nat)} {i : Nat} (h : i < L.length) : (lineSets x y z p L)[i]? = some (.W (bs x y z (inLine y z p (L.getD i (0, 0))))) := by
  simp [lineSets, h]

/-- Among the first k lit lines one has the cell, and no other allowed one. -/
def mustTo (x y z : Int) (p : Cell → Bool) (L : List (Nat × Nat)) (c : Cell) : Bool := decide (∃ q ∈ L, (pick x y z (inLine y z p q)).length = 1 ∧ inLine y z p q c = true)
theorem mustTo_snoc {x y z : Int} {p : Cell → Bool} {L : List (Nat × Nat)} {q : Nat × Nat} {c : Cell} : mustTo x y z p (L ++ [q]) c = (mustTo x y z p L c || (decide ((pick x y z (inLine y z p q)).length = 1) && inLine y z p q c)) := by
  unfold mustTo
  rw [Bool.eq_iff_iff]
  simp only [decide_eq_true_eq, Bool.or_eq_true, Bool.and_eq_true, List.mem_append, List.mem_singleton]
  constructor
  · rintro ⟨r, h | rfl, h1, h2⟩
    · exact .inl ⟨r, h, h1, h2⟩
    · exact .inr ⟨h1, h2⟩
  · rintro (⟨r, h, h1, h2⟩ | ⟨h1, h2⟩)
    · exact ⟨r, .inl h, h1, h2⟩
    · exact ⟨q, .inr rfl, h1, h2⟩
theorem pick_count {x y z : Int} {p : Cell → Bool} {q : Nat × Nat} : (pick x y z (inLine y z p q)).length = (pick x y z p).countP (onLine y z q.1 q.2) := by
  unfold pick
  rw [List.countP_filter, List.countP_eq_length_filter]
  congr 1
  apply List.filter_congr
  intro c _
  unfold inLine; rw [Bool.and_comm]
/-- The cells that must be: of a shadow that is clean where its allowed cells are. -/
theorem must_eq {x y z : Int} {tp fr sd : List Int} (hok : ShdOK x y z tp fr sd) {c : Cell} (hc : c.inBox x y z) :
    mustTo x y z (allowedB y z tp fr sd) (lits tp fr sd) c = (allowedB y z tp fr sd c && aloneK y z (pick x y z (allowedB y z tp fr sd)) 3 c) := by
  unfold mustTo
  rw [Bool.eq_iff_iff, Bool.and_eq_true, aloneK_iff, decide_eq_true_iff]
  constructor
  · rintro ⟨⟨d, i⟩, hq, h1, h2⟩
    obtain ⟨hd, hi, hl⟩ := mem_lits.1 hq
    unfold inLine at h2
    rw [Bool.and_eq_true] at h2
    refine ⟨h2.1, d, hd, ?_⟩
    rw [pick_count] at h1
    rw [show (lineOf y z c d).toNat = i from of_decide_eq_true h2.2]; exact h1
  · rintro ⟨ha, d, hd, h1⟩
    have hin := lineOf_in hok.1 hc hd
    obtain ⟨ho, hlen⟩ := hok.list hd
    have hne : (shdList d tp fr sd).getD (lineOf y z c d).toNat 0 ≠ 0 := (of_decide_eq_true ha) d hd
    have hlt : (lineOf y z c d).toNat < (shdList d tp fr sd).length := by omega
    have h01 := ho _ (getD_mem' (d := (0 : Int)) hlt)
    refine ⟨(d, (lineOf y z c d).toNat), mem_lits.2 ⟨hd, hlt, by omega⟩, ?_, ?_⟩
    · rw [pick_count]; exact h1
    · unfold inLine onLine; rw [ha]; simp
end Go.Ab

/- Plain: lit lines without a cube, as the reference lists them. -/
namespace Go.Ab
open Go
set_option linter.unusedSimpArgs false
set_option linter.unusedVariables false

def offL (tp fr : List Int) (d : Nat) : Nat := if d = 2 then 0 else if d = 1 then tp.length else tp.length + fr.length
/-- The place of a cell's line among all lines. -/
def gl (y z : Int) (tp fr : List Int) (d : Nat) (c : Cell) : Nat := offL tp fr d + (lineOf y z c d).toNat
def darkStep (y z : Int) (tp fr : List Int) (v : List Bool) (c : Cell) : List Bool := ((v.set (gl y z tp fr 2 c) false).set (gl y z tp fr 1 c) false).set (gl y z tp fr 0 c) false
def darkL (y z : Int) (tp fr sd : List Int) (cs : List Cell) : List Bool := cs.foldl (darkStep y z tp fr) ((tp ++ fr ++ sd).map fun n => decide (n = 1))
theorem set_f {v : List Bool} {k n : Nat} : (v.set k false).getD n false = (v.getD n false && !decide (n = k)) := by
  rw [getD_set]
  by_cases h : n = k
  · subst h
    by_cases hl : n < v.length
    · rw [if_pos ⟨rfl, hl⟩]; simp
    · rw [if_neg (fun e => hl e.2), List.getD_eq_getElem?_getD, List.getElem?_eq_none (by omega)]; rfl
  · rw [if_neg (fun e => h e.1), decide_eq_false h]; simp
theorem darkStep_get {y z : Int} {tp fr : List Int} {v : List Bool} {c : Cell} {n : Nat} : (darkStep y z tp fr v c).getD n false = true ↔ v.getD n false = true ∧ ∀ d, d < 3 → gl y z tp fr d c ≠ n := by
  unfold darkStep
  rw [set_f, set_f, set_f]
  simp only [Bool.and_eq_true, Bool.not_eq_true', decide_eq_false_iff_not]
  constructor
  · rintro ⟨⟨⟨a, b⟩, c⟩, e⟩
    refine ⟨a, fun d hd k => ?_⟩
    rcases (show d = 0 ∨ d = 1 ∨ d = 2 by omega) with rfl | rfl | rfl
    · exact e k.symm
    · exact c k.symm
    · exact b k.symm
  · rintro ⟨a, b⟩; exact ⟨⟨⟨a, fun e => b 2 (by omega) e.symm⟩, fun e => b 1 (by omega) e.symm⟩, fun e => b 0 (by omega) e.symm⟩
theorem darkF_get {y z : Int} {tp fr : List Int} {n : Nat} : ∀ {cs : List Cell} {v : List Bool}, ((cs.foldl (darkStep y z tp fr) v).getD n false = true ↔ v.getD n false = true ∧ ∀ c ∈ cs, ∀ d, d < 3 → gl y z tp fr d c ≠ n)
  | [], v => by simp
  | c :: cs, v => by
    rw [List.foldl_cons, darkF_get, darkStep_get]
    constructor
    · rintro ⟨⟨h1, h2⟩, h3⟩
      refine ⟨h1, fun e he d hd => ?_⟩
      rcases List.mem_cons.1 he with rfl | he
      · exact h2 d hd
      · exact h3 e he d hd
    · rintro ⟨h1, h2⟩
      exact ⟨⟨h1, h2 c (by simp)⟩, fun e he => h2 e (by simp [he])⟩
theorem darkF_len {y z : Int} {tp fr : List Int} : ∀ {cs : List Cell} {v : List Bool}, (cs.foldl (darkStep y z tp fr) v).length = v.length
  | [], _ => rfl
  | c :: cs, v => by rw [List.foldl_cons, darkF_len]; simp [darkStep]
theorem darkL_len {y z : Int} {tp fr sd : List Int} {cs : List Cell} : (darkL y z tp fr sd cs).length = tp.length + fr.length + sd.length := by
  unfold darkL; rw [darkF_len]; simp; omega
theorem all_get {tp fr sd : List Int} {d i : Nat} (hd : d < 3) (hi : i < (shdList d tp fr sd).length) : (tp ++ fr ++ sd).getD (offL tp fr d + i) 0 = (shdList d tp fr sd).getD i 0 := by
  rcases (show d = 0 ∨ d = 1 ∨ d = 2 by omega) with rfl | rfl | rfl
  · have e : shdList 0 tp fr sd = sd := rfl
    have o : offL tp fr 0 = (tp ++ fr).length := by rw [List.length_append]; rfl
    rw [e, o, List.getD_eq_getElem?_getD, List.getElem?_append_right (by omega), ← List.getD_eq_getElem?_getD, Nat.add_sub_cancel_left]
  · have e : shdList 1 tp fr sd = fr := rfl
    have o : offL tp fr 1 = tp.length := rfl
    rw [e] at hi ⊢
    rw [o, List.getD_eq_getElem?_getD, List.getElem?_append_left (by rw [List.length_append]; omega), List.getElem?_append_right (by omega), ← List.getD_eq_getElem?_getD, Nat.add_sub_cancel_left]
  · have e : shdList 2 tp fr sd = tp := rfl
    have o : offL tp fr 2 = 0 := rfl
    rw [e] at hi ⊢
    rw [o, Nat.zero_add, List.getD_eq_getElem?_getD, List.append_assoc, List.getElem?_append_left hi, ← List.getD_eq_getElem?_getD]
theorem all_part {tp fr sd : List Int} {n : Nat} (h : n < tp.length + fr.length + sd.length) : ∃ d i, d < 3 ∧ i < (shdList d tp fr sd).length ∧ n = offL tp fr d + i := by
  rcases Nat.lt_or_ge n tp.length with h1 | h1
  · exact ⟨2, n, by omega, h1, by simp [offL]⟩
  · rcases Nat.lt_or_ge n (tp.length + fr.length) with h2 | h2
    · exact ⟨1, n - tp.length, by omega, by show _ < fr.length; omega, by simp [offL]; omega⟩
    · exact ⟨0, n - (tp.length + fr.length), by omega, by show _ < sd.length; omega, by simp [offL]; omega⟩
theorem gl_eq {x y z : Int} {tp fr sd : List Int} (hok : ShdOK x y z tp fr sd) {c : Cell} (hc : c.inBox x y z) {d d' i : Nat} (hd : d < 3) (hd' : d' < 3) (hi : i < (shdList d tp fr sd).length) : gl y z tp fr d' c = offL tp fr d + i ↔ d' = d ∧ onLine y z d i c = true := by
  have hl := fun e (he : e < 3) => lineOf_in hok.1 hc (d := e) he
  have hb := fun e (he : e < 3) => (hok.list (d := e) he).2
  have l0 := hl 0 (by omega); have l1 := hl 1 (by omega); have l2 := hl 2 (by omega)
  have b0 : ((sd.length : Nat) : Int) = linesOf x y z 0 := hb 0 (by omega)
  have b1 : ((fr.length : Nat) : Int) = linesOf x y z 1 := hb 1 (by omega)
  have b2 : ((tp.length : Nat) : Int) = linesOf x y z 2 := hb 2 (by omega)
  unfold onLine gl
  rw [decide_eq_true_iff]
  have s0 : (shdList 0 tp fr sd).length = sd.length := rfl
  have s1 : (shdList 1 tp fr sd).length = fr.length := rfl
  have s2 : (shdList 2 tp fr sd).length = tp.length := rfl
  have o0 : offL tp fr 0 = tp.length + fr.length := rfl
  have o1 : offL tp fr 1 = tp.length := rfl
  have o2 : offL tp fr 2 = 0 := rfl
  rcases (show d = 0 ∨ d = 1 ∨ d = 2 by omega) with rfl | rfl | rfl <;> rcases (show d' = 0 ∨ d' = 1 ∨ d' = 2 by omega) with rfl | rfl | rfl <;> simp only [o0, o1, o2, true_and] <;> omega

/-- Cells meet all lit lines. -/
def Meets (y z : Int) (L : List (Nat × Nat)) (cs : List Cell) : Prop := ∀ q ∈ L, ∃ c ∈ cs, onLine y z q.1 q.2 c = true
instance (y z : Int) (L : List (Nat × Nat)) (cs : List Cell) : Decidable (Meets y z L cs) := by unfold Meets; exact inferInstance
theorem dark_iff {x y z : Int} {tp fr sd : List Int} (hok : ShdOK x y z tp fr sd) {cs : List Cell} (hc : ∀ c ∈ cs, c.inBox x y z) {d i : Nat} (hd : d < 3) (hi : i < (shdList d tp fr sd).length) :
    (darkL y z tp fr sd cs).getD (offL tp fr d + i) false = true ↔ (shdList d tp fr sd).getD i 0 = 1 ∧ ¬ ∃ c ∈ cs, onLine y z d i c = true := by
  have hn : offL tp fr d + i < (tp ++ fr ++ sd).length := by
    have s0 : (shdList 0 tp fr sd).length = sd.length := rfl
    have s1 : (shdList 1 tp fr sd).length = fr.length := rfl
    have s2 : (shdList 2 tp fr sd).length = tp.length := rfl
    have o0 : offL tp fr 0 = tp.length + fr.length := rfl
    have o1 : offL tp fr 1 = tp.length := rfl
    have o2 : offL tp fr 2 = 0 := rfl
    simp only [List.length_append]
    rcases (show d = 0 ∨ d = 1 ∨ d = 2 by omega) with rfl | rfl | rfl <;> omega
  unfold darkL
  rw [darkF_get]
  have hb : ((tp ++ fr ++ sd).map fun n => decide (n = 1)).getD (offL tp fr d + i) false = decide ((shdList d tp fr sd).getD i 0 = 1) := by
    rw [← all_get hd hi, List.getD_eq_getElem?_getD, List.getElem?_map, List.getElem?_eq_getElem hn, List.getD_eq_getElem?_getD, List.getElem?_eq_getElem hn]
    simp
  rw [hb, decide_eq_true_iff]
  constructor
  · rintro ⟨h1, h2⟩
    exact ⟨h1, fun ⟨c, h3, h4⟩ => h2 c h3 d hd ((gl_eq hok (hc c h3) hd hd hi).2 ⟨rfl, h4⟩)⟩
  · rintro ⟨h1, h2⟩
    exact ⟨h1, fun c h3 d' hd' e => h2 ⟨c, h3, ((gl_eq hok (hc c h3) hd hd' hi).1 e).2⟩⟩
theorem met_iff {x y z : Int} {tp fr sd : List Int} (hok : ShdOK x y z tp fr sd) {cs : List Cell} (hc : ∀ c ∈ cs, c.inBox x y z) :
    (∀ n, n < (darkL y z tp fr sd cs).length → (darkL y z tp fr sd cs).getD n false = false) ↔ Meets y z (lits tp fr sd) cs := by
  rw [darkL_len]
  constructor
  · rintro h ⟨d, i⟩ hq
    obtain ⟨hd, hi, hl⟩ := mem_lits.1 hq
    refine Classical.byContradiction fun hno => ?_
    have h1 := (dark_iff hok hc hd hi).2 ⟨hl, hno⟩
    by_cases hlt : offL tp fr d + i < tp.length + fr.length + sd.length
    · rw [h _ hlt] at h1; cases h1
    · have : (darkL y z tp fr sd cs).length ≤ offL tp fr d + i := by rw [darkL_len]; omega
      rw [List.getD_eq_getElem?_getD, List.getElem?_eq_none this] at h1; cases h1
  · intro h n hn
    obtain ⟨d, i, hd, hi, rfl⟩ := all_part hn
    cases hg : (darkL y z tp fr sd cs).getD (offL tp fr d + i) false with
    | false => rfl
    | true =>
      obtain ⟨h1, h2⟩ := (dark_iff hok hc hd hi).1 hg
      exact absurd (h (d, i) (mem_lits.2 ⟨hd, hi, h1⟩)) h2
end Go.Ab

/- The abstract code of some functions (written by a program of mine from the translation, by way of prepF). -/
namespace Go.Ab.C
open Go.Ab
end Go.Ab.C

/- That the program has this code. -/
namespace Go.Ab.K
open Go Go.Ab
end Go.Ab.K

/- The abstract code of some functions (written by a program of mine from the translation, by way of prepF). -/
namespace Go.Ab.C
open Go.Ab
def spec_l2Empty : AFn :=
  ⟨3, 12, [.cellN 6 4],
    .seq (.ops [(none, .alloc 6 [(.I 0), (.I 0), (.I 0), .nil])])
    (.seq (.ops [(none, .mv 7 (.t 0)),
        (none, .mv 8 (.t 1)),
        (none, .mv 9 (.t 2)),
        (none, .buildSl 10 0 3 [] []),
        (none, .build 11 [(.I 0), (.I 0), (.I 0), .nil] [(0, 1, (.t 7)), (1, 1, (.t 8)), (2, 1, (.t 9)), (3, 1, (.t 10))]),
        (none, .store 4 (.t 6) (.t 11))])
     (.ret))⟩
def spec_l2All : AFn :=
  ⟨1, 34, [.tmp 2],
    .seq (.ops [(none, .box 1 (.t 0)),
       (none, .mv 2 (.c .nil))])
    (.seq (.ops [(none, .buildSl 7 0 3 [] []),
        (none, .mv 3 (.t 7))])
     (.seq (.seq (.ops [(none, .mv 4 (.c (.I 0)))])
       (.block 0 (.loop (.seq (.seq (.ops [(none, .mv 8 (.t 4)),
              (none, .fieldAddr 9 (.t 1) 0),
              (none, .load1 10 (.t 9)),
              (none, .bin 11 .lss (.t 8) (.t 10))])
           (.cond (.t 11) (.skip)
            (.exit 0)))
          (.seq (.block 1 (.seq (.ops [(none, .mv 5 (.c (.I 0)))])
             (.block 2 (.loop (.seq (.seq (.ops [(none, .mv 14 (.t 5)),
                    (none, .fieldAddr 15 (.t 1) 1),
                    (none, .load1 16 (.t 15)),
                    (none, .bin 17 .lss (.t 14) (.t 16))])
                 (.cond (.t 17) (.skip)
                  (.exit 2)))
                (.seq (.block 3 (.seq (.ops [(none, .mv 6 (.c (.I 0)))])
                   (.block 4 (.loop (.seq (.seq (.ops [(none, .mv 20 (.t 6)),
                          (none, .fieldAddr 21 (.t 1) 2),
                          (none, .load1 22 (.t 21)),
                          (none, .bin 23 .lss (.t 20) (.t 22))])
                       (.cond (.t 23) (.skip)
                        (.exit 4)))
                      (.seq (.block 5 (.ops [(none, .mv 26 (.t 3)),
                           (none, .mv 27 (.t 4)),
                           (none, .mv 28 (.t 5)),
                           (none, .mv 29 (.t 6)),
                           (none, .build 30 [(.I 0), (.I 0), (.I 0)] [(0, 1, (.t 27)), (1, 1, (.t 28)), (2, 1, (.t 29))]),
                           (none, .buildSl 31 1 3 [(.I 0), (.I 0), (.I 0)] [(0, 3, (.t 30))]),
                           (none, .append 32 3 24 (.t 26) (.t 31)),
                           (none, .mv 3 (.t 32))]))
                       (.ops [(none, .mv 24 (.t 6)),
                          (none, .bin 25 .add (.t 24) (.c (.I 1))),
                          (none, .mv 6 (.t 25))])))))))
                 (.ops [(none, .mv 18 (.t 5)),
                    (none, .bin 19 .add (.t 18) (.c (.I 1))),
                    (none, .mv 5 (.t 19))])))))))
           (.ops [(none, .mv 12 (.t 4)),
              (none, .bin 13 .add (.t 12) (.c (.I 1))),
              (none, .mv 4 (.t 13))]))))))
      (.seq (.ops [(none, .mv 33 (.t 3)),
          (none, .mv 2 (.t 33))])
       (.ret))))⟩
def spec_l2Made : AFn :=
  ⟨2, 13, [.cellN 4 4],
    .seq (.ops [(none, .box 2 (.t 0)),
       (none, .alloc 4 [(.I 0), (.I 0), (.I 0), .nil])])
    (.seq (.ops [(none, .fieldAddr 5 (.t 2) 0),
        (none, .load1 6 (.t 5)),
        (none, .fieldAddr 7 (.t 2) 1),
        (none, .load1 8 (.t 7)),
        (none, .fieldAddr 9 (.t 2) 2),
        (none, .load1 10 (.t 9)),
        (none, .mv 11 (.t 1)),
        (none, .build 12 [(.I 0), (.I 0), (.I 0), .nil] [(0, 1, (.t 6)), (1, 1, (.t 8)), (2, 1, (.t 10)), (3, 1, (.t 11))]),
        (none, .store 4 (.t 4) (.t 12))])
     (.ret))⟩
end Go.Ab.C

/- That the program has this code. -/
namespace Go.Ab.K
open Go Go.Ab
theorem spec_l2Empty : prepF Go.Proofs.Try.prog F.spec_l2Empty = some C.spec_l2Empty := by kernel_rfl
theorem spec_l2All : prepF Go.Proofs.Try.prog F.spec_l2All = some C.spec_l2All := by kernel_rfl
theorem spec_l2Made : prepF Go.Proofs.Try.prog F.spec_l2Made = some C.spec_l2Made := by kernel_rfl
end Go.Ab.K

/- The abstract code of some functions (written by a program of mine from the translation, by way of prepF). -/
namespace Go.Ab.C
open Go.Ab
end Go.Ab.C

/- That the program has this code. -/
namespace Go.Ab.K
open Go Go.Ab
end Go.Ab.K

/- The abstract code of some functions (written by a program of mine from the translation, by way of prepF). -/
namespace Go.Ab.C
open Go.Ab
end Go.Ab.C

/- That the program has this code. -/
namespace Go.Ab.K
open Go Go.Ab
end Go.Ab.K

/- Contracts: the reference's valid heaps, heights, columns. -/
namespace Go.Ab
open Go
set_option linter.unusedSimpArgs false
set_option linter.unusedVariables false

end Go.Ab

/- Contracts: distances of cells. -/
namespace Go.Ab
open Go
set_option linter.unusedSimpArgs false
set_option linter.unusedVariables false

end Go.Ab

/- Contracts: the reference's heaps. -/
namespace Go.Ab
open Go
set_option linter.unusedSimpArgs false
set_option linter.unusedVariables false

theorem h_l2Empty {x y z : Int} {M : Mem} : CallsTo PG F.spec_l2Empty [.I x, .I y, .I z] M (.agg [.I x, .I y, .I z, .ref M.length 0 0]) (M ++ [some (.row [] true 3)]) := by
  refine calls_run K.spec_l2Empty rfl ?_
  simp (disch := omega) only [C.spec_l2Empty, splice, ↓SXd, SXu, slBounds, ↓sop, ↓aop, ↓reduceIte, LV.cells, AOp.dst, LV.I, LV.B, LV.U, LV.S, LV.nil, Nat.reduceEqDiff, Nat.reduceAdd, Nat.reduceMul, Nat.reduceSub, Nat.reduceLeDiff, Nat.reduceBEq, Nat.reduceDiv, Nat.reduceMod, Int.reduceToNat, Int.reduceLT, Int.reduceLE, Int.reduceAdd, Int.reduceSub, Int.reduceMul, Int.reduceEq, Int.reduceNeg, reduceCtorEq, resV, resAll, ARes.ev, LV.flat, ite_true, ite_false, exists_eq_left', exists_eq_left, keyOf, implies_true, fillC, capOf]
  exact cmp_keep1 (j := 1) rfl rfl (by simp [rn, rn0, rn1, keepR_n])

theorem h_l2Made {x y z : Int} {v : LV} {t o n : Nat} {M : Mem} (ht : t < M.length) : CallsTo PG F.spec_l2Made [.agg [.I x, .I y, .I z, v], .ref t o n] M (.agg [.I x, .I y, .I z, .ref t o n]) M := by
  refine calls_run K.spec_l2Made rfl ?_
  simp (disch := omega) only [C.spec_l2Made, splice, ↓SXd, SXu, slBounds, ↓sop, ↓aop, ↓reduceIte, LV.cells, AOp.dst, LV.I, LV.B, LV.U, LV.S, LV.nil, Nat.reduceEqDiff, Nat.reduceAdd, Nat.reduceMul, Nat.reduceSub, Nat.reduceLeDiff, Nat.reduceBEq, Nat.reduceDiv, Nat.reduceMod, Int.reduceToNat, Int.reduceLT, Int.reduceLE, Int.reduceAdd, Int.reduceSub, Int.reduceMul, Int.reduceEq, Int.reduceNeg, reduceCtorEq, resV, resAll, ARes.ev, LV.flat, ite_true, ite_false, exists_eq_left', exists_eq_left, keyOf, implies_true, fillC, capOf]
  exact cmp_drop (by simp [LV.lo, LV.lo1, ht])

theorem h_l2All {x y z : Int} {v : LV} {M : Mem} (hS : Sides x y z) : CallsTo PG F.spec_l2All [.agg [.I x, .I y, .I z, v]] M (.ref M.length 0 (cellsOf x y z).length) (M ++ [some (.row (triL (cellsOf x y z)) true 3)]) := by
  obtain ⟨hx, hy, hz⟩ := id hS
  have hv := vol_cast hS
  have hlen : (cellsOf x y z).length = vol x y z := by simp [cellsOf]
  refine calls_run K.spec_l2All rfl ?_
  simp (disch := omega) only [C.spec_l2All, ↓SXd, SXu, slBounds, ↓sop, ↓aop, ↓reduceIte, LV.cells, AOp.dst, LV.I, LV.B, LV.U, LV.S, LV.nil, Nat.reduceEqDiff, Nat.reduceAdd, Nat.reduceMul, Nat.reduceSub, Nat.reduceLeDiff, Nat.reduceBEq, Nat.reduceDiv, Nat.reduceMod, Int.reduceToNat, Int.reduceLT, Int.reduceLE, Int.reduceAdd, Int.reduceSub, Int.reduceMul, Int.reduceEq, Int.reduceNeg, reduceCtorEq, resV, resAll, ARes.ev, LV.flat, ite_true, ite_false, exists_eq_left', exists_eq_left, keyOf, implies_true, fillC, capOf]
  refine ev_loop (fun m fr M' => ∃ (a u : Nat) (acc : List Cell), (a : Int) + m = x ∧ acc = (cellsOf x y z).take (idx y z ⟨a, 0, 0⟩).toNat ∧ Pre M M' ∧ Live M' M.length (.row [.I x, .I y, .I z, v] true 0) ∧ M.length + 1 ≤ u ∧ Live M' u (.row (triL acc) true 3) ∧
    fr 1 = .ptr M.length 0 ∧ fr 3 = .ref u 0 acc.length ∧ fr 4 = .I a) x.toNat
    ⟨0, M.length + 1, [], by omega, by simp [idx], Pre.app _ _, Live.new, by omega, Live.newj rfl, rfl, rfl, rfl⟩ ?_
  rintro m fr M' ⟨a, u, acc, ha, hacc, hpre, hbox, hu, hout, f1, f3, f4⟩
  simp (disch := omega) only [f1, f3, f4, hbox.cell, ↓SXd, SXu, slBounds, ↓sop, ↓aop, ↓reduceIte, LV.cells, AOp.dst, LV.I, LV.B, LV.U, LV.S, LV.nil, Nat.reduceEqDiff, Nat.reduceAdd, Nat.reduceMul, Nat.reduceSub, Nat.reduceLeDiff, Nat.reduceBEq, Nat.reduceDiv, Nat.reduceMod, Int.reduceToNat, Int.reduceLT, Int.reduceLE, Int.reduceAdd, Int.reduceSub, Int.reduceMul, Int.reduceEq, Int.reduceNeg, reduceCtorEq, resV, resAll, ARes.ev, LV.flat, ite_true, ite_false, exists_eq_left', exists_eq_left, keyOf, implies_true, fillC, capOf]
  refine condC_dec (fun hlt => ?_) (fun hlt => ?_)
  rotate_left
  · simp (disch := omega) only [f1, f3, f4, ↓SXd, SXu, slBounds, ↓sop, ↓aop, ↓reduceIte, LV.cells, AOp.dst, LV.I, LV.B, LV.U, LV.S, LV.nil, Nat.reduceEqDiff, Nat.reduceAdd, Nat.reduceMul, Nat.reduceSub, Nat.reduceLeDiff, Nat.reduceBEq, Nat.reduceDiv, Nat.reduceMod, Int.reduceToNat, Int.reduceLT, Int.reduceLE, Int.reduceAdd, Int.reduceSub, Int.reduceMul, Int.reduceEq, Int.reduceNeg, reduceCtorEq, resV, resAll, ARes.ev, LV.flat, ite_true, ite_false, exists_eq_left', exists_eq_left, keyOf, implies_true, fillC, capOf]
    have hax : (a : Int) = x := by omega
    have e : cellsOf x y z = acc := by
      rw [hacc, hax, List.take_of_length_le]
      unfold idx
      simp only [Int.add_zero]
      rw [hlen]; unfold vol; omega
    rw [e]
    exact cmp_keepL hpre (by omega) hout (triL_lo acc) (by simp [rn, rn0, rn1])
  · simp (disch := omega) only [f1, f3, f4, ↓SXd, SXu, slBounds, ↓sop, ↓aop, ↓reduceIte, LV.cells, AOp.dst, LV.I, LV.B, LV.U, LV.S, LV.nil, Nat.reduceEqDiff, Nat.reduceAdd, Nat.reduceMul, Nat.reduceSub, Nat.reduceLeDiff, Nat.reduceBEq, Nat.reduceDiv, Nat.reduceMod, Int.reduceToNat, Int.reduceLT, Int.reduceLE, Int.reduceAdd, Int.reduceSub, Int.reduceMul, Int.reduceEq, Int.reduceNeg, reduceCtorEq, resV, resAll, ARes.ev, LV.flat, ite_true, ite_false, exists_eq_left', exists_eq_left, keyOf, implies_true, fillC, capOf]
    refine ev_loop (fun m2 fr N => ∃ (b u : Nat) (acc : List Cell), (b : Int) + m2 = y ∧ acc = (cellsOf x y z).take (idx y z ⟨a, b, 0⟩).toNat ∧ Pre M N ∧ Live N M.length (.row [.I x, .I y, .I z, v] true 0) ∧ M.length + 1 ≤ u ∧ Live N u (.row (triL acc) true 3) ∧
      fr 1 = .ptr M.length 0 ∧ fr 3 = .ref u 0 acc.length ∧ fr 4 = .I a ∧ fr 5 = .I b) y.toNat
      ⟨0, u, acc, by omega, hacc, hpre, hbox, hu, hout, f1, f3, f4, rfl⟩ ?_
    clear f1 f3 f4 hpre hbox hu hout hacc
    rintro m2 fr N ⟨b, u, acc, hb, hacc, hpre, hbox, hu, hout, f1, f3, f4, f5⟩
    simp (disch := omega) only [f1, f3, f4, f5, hbox.cell, ↓SXd, SXu, slBounds, ↓sop, ↓aop, ↓reduceIte, LV.cells, AOp.dst, LV.I, LV.B, LV.U, LV.S, LV.nil, Nat.reduceEqDiff, Nat.reduceAdd, Nat.reduceMul, Nat.reduceSub, Nat.reduceLeDiff, Nat.reduceBEq, Nat.reduceDiv, Nat.reduceMod, Int.reduceToNat, Int.reduceLT, Int.reduceLE, Int.reduceAdd, Int.reduceSub, Int.reduceMul, Int.reduceEq, Int.reduceNeg, reduceCtorEq, resV, resAll, ARes.ev, LV.flat, ite_true, ite_false, exists_eq_left', exists_eq_left, keyOf, implies_true, fillC, capOf]
    refine condC_dec (fun hlt2 => ?_) (fun hlt2 => ?_)
    rotate_left
    · simp (disch := omega) only [f1, f3, f4, f5, ↓SXd, SXu, slBounds, ↓sop, ↓aop, ↓reduceIte, LV.cells, AOp.dst, LV.I, LV.B, LV.U, LV.S, LV.nil, Nat.reduceEqDiff, Nat.reduceAdd, Nat.reduceMul, Nat.reduceSub, Nat.reduceLeDiff, Nat.reduceBEq, Nat.reduceDiv, Nat.reduceMod, Int.reduceToNat, Int.reduceLT, Int.reduceLE, Int.reduceAdd, Int.reduceSub, Int.reduceMul, Int.reduceEq, Int.reduceNeg, reduceCtorEq, resV, resAll, ARes.ev, LV.flat, ite_true, ite_false, exists_eq_left', exists_eq_left, keyOf, implies_true, fillC, capOf]
      have hby : (b : Int) = y := by omega
      refine ⟨m - 1, by omega, a + 1, u, acc, by omega, ?_, hpre, hbox, hu, hout, f1, f3, eqI (natI _)⟩
      rw [hacc, hby]
      unfold idx
      simp only [Int.natCast_add, Int.natCast_one, Int.add_mul, Int.one_mul, Int.add_zero]
    · simp (disch := omega) only [f1, f3, f4, f5, ↓SXd, SXu, slBounds, ↓sop, ↓aop, ↓reduceIte, LV.cells, AOp.dst, LV.I, LV.B, LV.U, LV.S, LV.nil, Nat.reduceEqDiff, Nat.reduceAdd, Nat.reduceMul, Nat.reduceSub, Nat.reduceLeDiff, Nat.reduceBEq, Nat.reduceDiv, Nat.reduceMod, Int.reduceToNat, Int.reduceLT, Int.reduceLE, Int.reduceAdd, Int.reduceSub, Int.reduceMul, Int.reduceEq, Int.reduceNeg, reduceCtorEq, resV, resAll, ARes.ev, LV.flat, ite_true, ite_false, exists_eq_left', exists_eq_left, keyOf, implies_true, fillC, capOf]
      refine ev_loop (fun m3 fr N => ∃ (c u : Nat) (acc : List Cell), (c : Int) + m3 = z ∧ acc = (cellsOf x y z).take (idx y z ⟨a, b, c⟩).toNat ∧ Pre M N ∧ Live N M.length (.row [.I x, .I y, .I z, v] true 0) ∧ M.length + 1 ≤ u ∧ Live N u (.row (triL acc) true 3) ∧
        fr 1 = .ptr M.length 0 ∧ fr 3 = .ref u 0 acc.length ∧ fr 4 = .I a ∧ fr 5 = .I b ∧ fr 6 = .I c) z.toNat
        ⟨0, u, acc, by omega, hacc, hpre, hbox, hu, hout, f1, f3, f4, f5, rfl⟩ ?_
      clear f1 f3 f4 f5 hpre hbox hu hout hacc
      rintro m3 fr N ⟨c, u, acc, hc, hacc, hpre, hbox, hu, hout, f1, f3, f4, f5, f6⟩
      simp (disch := omega) only [f1, f3, f4, f5, f6, hbox.cell, ↓SXd, SXu, slBounds, ↓sop, ↓aop, ↓reduceIte, LV.cells, AOp.dst, LV.I, LV.B, LV.U, LV.S, LV.nil, Nat.reduceEqDiff, Nat.reduceAdd, Nat.reduceMul, Nat.reduceSub, Nat.reduceLeDiff, Nat.reduceBEq, Nat.reduceDiv, Nat.reduceMod, Int.reduceToNat, Int.reduceLT, Int.reduceLE, Int.reduceAdd, Int.reduceSub, Int.reduceMul, Int.reduceEq, Int.reduceNeg, reduceCtorEq, resV, resAll, ARes.ev, LV.flat, ite_true, ite_false, exists_eq_left', exists_eq_left, keyOf, implies_true, fillC, capOf]
      refine condC_dec (fun hlt3 => ?_) (fun hlt3 => ?_)
      rotate_left
      · simp (disch := omega) only [f1, f3, f4, f5, f6, ↓SXd, SXu, slBounds, ↓sop, ↓aop, ↓reduceIte, LV.cells, AOp.dst, LV.I, LV.B, LV.U, LV.S, LV.nil, Nat.reduceEqDiff, Nat.reduceAdd, Nat.reduceMul, Nat.reduceSub, Nat.reduceLeDiff, Nat.reduceBEq, Nat.reduceDiv, Nat.reduceMod, Int.reduceToNat, Int.reduceLT, Int.reduceLE, Int.reduceAdd, Int.reduceSub, Int.reduceMul, Int.reduceEq, Int.reduceNeg, reduceCtorEq, resV, resAll, ARes.ev, LV.flat, ite_true, ite_false, exists_eq_left', exists_eq_left, keyOf, implies_true, fillC, capOf]
        have hcz : (c : Int) = z := by omega
        refine ⟨m2 - 1, by omega, b + 1, u, acc, by omega, ?_, hpre, hbox, hu, hout, f1, f3, f4, eqI (natI _)⟩
        rw [hacc, hcz]
        unfold idx
        simp only [Int.natCast_add, Int.natCast_one, Int.add_mul, Int.one_mul, Int.add_zero, Int.add_assoc]
      · have hin : (⟨a, b, c⟩ : Cell).inBox x y z := ⟨⟨by simp only; omega, by simp only; omega⟩, ⟨by simp only; omega, by simp only; omega⟩, ⟨by simp only; omega, by simp only; omega⟩⟩
        obtain ⟨i1, i2, i3⟩ := idx_in hS hin
        have hal : acc.length ≤ 64 := by
          have := List.length_take_le (idx y z ⟨a, b, c⟩).toNat (cellsOf x y z)
          rw [hacc]; omega
        simp (disch := omega) only [f1, f3, f4, f5, f6, splice, ↓SXd, SXu, slBounds, ↓sop, ↓aop, ↓reduceIte, LV.cells, AOp.dst, LV.I, LV.B, LV.U, LV.S, LV.nil, Nat.reduceEqDiff, Nat.reduceAdd, Nat.reduceMul, Nat.reduceSub, Nat.reduceLeDiff, Nat.reduceBEq, Nat.reduceDiv, Nat.reduceMod, Int.reduceToNat, Int.reduceLT, Int.reduceLE, Int.reduceAdd, Int.reduceSub, Int.reduceMul, Int.reduceEq, Int.reduceNeg, reduceCtorEq, resV, resAll, ARes.ev, LV.flat, ite_true, ite_false, exists_eq_left', exists_eq_left, keyOf, implies_true, fillC, capOf]
        refine appendK_cell hout (by omega) fun N' l1 l2 l3 => ?_
        simp (disch := omega) only [f1, f3, f4, f5, f6, ↓SXd, SXu, slBounds, ↓sop, ↓aop, ↓reduceIte, LV.cells, AOp.dst, LV.I, LV.B, LV.U, LV.S, LV.nil, Nat.reduceEqDiff, Nat.reduceAdd, Nat.reduceMul, Nat.reduceSub, Nat.reduceLeDiff, Nat.reduceBEq, Nat.reduceDiv, Nat.reduceMod, Int.reduceToNat, Int.reduceLT, Int.reduceLE, Int.reduceAdd, Int.reduceSub, Int.reduceMul, Int.reduceEq, Int.reduceNeg, reduceCtorEq, resV, resAll, ARes.ev, LV.flat, ite_true, ite_false, exists_eq_left', exists_eq_left, keyOf, implies_true, fillC, capOf]
        refine ⟨m3 - 1, by omega, c + 1, _, acc ++ [⟨a, b, c⟩], by omega, ?_, pre_step hpre (by omega) l1 l3, live_step hbox (by omega) l3, by have := hpre.1; omega, l2, f1, rfl, f4, f5, eqI (natI _)⟩
        have e1 : (idx y z ⟨a, b, ((c + 1 : Nat) : Int)⟩).toNat = (idx y z ⟨a, b, c⟩).toNat + 1 := by unfold idx at i1 ⊢; simp only at i1 ⊢; omega
        have hlt' : (idx y z ⟨a, b, c⟩).toNat < (cellsOf x y z).length := by omega
        rw [e1, List.take_succ, ← hacc, List.getElem?_eq_getElem hlt']
        congr 1
        simp only [Option.toList, cellsOf, List.getElem_map, List.getElem_range]
        rw [Int.toNat_of_nonneg i1, i3]

end Go.Ab

/- Contracts: the reference's heaps with one more cube. -/
namespace Go.Ab
open Go
set_option linter.unusedSimpArgs false
set_option linter.unusedVariables false

theorem appendK_zero {e b t off len t2 o2 : Nat} {M : Mem} {A : LV → Mem → Prop} : appendK e b (.ref t off len) (.ref t2 o2 0) M A = andK (len * b ≤ 140737488355328 ∧ len ≤ 9223372036854775807) (A (.ref t off len) M) := by
  simp [appendK, lenS, winC, appV, appK]
theorem appendK_pos {e b t off len t2 o2 n : Nat} {cs new : List LV} {M : Mem} {A : LV → Mem → Prop} (hn : 0 < n) (hw : getCells M t2 o2 (n * e) = some new) (hr : M[t]? = some (some (.row cs true e))) (hl : off + len * e ≤ cs.length) :
    appendK e b (.ref t off len) (.ref t2 o2 n) M A = andK ((len + n) * b ≤ 140737488355328 ∧ len + n ≤ 9223372036854775807) (A (.ref M.length 0 (len + n)) (M.set t none ++ [some (.row ((cs.drop off).take (len * e) ++ new) true e)])) := by
  have h0 : n ≠ 0 := by omega
  simp [appendK, lenS, winC, appV, appK, h0, hw, hr, hl]

theorem Tri.take {M : Mem} {t o k : Nat} {cs : List Cell} (h : Tri M t o cs) (hk : k ≤ cs.length) : Tri M t o (cs.take k) := by
  obtain ⟨row, h1, h2, h3⟩ := h
  rw [triL_len] at h2 h3
  have hl : (cs.take k).length = k := by simp; omega
  refine ⟨row, h1, by rw [triL_len, hl]; omega, ?_⟩
  rw [triL_len, hl, ← triL_take, ← h3, List.take_take, Nat.min_eq_left (by omega)]
theorem Tri.drop {M : Mem} {t o k : Nat} {cs : List Cell} (h : Tri M t o cs) (hk : k ≤ cs.length) : Tri M t (o + k * 3) (cs.drop k) := by
  obtain ⟨row, h1, h2, h3⟩ := h
  rw [triL_len] at h2 h3
  have hl : (cs.drop k).length = cs.length - k := by simp
  refine ⟨row, h1, by rw [triL_len, hl]; omega, ?_⟩
  rw [triL_len, hl, ← triL_drop, ← h3, List.drop_take, List.drop_drop]
  congr 1
  omega
theorem Tri.all {M : Mem} {t o n : Nat} {cs : List Cell} (h : Tri M t o cs) (hn : n = cs.length) : getCells M t o (n * 3) = some (triL cs) := by
  have := Has.all h
  rw [triL_len] at this; rw [hn]; exact this

end Go.Ab

/- The abstract code of some functions (written by a program of mine from the translation, by way of prepF). -/
namespace Go.Ab.C
open Go.Ab
def spec_l3Has : AFn :=
  ⟨2, 24, [.tmp 4],
    .seq (.ops [(none, .box 2 (.t 0)),
       (none, .box 3 (.t 1)),
       (none, .mv 4 (.c (.B false)))])
    (.seq (.draw [⟨(none, .loadN 5 4 (.t 3)), [], []⟩,
        ⟨(none, .fieldAddr 7 (.t 2) 3), [], []⟩,
        ⟨(none, .load1 8 (.t 7)), [], []⟩,
        ⟨(none, .call (some 6) F.spec_l2Top [(.t 5)]), [], [1, 2]⟩,
        ⟨(none, .call (some 9) F.spec_l1Same [(.t 6), (.t 8)]), [], []⟩,
        ⟨(none, .mv 10 (.t 9)), [], []⟩,
        ⟨(some (10, true), .loadN 11 4 (.t 3)), [], []⟩,
        ⟨(some (10, true), .fieldAddr 13 (.t 2) 4), [], []⟩,
        ⟨(some (10, true), .load1 14 (.t 13)), [], []⟩,
        ⟨(some (10, true), .call (some 12) F.spec_l2Front [(.t 11)]), [], [7, 8]⟩,
        ⟨(some (10, true), .call (some 15) F.spec_l1Same [(.t 12), (.t 14)]), [], []⟩,
        ⟨(none, .pick 16 (.t 10) (.t 15) (.c (.B false))), [], []⟩,
        ⟨(none, .mv 17 (.t 16)), [], []⟩,
        ⟨(some (17, true), .loadN 18 4 (.t 3)), [], []⟩,
        ⟨(some (17, true), .fieldAddr 20 (.t 2) 5), [], []⟩,
        ⟨(some (17, true), .load1 21 (.t 20)), [], []⟩,
        ⟨(some (17, true), .call (some 19) F.spec_l2Side [(.t 18)]), [], [14, 15]⟩,
        ⟨(some (17, true), .call (some 22) F.spec_l1Same [(.t 19), (.t 21)]), [], []⟩,
        ⟨(none, .pick 23 (.t 17) (.t 22) (.c (.B false))), [], []⟩,
        ⟨(none, .mv 4 (.t 23)), [], []⟩])
     (.ret))⟩
def spec_l3Fit : AFn :=
  ⟨1, 11, [.tmp 2],
    .seq (.ops [(none, .box 1 (.t 0)),
       (none, .mv 2 (.c (.B false)))])
    (.seq (.draw [⟨(none, .loadN 3 6 (.t 1)), [], []⟩,
        ⟨(none, .call (some 4) F.spec_l3Shadow [(.t 3)]), [], []⟩,
        ⟨(none, .mv 5 (.t 4)), [], []⟩,
        ⟨(some (5, true), .loadN 6 6 (.t 1)), [], []⟩,
        ⟨(some (5, true), .loadN 7 6 (.t 1)), [], []⟩,
        ⟨(some (5, true), .call (some 8) F.spec_l3Allowed [(.t 7)]), [], [3]⟩,
        ⟨(some (5, true), .call (some 9) F.spec_l3Has [(.t 6), (.t 8)]), [], []⟩,
        ⟨(none, .pick 10 (.t 5) (.t 9) (.c (.B false))), [], []⟩,
        ⟨(none, .mv 2 (.t 10)), [], []⟩])
     (.ret))⟩
end Go.Ab.C

/- That the program has this code. -/
namespace Go.Ab.K
open Go Go.Ab
theorem spec_l3Has : prepF Go.Proofs.Try.prog F.spec_l3Has = some C.spec_l3Has := by kernel_rfl
theorem spec_l3Fit : prepF Go.Proofs.Try.prog F.spec_l3Fit = some C.spec_l3Fit := by kernel_rfl
end Go.Ab.K
