/- Parts of the proof of FnExactFaultPlanesSaid: Na Ub C_Nb K_Nb Nb Uc Ud Ue C_Od K_Od C_Ob K_Ob C_Oa K_Oa C_Dd K_Dd C_Dc K_Dc Dc Dd Oa Ob Nd Oc Od Uf Za C_Ya K_Ya Ra Rb Rc Rd C_Gf K_Gf C_Gc K_Gc Gc. -/
import Derived.Test.YtjndofbhdogblaaA5
import Derived.Test.YtjndofbhdogblaaA4
import Derived.Test.YtjndofbhdogblaaA3
import Derived.Test.YtjndofbhdogblaaProg
import Derived.KernelRfl
import Derived.Below
import Derived.Lib.SmallJoins
import Derived.Deep.Slices
import Derived.Laws.IdiomArrays
import Derived.ChangeSlices
set_option linter.all false
/- Plain words: the cells of a box in their order; sets of them as 64 bits. -/
namespace Go.Ab

def idx (y z : Int) (c : Cell) : Int := (c.a * y + c.b) * z + c.c
def cellAt (y z i : Int) : Cell := ⟨(i.tdiv z).tdiv y, (i.tdiv z).tmod y, i.tmod z⟩
def vol (x y z : Int) : Nat := (x * y * z).toNat
def cellsOf (x y z : Int) : List Cell := (List.range (vol x y z)).map fun (i : Nat) => cellAt y z i
/-- The cells of a box of which p holds, in order. -/
def pick (x y z : Int) (p : Cell → Bool) : List Cell := (cellsOf x y z).filter p

section
variable {x y z : Int} (hS : Sides x y z)
include hS
omit hS in
theorem getD_mem' {α : Type} {l : List α} {k : Nat} {d : α} (h : k < l.length) : l.getD k d ∈ l := by simp [h]
theorem vol_bound : 1 ≤ x * y * z ∧ x * y * z ≤ 64 ∧ 1 ≤ y * z ∧ y * z ≤ 16 ∧ 1 ≤ x * y ∧ x * y ≤ 16 := by
  obtain ⟨hx, hy, hz⟩ := hS
  have h2 : y = 1 ∨ y = 2 ∨ y = 3 ∨ y = 4 := by omega
  have h3 : z = 1 ∨ z = 2 ∨ z = 3 ∨ z = 4 := by omega
  rcases h2 with rfl | rfl | rfl | rfl <;> rcases h3 with rfl | rfl | rfl | rfl <;> omega
theorem vol_cast : ((vol x y z : Nat) : Int) = x * y * z ∧ 1 ≤ vol x y z ∧ vol x y z ≤ 64 := by
  have := vol_bound hS
  unfold vol; omega
theorem idx_in {c : Cell} (hc : c.inBox x y z) : 0 ≤ idx y z c ∧ idx y z c < x * y * z ∧ cellAt y z (idx y z c) = c := by
  obtain ⟨hx, hy, hz⟩ := hS
  obtain ⟨a, b, d⟩ := c
  obtain ⟨h1, h2, h3⟩ := hc
  simp only at h1 h2 h3
  have e2 : y = 1 ∨ y = 2 ∨ y = 3 ∨ y = 4 := by omega
  have e3 : z = 1 ∨ z = 2 ∨ z = 3 ∨ z = 4 := by omega
  unfold idx cellAt
  simp only
  have hn : 0 ≤ (a * y + b) * z + d := by rcases e2 with rfl | rfl | rfl | rfl <;> rcases e3 with rfl | rfl | rfl | rfl <;> omega
  refine ⟨hn, by rcases e2 with rfl | rfl | rfl | rfl <;> rcases e3 with rfl | rfl | rfl | rfl <;> omega, ?_⟩
  rw [Int.tdiv_eq_ediv_of_nonneg hn, Int.tmod_eq_emod_of_nonneg hn]
  have hq : 0 ≤ ((a * y + b) * z + d) / z := Int.ediv_nonneg hn (by omega)
  rw [Int.tdiv_eq_ediv_of_nonneg hq, Int.tmod_eq_emod_of_nonneg hq]
  rw [cell_eq]
  rcases e2 with rfl | rfl | rfl | rfl <;> rcases e3 with rfl | rfl | rfl | rfl <;> simp only <;> omega
theorem cellAt_in {i : Int} (h0 : 0 ≤ i) (hi : i < x * y * z) : (cellAt y z i).inBox x y z ∧ idx y z (cellAt y z i) = i := by
  obtain ⟨hx, hy, hz⟩ := hS
  have e1 : x = 1 ∨ x = 2 ∨ x = 3 ∨ x = 4 := by omega
  have e2 : y = 1 ∨ y = 2 ∨ y = 3 ∨ y = 4 := by omega
  have e3 : z = 1 ∨ z = 2 ∨ z = 3 ∨ z = 4 := by omega
  unfold idx cellAt Cell.inBox
  simp only
  rw [Int.tdiv_eq_ediv_of_nonneg h0, Int.tmod_eq_emod_of_nonneg h0]
  have hq : 0 ≤ i / z := Int.ediv_nonneg h0 (by omega)
  rw [Int.tdiv_eq_ediv_of_nonneg hq, Int.tmod_eq_emod_of_nonneg hq]
  rcases e2 with rfl | rfl | rfl | rfl <;> rcases e3 with rfl | rfl | rfl | rfl <;> (refine ⟨⟨⟨?_, ?_⟩, ⟨?_, ?_⟩, ⟨?_, ?_⟩⟩, ?_⟩ <;> omega)
theorem lt_iff {c d : Cell} (hc : c.inBox x y z) (hd : d.inBox x y z) : c.lt d ↔ idx y z c < idx y z d := by
  obtain ⟨hx, hy, hz⟩ := hS
  obtain ⟨a, b, e⟩ := c
  obtain ⟨a', b', e'⟩ := d
  obtain ⟨h1, h2, h3⟩ := hc
  obtain ⟨k1, k2, k3⟩ := hd
  simp only at h1 h2 h3 k1 k2 k3
  unfold idx Cell.lt
  simp only
  have e2 : y = 1 ∨ y = 2 ∨ y = 3 ∨ y = 4 := by omega
  have e3 : z = 1 ∨ z = 2 ∨ z = 3 ∨ z = 4 := by omega
  rcases e2 with rfl | rfl | rfl | rfl <;> rcases e3 with rfl | rfl | rfl | rfl <;> omega

theorem mem_cellsOf {c : Cell} : c ∈ cellsOf x y z ↔ c.inBox x y z := by
  unfold cellsOf
  rw [List.mem_map]
  have hv := vol_cast hS
  constructor
  · rintro ⟨i, hi, rfl⟩
    exact (cellAt_in hS (by omega) (by have := List.mem_range.1 hi; omega)).1
  · intro hc
    obtain ⟨h1, h2, h3⟩ := idx_in hS hc
    refine ⟨(idx y z c).toNat, List.mem_range.2 (by omega), ?_⟩
    rw [Int.toNat_of_nonneg h1, h3]
theorem mem_pick {p : Cell → Bool} {c : Cell} : c ∈ pick x y z p ↔ c.inBox x y z ∧ p c = true := by
  unfold pick
  rw [List.mem_filter, mem_cellsOf hS]
theorem cellsOf_sorted : (cellsOf x y z).Pairwise Cell.lt := by
  unfold cellsOf
  rw [List.pairwise_map]
  have hv := vol_cast hS
  refine List.Pairwise.imp_of_mem (R := fun a b => a < b) ?_ (List.pairwise_lt_range)
  intro i j hi hj hij
  have hi := List.mem_range.1 hi
  have hj := List.mem_range.1 hj
  obtain ⟨h1, h2⟩ := cellAt_in hS (i := (i : Int)) (by omega) (by omega)
  obtain ⟨h3, h4⟩ := cellAt_in hS (i := (j : Int)) (by omega) (by omega)
  rw [lt_iff hS h1 h3, h2, h4]; omega
theorem pick_sorted (p : Cell → Bool) : (pick x y z p).Pairwise Cell.lt := (cellsOf_sorted hS).filter p
end

theorem take_dec {cs : List Cell} {k : Nat} {c : Cell} (h : k < cs.length) : (decide (c ∈ cs.take k) || decide (c = cs.getD k default)) = decide (c ∈ cs.take (k + 1)) := by
  rw [List.take_succ, List.getElem?_eq_getElem h]
  have e : cs.getD k default = cs[k] := by simp [h]
  rw [e]
  simp only [Option.toList, List.mem_append, List.mem_singleton, Bool.decide_or]

theorem Cell.lt_irrefl (c : Cell) : ¬ c.lt c := by unfold Cell.lt; omega
theorem Cell.lt_trans {a b c : Cell} (h : a.lt b) (k : b.lt c) : a.lt c := by unfold Cell.lt at *; omega
/-- Sorted lists with the same members are the same. -/
theorem sorted_ext : ∀ {l m : List Cell}, l.Pairwise Cell.lt → m.Pairwise Cell.lt → (∀ c, c ∈ l ↔ c ∈ m) → l = m
  | [], [], _, _, _ => rfl
  | [], b :: m, _, _, h => by have := (h b).2 (by simp); simp at this
  | a :: l, [], _, _, h => by have := (h a).1 (by simp); simp at this
  | a :: l, b :: m, hl, hm, h => by
    rw [List.pairwise_cons] at hl hm
    have hab : a = b := by
      rcases List.mem_cons.1 ((h a).1 (by simp)) with h1 | h1
      · exact h1
      · rcases List.mem_cons.1 ((h b).2 (by simp)) with h2 | h2
        · exact h2.symm
        · exact absurd (Cell.lt_trans (hm.1 a h1) (hl.1 b h2)) (Cell.lt_irrefl b)
    subst hab
    congr 1
    refine sorted_ext hl.2 hm.2 fun c => ?_
    have h1 : ∀ {c}, c ∈ l → a ≠ c := fun hc e => Cell.lt_irrefl a (by have := hl.1 _ hc; rw [← e] at this; exact this)
    have h2 : ∀ {c}, c ∈ m → a ≠ c := fun hc e => Cell.lt_irrefl a (by have := hm.1 _ hc; rw [← e] at this; exact this)
    have := h c
    simp only [List.mem_cons] at this
    constructor
    · intro hc; exact (this.1 (.inr hc)).resolve_left fun e => h1 hc e.symm
    · intro hc; exact (this.2 (.inr hc)).resolve_left fun e => h2 hc e.symm

theorem HeapOK.sorted {x y z : Int} {cs : List Cell} (h : HeapOK x y z cs) : cs.Pairwise Cell.lt := by
  rw [List.pairwise_iff_getElem]
  have key : ∀ (d i : Nat) (h1 : i < cs.length) (h2 : i + d + 1 < cs.length), (cs.getD i default).lt (cs.getD (i + d + 1) default) := by
    intro d
    induction d with
    | zero => intro i h1 h2; have := (h.2 (i + 1) h2).2 (by omega); simpa using this
    | succ d ih =>
      intro i h1 h2
      have h3 := ih i h1 (by omega)
      have h4 := (h.2 (i + (d + 1) + 1) h2).2 (by omega)
      rw [show i + (d + 1) + 1 - 1 = i + d + 1 by omega] at h4
      exact Cell.lt_trans h3 h4
  intro i j hi hj hij
  have := key (j - i - 1) i hi (by omega)
  rw [show i + (j - i - 1) + 1 = j by omega] at this
  simpa [hi, hj] using this
theorem HeapOK.mem {x y z : Int} {cs : List Cell} (h : HeapOK x y z cs) {c : Cell} (hc : c ∈ cs) : c.inBox x y z := by
  obtain ⟨i, hi, rfl⟩ := List.getElem_of_mem hc
  have := (h.2 i hi).1
  simpa [hi] using this
theorem HeapOK.of {x y z : Int} {cs : List Cell} (hS : Sides x y z) (hs : cs.Pairwise Cell.lt) (hm : ∀ c ∈ cs, c.inBox x y z) : HeapOK x y z cs := by
  refine ⟨hS, fun k hk => ⟨hm _ (by simp [hk]), fun h0 => ?_⟩⟩
  rw [List.pairwise_iff_getElem] at hs
  have := hs (k - 1) k (by omega) hk (by omega)
  have h1 : k - 1 < cs.length := by omega
  simpa [hk, h1] using this
/-- A valid heap's cells are those of its box that it has, in order. -/
theorem HeapOK.pick {x y z : Int} {cs : List Cell} (h : HeapOK x y z cs) : cs = pick x y z fun c => decide (c ∈ cs) := by
  refine sorted_ext h.sorted (pick_sorted h.1 _) fun c => ?_
  rw [mem_pick h.1]
  simp only [decide_eq_true_eq]
  exact ⟨fun hc => ⟨h.mem hc, hc⟩, fun hc => hc.2⟩
theorem pick_len {x y z : Int} (hS : Sides x y z) (p : Cell → Bool) : (pick x y z p).length ≤ 64 := by
  have h1 := List.length_filter_le p (cellsOf x y z)
  have h2 : (cellsOf x y z).length = vol x y z := by simp [cellsOf]
  have h3 := vol_cast hS
  unfold Go.Ab.pick
  omega
theorem HeapOK.len {x y z : Int} {cs : List Cell} (h : HeapOK x y z cs) : cs.length ≤ 64 := by rw [h.pick]; exact pick_len h.1 _
theorem HeapOK.nodup {x y z : Int} {cs : List Cell} (h : HeapOK x y z cs) : cs.Nodup := h.sorted.imp fun {a b} hab e => by subst e; exact Cell.lt_irrefl _ hab

/-! ### Bits -/
def bsN (n : Nat) (f : Nat → Bool) : BitVec 64 := (List.range n).foldl (fun s i => if f i then s ||| (1#64 <<< i) else s) 0#64
theorem bsN_succ (n : Nat) (f : Nat → Bool) : bsN (n + 1) f = if f n then bsN n f ||| (1#64 <<< n) else bsN n f := by
  simp [bsN, List.range_succ, List.foldl_append]
theorem bit_one {n i : Nat} (hn : n < 64) : (1#64 <<< n).getLsbD i = decide (i = n) := by
  rw [BitVec.getLsbD_shiftLeft, BitVec.getLsbD_one]
  by_cases h1 : i < 64
  · by_cases h2 : i < n
    · simp [h1, h2]; omega
    · simp [h1, h2]; omega
  · simp [h1]; omega
theorem bsN_bit {f : Nat → Bool} : ∀ {n : Nat}, n ≤ 64 → ∀ i, (bsN n f).getLsbD i = (decide (i < n) && f i)
  | 0, _, i => by simp [bsN]
  | n + 1, hn, i => by
    rw [bsN_succ]
    have ih := bsN_bit (f := f) (n := n) (by omega) i
    by_cases hf : f n = true
    · rw [if_pos hf, BitVec.getLsbD_or, ih, bit_one (by omega)]
      by_cases h1 : i = n
      · subst h1; simp [hf]
      · have : decide (i < n + 1) = decide (i < n) := decide_eq_decide.2 (by omega)
        rw [this]; simp [h1]
    · rw [if_neg hf, ih]
      by_cases h1 : i = n
      · subst h1; simp [hf]
      · have : decide (i < n + 1) = decide (i < n) := decide_eq_decide.2 (by omega)
        rw [this]

/-- The set of the cells of a box of which p holds. -/
def bs (x y z : Int) (p : Cell → Bool) : BitVec 64 := bsN (vol x y z) fun i => p (cellAt y z i)

section
variable {x y z : Int} (hS : Sides x y z)
include hS
theorem bs_bit (p : Cell → Bool) (i : Nat) : (bs x y z p).getLsbD i = (decide (i < vol x y z) && p (cellAt y z i)) := bsN_bit (vol_cast hS).2.2 i
theorem bs_has {p : Cell → Bool} {c : Cell} (hc : c.inBox x y z) : (bs x y z p).getLsbD (idx y z c).toNat = p c := by
  obtain ⟨h1, h2, h3⟩ := idx_in hS hc
  have hv := vol_cast hS
  rw [bs_bit hS, Int.toNat_of_nonneg h1, h3, decide_eq_true (by omega)]; rfl
theorem bs_ext {p : Cell → Bool} {s : BitVec 64} (h : ∀ i : Nat, i < vol x y z → s.getLsbD i = p (cellAt y z i)) (h' : ∀ i, vol x y z ≤ i → s.getLsbD i = false) : s = bs x y z p := by
  apply BitVec.eq_of_getLsbD_eq
  intro i _
  rw [bs_bit hS]
  by_cases hi : i < vol x y z
  · rw [h i hi, decide_eq_true hi]; rfl
  · rw [h' i (by omega), decide_eq_false hi]; rfl
theorem bs_eq {p q : Cell → Bool} : bs x y z p = bs x y z q ↔ ∀ c, c.inBox x y z → p c = q c := by
  constructor
  · intro h c hc; rw [← bs_has (p := p) hS hc, h, bs_has hS hc]
  · intro h
    have hv := vol_cast hS
    refine bs_ext hS (fun i hi => ?_) fun i hi => ?_
    · rw [bs_bit hS, decide_eq_true hi]; exact h _ (cellAt_in hS (by omega) (by omega)).1
    · rw [bs_bit hS, decide_eq_false (by omega)]; rfl
theorem bs_or (p q : Cell → Bool) : bs x y z p ||| bs x y z q = bs x y z fun c => p c || q c :=
  bs_ext hS (fun i hi => by rw [BitVec.getLsbD_or, bs_bit hS, bs_bit hS, decide_eq_true hi]; rfl) fun i hi => by rw [BitVec.getLsbD_or, bs_bit hS, bs_bit hS, decide_eq_false (by omega)]; rfl
theorem bs_diff (p q : Cell → Bool) : bs x y z p &&& ~~~bs x y z q = bs x y z fun c => p c && !q c :=
  bs_ext hS (fun i hi => by
    have := vol_cast hS
    rw [BitVec.getLsbD_and, BitVec.getLsbD_not, bs_bit hS, bs_bit hS, decide_eq_true hi, decide_eq_true (show i < 64 by omega)]; rfl) fun i hi => by rw [BitVec.getLsbD_and, bs_bit hS, decide_eq_false (by omega)]; rfl
theorem bs_none : (0#64) = bs x y z fun _ => false := bs_ext hS (fun i _ => by simp) fun i _ => by simp
theorem bs_zero {p : Cell → Bool} : bs x y z p = 0#64 ↔ ∀ c, c.inBox x y z → p c = false := by rw [bs_none hS, bs_eq hS]
theorem bs_one {c : Cell} (hc : c.inBox x y z) : 1#64 <<< (idx y z c).toNat = bs x y z fun d => decide (d = c) := by
  obtain ⟨h1, h2, h3⟩ := idx_in hS hc
  have hv := vol_cast hS
  refine bs_ext hS (fun i hi => ?_) fun i hi => ?_
  · rw [bit_one (by omega)]
    refine decide_eq_decide.2 ⟨fun e => ?_, fun e => ?_⟩
    · rw [e, Int.toNat_of_nonneg h1, h3]
    · have := (cellAt_in hS (i := (i : Int)) (by omega) (by omega)).2
      rw [e] at this; omega
  · rw [bit_one (by omega)]; exact decide_eq_false (by omega)
theorem bs_full : (1#64 <<< vol x y z) - 1#64 = bs x y z fun _ => true := by
  have hv := vol_cast hS
  refine bs_ext hS (fun i hi => ?_) fun i hi => ?_
  all_goals
    have key : ∀ n, n ≤ 64 → ((1#64 <<< n) - 1#64).toNat = 2 ^ n - 1 := by
      intro n hn
      rw [BitVec.toNat_sub, BitVec.toNat_shiftLeft, Nat.shiftLeft_eq]
      rcases Nat.lt_or_ge n 64 with h | h
      · have h2 : 2 ^ n < 2 ^ 64 := Nat.pow_lt_pow_right (by decide) h
        have h3 : 1 ≤ 2 ^ n := Nat.one_le_two_pow
        simp only [BitVec.toNat_ofNat, Nat.one_mul] at *
        rw [Nat.mod_eq_of_lt (show 1 % 2 ^ 64 * 2 ^ n < 2 ^ 64 by simpa using h2)]
        omega
      · have : n = 64 := by omega
        subst this; rfl
    have := key (vol x y z) hv.2.2
    unfold BitVec.getLsbD
    rw [this, Nat.testBit_two_pow_sub_one]
  · exact decide_eq_true hi
  · exact decide_eq_false (by omega)
end
end Go.Ab

/- Contracts: valid shadows, both sides. -/
namespace Go.Ab
open Go
set_option linter.unusedSimpArgs false
set_option linter.unusedVariables false

/-- All numbers are 0 or 1. -/
def Ones (xs : List Int) : Prop := ∀ v ∈ xs, 0 ≤ v ∧ v ≤ 1
instance (xs : List Int) : Decidable (Ones xs) := by unfold Ones; exact inferInstance
/-- A valid shadow. -/
def ShdOK (x y z : Int) (tp fr sd : List Int) : Prop := Sides x y z ∧ (Ones tp ∧ (tp.length : Int) = x * y) ∧ (Ones fr ∧ (fr.length : Int) = x * z) ∧ (Ones sd ∧ (sd.length : Int) = y * z)
instance (x y z : Int) (tp fr sd : List Int) : Decidable (ShdOK x y z tp fr sd) := by unfold ShdOK; exact inferInstance
end Go.Ab

/- The abstract code of some functions (written by a program of mine from the translation, by way of prepF). -/
namespace Go.Ab.C
open Go.Ab
def impl_box_size : AFn :=
  ⟨1, 11, [.tmp 2],
    .seq (.ops [(none, .box 1 (.t 0)),
       (none, .mv 2 (.c (.I 0)))])
    (.seq (.ops [(none, .idxA 3 3 1 (.t 1) (.c (.I 0))),
        (none, .load1 4 (.t 3)),
        (none, .idxA 5 3 1 (.t 1) (.c (.I 1))),
        (none, .load1 6 (.t 5)),
        (none, .bin 7 .mul (.t 4) (.t 6)),
        (none, .idxA 8 3 1 (.t 1) (.c (.I 2))),
        (none, .load1 9 (.t 8)),
        (none, .bin 10 .mul (.t 7) (.t 9)),
        (none, .mv 2 (.t 10))])
     (.ret))⟩
def impl_box_index : AFn :=
  ⟨2, 19, [.tmp 4],
    .seq (.ops [(none, .box 2 (.t 0)),
       (none, .box 3 (.t 1)),
       (none, .mv 4 (.c (.I 0)))])
    (.seq (.ops [(none, .idxA 5 3 1 (.t 3) (.c (.I 0))),
        (none, .load1 6 (.t 5)),
        (none, .idxA 7 3 1 (.t 2) (.c (.I 1))),
        (none, .load1 8 (.t 7)),
        (none, .bin 9 .mul (.t 6) (.t 8)),
        (none, .idxA 10 3 1 (.t 3) (.c (.I 1))),
        (none, .load1 11 (.t 10)),
        (none, .bin 12 .add (.t 9) (.t 11)),
        (none, .idxA 13 3 1 (.t 2) (.c (.I 2))),
        (none, .load1 14 (.t 13)),
        (none, .bin 15 .mul (.t 12) (.t 14)),
        (none, .idxA 16 3 1 (.t 3) (.c (.I 2))),
        (none, .load1 17 (.t 16)),
        (none, .bin 18 .add (.t 15) (.t 17)),
        (none, .mv 4 (.t 18))])
     (.ret))⟩
def impl_box_cell : AFn :=
  ⟨2, 24, [.cellN 4 3],
    .seq (.ops [(none, .box 2 (.t 0)),
       (none, .alloc 4 [(.I 0), (.I 0), (.I 0)])])
    (.seq (.draw [⟨(none, .mv 5 (.t 1)), [], []⟩,
        ⟨(none, .idxA 6 3 1 (.t 2) (.c (.I 2))), [], []⟩,
        ⟨(none, .load1 7 (.t 6)), [], []⟩,
        ⟨(none, .bin 8 .quo (.t 5) (.t 7)), [], []⟩,
        ⟨(none, .idxA 9 3 1 (.t 2) (.c (.I 1))), [], []⟩,
        ⟨(none, .load1 10 (.t 9)), [], []⟩,
        ⟨(none, .bin 11 .quo (.t 8) (.t 10)), [], []⟩,
        ⟨(none, .mv 12 (.t 1)), [], []⟩,
        ⟨(none, .idxA 13 3 1 (.t 2) (.c (.I 2))), [], []⟩,
        ⟨(none, .load1 14 (.t 13)), [], []⟩,
        ⟨(none, .bin 15 .quo (.t 12) (.t 14)), [], []⟩,
        ⟨(none, .idxA 16 3 1 (.t 2) (.c (.I 1))), [], []⟩,
        ⟨(none, .load1 17 (.t 16)), [], []⟩,
        ⟨(none, .bin 18 .rem (.t 15) (.t 17)), [], []⟩,
        ⟨(none, .mv 19 (.t 1)), [], []⟩,
        ⟨(none, .idxA 20 3 1 (.t 2) (.c (.I 2))), [], []⟩,
        ⟨(none, .load1 21 (.t 20)), [], []⟩,
        ⟨(none, .bin 22 .rem (.t 19) (.t 21)), [], []⟩,
        ⟨(none, .build 23 [(.I 0), (.I 0), (.I 0)] [(0, 1, (.t 11)), (1, 1, (.t 18)), (2, 1, (.t 22))]), [], []⟩,
        ⟨(none, .store 3 (.t 4) (.t 23)), [], []⟩])
     (.ret))⟩
def impl_set_has : AFn :=
  ⟨2, 10, [.tmp 4],
    .seq (.ops [(none, .mv 4 (.c (.B false)))])
    (.seq (.ops [(none, .mv 5 (.t 0)),
        (none, .mv 6 (.t 1)),
        (none, .bin 7 .shr (.t 5) (.t 6)),
        (none, .bin 8 .and (.t 7) (.c (.U 1))),
        (none, .bin 9 .eql (.t 8) (.c (.U 1))),
        (none, .mv 4 (.t 9))])
     (.ret))⟩
def impl_box_full : AFn :=
  ⟨1, 7, [.tmp 2],
    .seq (.ops [(none, .box 1 (.t 0)),
       (none, .mv 2 (.c (.U 0)))])
    (.seq (.ops [(none, .loadN 3 3 (.t 1)),
        (none, .call (some 4) F.impl_box_size [(.t 3)]),
        (none, .bin 5 .shl (.c (.U 1)) (.t 4)),
        (none, .bin 6 .sub (.t 5) (.c (.U 1))),
        (none, .mv 2 (.t 6))])
     (.ret))⟩
def impl_box_list : AFn :=
  ⟨2, 24, [.tmp 4],
    .seq (.ops [(none, .box 2 (.t 0)),
       (none, .mv 4 (.c .nil))])
    (.seq (.ops [(none, .buildSl 7 0 3 [] []),
        (none, .mv 5 (.t 7))])
     (.seq (.seq (.ops [(none, .loadN 8 3 (.t 2)),
          (none, .call (some 9) F.impl_box_size [(.t 8)]),
          (none, .mv 10 (.c (.I 0)))])
       (.block 0 (.loop (.seq (.ops [(none, .bin 11 .lss (.t 10) (.t 9))])
          (.seq (.cond (.t 11) (.skip)
            (.exit 0))
           (.seq (.block 1 (.seq (.ops [(none, .mv 12 (.t 10)),
                 (none, .mv 6 (.t 12))])
              (.seq (.ops [(none, .mv 13 (.t 1)),
                  (none, .mv 14 (.t 6)),
                  (none, .call (some 15) F.impl_set_has [(.t 13), (.t 14)])])
               (.cond (.t 15) (.ops [(none, .mv 16 (.t 5)),
                   (none, .loadN 17 3 (.t 2)),
                   (none, .mv 18 (.t 6)),
                   (none, .call (some 19) F.impl_box_cell [(.t 17), (.t 18)]),
                   (none, .buildSl 20 1 3 [(.I 0), (.I 0), (.I 0)] [(0, 3, (.t 19))]),
                   (none, .append 21 3 24 (.t 16) (.t 20)),
                   (none, .mv 5 (.t 21))])
                (.skip)))))
            (.ops [(none, .bin 22 .add (.t 10) (.c (.I 1))),
               (none, .mv 10 (.t 22))])))))))
      (.seq (.ops [(none, .mv 23 (.t 5)),
          (none, .mv 4 (.t 23))])
       (.ret))))⟩
def impl_Heap_cubes : AFn :=
  ⟨1, 22, [.tmp 2],
    .seq (.ops [(none, .box 1 (.t 0)),
       (none, .mv 2 (.c (.U 0)))])
    (.seq (.ops [(none, .mv 3 (.c (.U 0)))])
     (.seq (.seq (.ops [(none, .fieldAddr 6 (.t 1) 3),
          (none, .load1 7 (.t 6)),
          (none, .len 8 (.t 7)),
          (none, .mv 9 (.c (.I 0)))])
       (.block 0 (.loop (.seq (.ops [(none, .bin 10 .lss (.t 9) (.t 8))])
          (.seq (.cond (.t 10) (.skip)
            (.exit 0))
           (.seq (.block 1 (.seq (.ops [(none, .idxS 11 3 (.t 7) (.t 9)),
                 (none, .loadN 12 3 (.t 11)),
                 (none, .alloc 5 [(.I 0), (.I 0), (.I 0)]),
                 (none, .store 3 (.t 5) (.t 12))])
              (.draw [⟨(none, .mv 13 (.t 3)), [], []⟩,
                 ⟨(none, .loadN 14 4 (.t 1)), [], []⟩,
                 ⟨(none, .loadN 16 3 (.t 5)), [], []⟩,
                 ⟨(none, .call (some 15) F.impl_Heap_box [(.t 14)]), [], [0, 2]⟩,
                 ⟨(none, .call (some 17) F.impl_box_index [(.t 15), (.t 16)]), [], [0]⟩,
                 ⟨(none, .bin 18 .shl (.c (.U 1)) (.t 17)), [], []⟩,
                 ⟨(none, .bin 19 .or (.t 13) (.t 18)), [], []⟩,
                 ⟨(none, .mv 3 (.t 19)), [], []⟩])))
            (.ops [(none, .bin 20 .add (.t 9) (.c (.I 1))),
               (none, .mv 9 (.t 20))])))))))
      (.seq (.ops [(none, .mv 21 (.t 3)),
          (none, .mv 2 (.t 21))])
       (.ret))))⟩
end Go.Ab.C

/- That the program has this code. -/
namespace Go.Ab.K
open Go Go.Ab
theorem impl_box_size : prepF Go.Proofs.Try.prog F.impl_box_size = some C.impl_box_size := by kernel_rfl
theorem impl_box_index : prepF Go.Proofs.Try.prog F.impl_box_index = some C.impl_box_index := by kernel_rfl
theorem impl_box_cell : prepF Go.Proofs.Try.prog F.impl_box_cell = some C.impl_box_cell := by kernel_rfl
theorem impl_set_has : prepF Go.Proofs.Try.prog F.impl_set_has = some C.impl_set_has := by kernel_rfl
theorem impl_box_full : prepF Go.Proofs.Try.prog F.impl_box_full = some C.impl_box_full := by kernel_rfl
theorem impl_box_list : prepF Go.Proofs.Try.prog F.impl_box_list = some C.impl_box_list := by kernel_rfl
theorem impl_Heap_cubes : prepF Go.Proofs.Try.prog F.impl_Heap_cubes = some C.impl_Heap_cubes := by kernel_rfl
end Go.Ab.K

/- Contracts: the program's boxes, cells and sets. -/
namespace Go.Ab
open Go
set_option linter.unusedSimpArgs false
set_option linter.unusedVariables false

theorem set_bit {s : BitVec 64} {n : Nat} : decide (s >>> n &&& 1#64 = 1#64) = s.getLsbD n := by
  have : (s >>> n &&& 1#64 = 1#64) ↔ s.getLsbD n = true := by
    constructor
    · intro h
      have := congrArg (fun t => BitVec.getLsbD t 0) h
      simpa using this
    · intro h
      apply BitVec.eq_of_getLsbD_eq
      intro i hi
      rw [BitVec.getLsbD_and, BitVec.getLsbD_one]
      by_cases h0 : i = 0
      · subst h0; simp [h]
      · simp [h0]
  by_cases h : s.getLsbD n = true
  · rw [h, decide_eq_true (this.2 h)]
  · rw [decide_eq_false (fun e => h (this.1 e))]; simpa using h

theorem g_has_set {s : BitVec 64} {i : Int} {M : Mem} (hi : 0 ≤ i) : CallsTo PG F.impl_set_has [.W s, .I i] M (.B (s.getLsbD i.toNat)) M := by
  refine calls_run K.impl_set_has rfl ?_
  simp (disch := omega) only [C.impl_set_has, set_bit, ↓SXd, SXu, slBounds, ↓sop, ↓aop, ↓reduceIte, LV.cells, AOp.dst, LV.I, LV.B, LV.U, LV.S, LV.nil, Nat.reduceEqDiff, Nat.reduceAdd, Nat.reduceMul, Nat.reduceSub, Nat.reduceLeDiff, Nat.reduceBEq, Nat.reduceDiv, Nat.reduceMod, Int.reduceToNat, Int.reduceLT, Int.reduceLE, Int.reduceAdd, Int.reduceSub, Int.reduceMul, Int.reduceEq, Int.reduceNeg, reduceCtorEq, resV, resAll, ARes.ev, LV.flat, ite_true, ite_false, exists_eq_left', exists_eq_left, keyOf, implies_true, fillC, capOf]
  exact cmp_drop0 rfl

section
variable {x y z : Int} (hS : Sides x y z)
include hS

theorem g_size {M : Mem} : CallsTo PG F.impl_box_size [.agg [.I x, .I y, .I z]] M (.I ((vol x y z : Nat) : Int)) M := by
  have hb := vol_bound hS
  have hv := vol_cast hS
  refine calls_run K.impl_box_size rfl ?_
  simp (disch := omega) only [C.impl_box_size, ↓SXd, SXu, slBounds, ↓sop, ↓aop, ↓reduceIte, LV.cells, AOp.dst, LV.I, LV.B, LV.U, LV.S, LV.nil, Nat.reduceEqDiff, Nat.reduceAdd, Nat.reduceMul, Nat.reduceSub, Nat.reduceLeDiff, Nat.reduceBEq, Nat.reduceDiv, Nat.reduceMod, Int.reduceToNat, Int.reduceLT, Int.reduceLE, Int.reduceAdd, Int.reduceSub, Int.reduceMul, Int.reduceEq, Int.reduceNeg, reduceCtorEq, resV, resAll, ARes.ev, LV.flat, ite_true, ite_false, exists_eq_left', exists_eq_left, keyOf, implies_true, fillC, capOf]
  rw [hv.1]
  exact cmp_drop rfl

theorem g_index {c : Cell} {M : Mem} (hc : c.inBox x y z) : CallsTo PG F.impl_box_index [.agg [.I x, .I y, .I z], .agg [.I c.a, .I c.b, .I c.c]] M (.I (idx y z c)) M := by
  have hb := vol_bound hS
  have hi := idx_in hS hc
  obtain ⟨hx, hy, hz⟩ := id hS
  obtain ⟨h1, h2, h3⟩ := id hc
  have k1 : 0 ≤ c.a * y ∧ c.a * y ≤ 16 := by
    have e2 : y = 1 ∨ y = 2 ∨ y = 3 ∨ y = 4 := by omega
    rcases e2 with rfl | rfl | rfl | rfl <;> omega
  have k2 : 0 ≤ (c.a * y + c.b) * z ∧ (c.a * y + c.b) * z ≤ 100 := by
    have e3 : z = 1 ∨ z = 2 ∨ z = 3 ∨ z = 4 := by omega
    rcases e3 with rfl | rfl | rfl | rfl <;> omega
  refine calls_run K.impl_box_index rfl ?_
  simp (disch := omega) only [C.impl_box_index, ↓SXd, SXu, slBounds, ↓sop, ↓aop, ↓reduceIte, LV.cells, AOp.dst, LV.I, LV.B, LV.U, LV.S, LV.nil, Nat.reduceEqDiff, Nat.reduceAdd, Nat.reduceMul, Nat.reduceSub, Nat.reduceLeDiff, Nat.reduceBEq, Nat.reduceDiv, Nat.reduceMod, Int.reduceToNat, Int.reduceLT, Int.reduceLE, Int.reduceAdd, Int.reduceSub, Int.reduceMul, Int.reduceEq, Int.reduceNeg, reduceCtorEq, resV, resAll, ARes.ev, LV.flat, ite_true, ite_false, exists_eq_left', exists_eq_left, keyOf, implies_true, fillC, capOf]
  exact cmp_drop rfl

theorem g_cell {i : Int} {M : Mem} (h0 : 0 ≤ i) (hi : i < x * y * z) : CallsTo PG F.impl_box_cell [.agg [.I x, .I y, .I z], .I i] M (.agg [.I (cellAt y z i).a, .I (cellAt y z i).b, .I (cellAt y z i).c]) M := by
  have hb := vol_bound hS
  obtain ⟨hx, hy, hz⟩ := id hS
  have hy0 : y ≠ 0 := by omega
  have hz0 : z ≠ 0 := by omega
  have q1 : 0 ≤ i.tdiv z ∧ i.tdiv z ≤ 100 := by
    rw [Int.tdiv_eq_ediv_of_nonneg h0]
    exact ⟨Int.ediv_nonneg h0 (by omega), Int.le_trans (Int.ediv_le_self z h0) (by omega)⟩
  have q2 : 0 ≤ (i.tdiv z).tdiv y ∧ (i.tdiv z).tdiv y ≤ 100 := by
    rw [Int.tdiv_eq_ediv_of_nonneg q1.1]
    exact ⟨Int.ediv_nonneg q1.1 (by omega), Int.le_trans (Int.ediv_le_self y q1.1) (by omega)⟩
  have q3 : 0 ≤ (i.tdiv z).tmod y ∧ (i.tdiv z).tmod y ≤ 100 := by
    rw [Int.tmod_eq_emod_of_nonneg q1.1]
    have := Int.emod_lt_of_pos (i.tdiv z) (show 0 < y by omega)
    exact ⟨Int.emod_nonneg _ hy0, by omega⟩
  have q4 : 0 ≤ i.tmod z ∧ i.tmod z ≤ 100 := by
    rw [Int.tmod_eq_emod_of_nonneg h0]
    have := Int.emod_lt_of_pos i (show 0 < z by omega)
    exact ⟨Int.emod_nonneg _ hz0, by omega⟩
  refine calls_run K.impl_box_cell rfl ?_
  simp (disch := omega) only [C.impl_box_cell, ne_eq, not_false_eq_true, hy0, hz0, splice, ↓SXd, SXu, slBounds, ↓sop, ↓aop, ↓reduceIte, LV.cells, AOp.dst, LV.I, LV.B, LV.U, LV.S, LV.nil, Nat.reduceEqDiff, Nat.reduceAdd, Nat.reduceMul, Nat.reduceSub, Nat.reduceLeDiff, Nat.reduceBEq, Nat.reduceDiv, Nat.reduceMod, Int.reduceToNat, Int.reduceLT, Int.reduceLE, Int.reduceAdd, Int.reduceSub, Int.reduceMul, Int.reduceEq, Int.reduceNeg, reduceCtorEq, resV, resAll, ARes.ev, LV.flat, ite_true, ite_false, exists_eq_left', exists_eq_left, keyOf, implies_true, fillC, capOf]
  exact cmp_drop rfl

theorem g_full {M : Mem} : CallsTo PG F.impl_box_full [.agg [.I x, .I y, .I z]] M (.W (bs x y z fun _ => true)) M := by
  refine calls_run K.impl_box_full rfl ?_
  simp (disch := omega) only [C.impl_box_full, ↓SXd, SXu, slBounds, ↓sop, ↓aop, ↓reduceIte, LV.cells, AOp.dst, LV.I, LV.B, LV.U, LV.S, LV.nil, Nat.reduceEqDiff, Nat.reduceAdd, Nat.reduceMul, Nat.reduceSub, Nat.reduceLeDiff, Nat.reduceBEq, Nat.reduceDiv, Nat.reduceMod, Int.reduceToNat, Int.reduceLT, Int.reduceLE, Int.reduceAdd, Int.reduceSub, Int.reduceMul, Int.reduceEq, Int.reduceNeg, reduceCtorEq, resV, resAll, ARes.ev, LV.flat, ite_true, ite_false, exists_eq_left', exists_eq_left, keyOf, implies_true, fillC, capOf]
  refine callK_of (g_size hS) ?_
  simp (disch := omega) only [Int.toNat_natCast, ↓SXd, SXu, slBounds, ↓sop, ↓aop, ↓reduceIte, LV.cells, AOp.dst, LV.I, LV.B, LV.U, LV.S, LV.nil, Nat.reduceEqDiff, Nat.reduceAdd, Nat.reduceMul, Nat.reduceSub, Nat.reduceLeDiff, Nat.reduceBEq, Nat.reduceDiv, Nat.reduceMod, Int.reduceToNat, Int.reduceLT, Int.reduceLE, Int.reduceAdd, Int.reduceSub, Int.reduceMul, Int.reduceEq, Int.reduceNeg, reduceCtorEq, resV, resAll, ARes.ev, LV.flat, ite_true, ite_false, exists_eq_left', exists_eq_left, keyOf, implies_true, fillC, capOf]
  rw [bs_full hS]
  exact cmp_drop rfl

theorem range_pick_step {p : Cell → Bool} {k : Nat} : ((List.range (k + 1)).map fun (i : Nat) => cellAt y z i).filter p = ((List.range k).map fun (i : Nat) => cellAt y z i).filter p ++ (if p (cellAt y z k) then [cellAt y z k] else []) := by
  rw [List.range_succ, List.map_append, List.filter_append]
  congr 1
  by_cases h : p (cellAt y z k) = true
  · simp [h]
  · simp [h]

theorem g_list {p : Cell → Bool} {M : Mem} : CallsTo PG F.impl_box_list [.agg [.I x, .I y, .I z], .W (bs x y z p)] M (.ref M.length 0 (pick x y z p).length) (M ++ [some (.row (triL (pick x y z p)) true 3)]) := by
  have hv := vol_cast hS
  refine calls_run K.impl_box_list rfl ?_
  simp (disch := omega) only [C.impl_box_list, ↓SXd, SXu, slBounds, ↓sop, ↓aop, ↓reduceIte, LV.cells, AOp.dst, LV.I, LV.B, LV.U, LV.S, LV.nil, Nat.reduceEqDiff, Nat.reduceAdd, Nat.reduceMul, Nat.reduceSub, Nat.reduceLeDiff, Nat.reduceBEq, Nat.reduceDiv, Nat.reduceMod, Int.reduceToNat, Int.reduceLT, Int.reduceLE, Int.reduceAdd, Int.reduceSub, Int.reduceMul, Int.reduceEq, Int.reduceNeg, reduceCtorEq, resV, resAll, ARes.ev, LV.flat, ite_true, ite_false, exists_eq_left', exists_eq_left, keyOf, implies_true, fillC, capOf]
  refine callK_of (g_size hS) ?_
  simp (disch := omega) only [↓SXd, SXu, slBounds, ↓sop, ↓aop, ↓reduceIte, LV.cells, AOp.dst, LV.I, LV.B, LV.U, LV.S, LV.nil, Nat.reduceEqDiff, Nat.reduceAdd, Nat.reduceMul, Nat.reduceSub, Nat.reduceLeDiff, Nat.reduceBEq, Nat.reduceDiv, Nat.reduceMod, Int.reduceToNat, Int.reduceLT, Int.reduceLE, Int.reduceAdd, Int.reduceSub, Int.reduceMul, Int.reduceEq, Int.reduceNeg, reduceCtorEq, resV, resAll, ARes.ev, LV.flat, ite_true, ite_false, exists_eq_left', exists_eq_left, keyOf, implies_true, fillC, capOf]
  refine ev_loop (fun m fr M' => ∃ (k u : Nat) (acc : List Cell), k + m = vol x y z ∧ acc = ((List.range k).map fun (i : Nat) => cellAt y z i).filter p ∧ Pre M M' ∧ Live M' M.length (.row [.I x, .I y, .I z] true 0) ∧ M.length + 1 ≤ u ∧ Live M' u (.row (triL acc) true 3) ∧
    fr 1 = .W (bs x y z p) ∧ fr 2 = .ptr M.length 0 ∧ fr 5 = .ref u 0 acc.length ∧ fr 9 = .I ((vol x y z : Nat) : Int) ∧ fr 10 = .I k) (vol x y z)
    ⟨0, M.length + 1, [], by omega, rfl, Pre.app _ _, Live.new, by omega, Live.newj rfl, rfl, rfl, rfl, rfl, rfl⟩ ?_
  rintro m fr M' ⟨k, u, acc, hk, hacc, hpre, hbox, hu, hout, f1, f2, f5, f9, f10⟩
  have hal : acc.length ≤ k := by
    rw [hacc]
    exact Nat.le_trans (List.length_filter_le _ _) (by simp)
  simp (disch := omega) only [f1, f2, f5, f9, f10, ↓SXd, SXu, slBounds, ↓sop, ↓aop, ↓reduceIte, LV.cells, AOp.dst, LV.I, LV.B, LV.U, LV.S, LV.nil, Nat.reduceEqDiff, Nat.reduceAdd, Nat.reduceMul, Nat.reduceSub, Nat.reduceLeDiff, Nat.reduceBEq, Nat.reduceDiv, Nat.reduceMod, Int.reduceToNat, Int.reduceLT, Int.reduceLE, Int.reduceAdd, Int.reduceSub, Int.reduceMul, Int.reduceEq, Int.reduceNeg, reduceCtorEq, resV, resAll, ARes.ev, LV.flat, ite_true, ite_false, exists_eq_left', exists_eq_left, keyOf, implies_true, fillC, capOf]
  refine condC_dec (fun hlt => ?_) (fun hlt => ?_)
  · simp (disch := omega) only [f1, f2, f5, f9, f10, ↓SXd, SXu, slBounds, ↓sop, ↓aop, ↓reduceIte, LV.cells, AOp.dst, LV.I, LV.B, LV.U, LV.S, LV.nil, Nat.reduceEqDiff, Nat.reduceAdd, Nat.reduceMul, Nat.reduceSub, Nat.reduceLeDiff, Nat.reduceBEq, Nat.reduceDiv, Nat.reduceMod, Int.reduceToNat, Int.reduceLT, Int.reduceLE, Int.reduceAdd, Int.reduceSub, Int.reduceMul, Int.reduceEq, Int.reduceNeg, reduceCtorEq, resV, resAll, ARes.ev, LV.flat, ite_true, ite_false, exists_eq_left', exists_eq_left, keyOf, implies_true, fillC, capOf]
    refine callK_of (g_has_set (by omega)) ?_
    simp (disch := omega) only [f1, f2, f5, f9, f10, ↓SXd, SXu, slBounds, ↓sop, ↓aop, ↓reduceIte, LV.cells, AOp.dst, LV.I, LV.B, LV.U, LV.S, LV.nil, Nat.reduceEqDiff, Nat.reduceAdd, Nat.reduceMul, Nat.reduceSub, Nat.reduceLeDiff, Nat.reduceBEq, Nat.reduceDiv, Nat.reduceMod, Int.reduceToNat, Int.reduceLT, Int.reduceLE, Int.reduceAdd, Int.reduceSub, Int.reduceMul, Int.reduceEq, Int.reduceNeg, reduceCtorEq, resV, resAll, ARes.ev, LV.flat, ite_true, ite_false, exists_eq_left', exists_eq_left, keyOf, implies_true, fillC, capOf]
    have hst := range_pick_step hS (p := p) (k := k)
    have hbit := bs_bit hS p k
    rw [decide_eq_true (show k < vol x y z by omega), Bool.true_and] at hbit
    rw [hbit]
    by_cases hp : p (cellAt y z k) = true
    · rw [hp]
      rw [hp, if_pos rfl, ← hacc] at hst
      simp (disch := omega) only [f1, f2, f5, f9, f10, hbox.cells, ↓SXd, SXu, slBounds, ↓sop, ↓aop, ↓reduceIte, LV.cells, AOp.dst, LV.I, LV.B, LV.U, LV.S, LV.nil, Nat.reduceEqDiff, Nat.reduceAdd, Nat.reduceMul, Nat.reduceSub, Nat.reduceLeDiff, Nat.reduceBEq, Nat.reduceDiv, Nat.reduceMod, Int.reduceToNat, Int.reduceLT, Int.reduceLE, Int.reduceAdd, Int.reduceSub, Int.reduceMul, Int.reduceEq, Int.reduceNeg, reduceCtorEq, resV, resAll, ARes.ev, LV.flat, ite_true, ite_false, exists_eq_left', exists_eq_left, keyOf, implies_true, fillC, capOf]
      refine callK_of (g_cell hS (by omega) (by omega)) ?_
      simp (disch := omega) only [f1, f2, f5, f9, f10, ↓SXd, SXu, slBounds, ↓sop, ↓aop, ↓reduceIte, LV.cells, AOp.dst, LV.I, LV.B, LV.U, LV.S, LV.nil, Nat.reduceEqDiff, Nat.reduceAdd, Nat.reduceMul, Nat.reduceSub, Nat.reduceLeDiff, Nat.reduceBEq, Nat.reduceDiv, Nat.reduceMod, Int.reduceToNat, Int.reduceLT, Int.reduceLE, Int.reduceAdd, Int.reduceSub, Int.reduceMul, Int.reduceEq, Int.reduceNeg, reduceCtorEq, resV, resAll, ARes.ev, LV.flat, ite_true, ite_false, exists_eq_left', exists_eq_left, keyOf, implies_true, fillC, capOf]
      refine appendK_cell hout (by omega) fun N' l1 l2 l3 => ?_
      simp (disch := omega) only [f1, f2, f5, f9, f10, ↓SXd, SXu, slBounds, ↓sop, ↓aop, ↓reduceIte, LV.cells, AOp.dst, LV.I, LV.B, LV.U, LV.S, LV.nil, Nat.reduceEqDiff, Nat.reduceAdd, Nat.reduceMul, Nat.reduceSub, Nat.reduceLeDiff, Nat.reduceBEq, Nat.reduceDiv, Nat.reduceMod, Int.reduceToNat, Int.reduceLT, Int.reduceLE, Int.reduceAdd, Int.reduceSub, Int.reduceMul, Int.reduceEq, Int.reduceNeg, reduceCtorEq, resV, resAll, ARes.ev, LV.flat, ite_true, ite_false, exists_eq_left', exists_eq_left, keyOf, implies_true, fillC, capOf]
      exact ⟨m - 1, by omega, k + 1, _, _, by omega, hst.symm, pre_step hpre (by omega) l1 l3, live_step hbox (by omega) l3, by have := hpre.1; omega, l2, f1, f2, rfl, f9, eqI (natI _)⟩
    · have hp' : p (cellAt y z k) = false := by simpa using hp
      rw [hp']
      rw [hp', if_neg (by simp), List.append_nil, ← hacc] at hst
      simp (disch := omega) only [f1, f2, f5, f9, f10, ↓SXd, SXu, slBounds, ↓sop, ↓aop, ↓reduceIte, LV.cells, AOp.dst, LV.I, LV.B, LV.U, LV.S, LV.nil, Nat.reduceEqDiff, Nat.reduceAdd, Nat.reduceMul, Nat.reduceSub, Nat.reduceLeDiff, Nat.reduceBEq, Nat.reduceDiv, Nat.reduceMod, Int.reduceToNat, Int.reduceLT, Int.reduceLE, Int.reduceAdd, Int.reduceSub, Int.reduceMul, Int.reduceEq, Int.reduceNeg, reduceCtorEq, resV, resAll, ARes.ev, LV.flat, ite_true, ite_false, exists_eq_left', exists_eq_left, keyOf, implies_true, fillC, capOf]
      exact ⟨m - 1, by omega, k + 1, u, acc, by omega, hst.symm, hpre, hbox, hu, hout, f1, f2, f5, f9, eqI (natI _)⟩
  · simp (disch := omega) only [f1, f2, f5, f9, f10, ↓SXd, SXu, slBounds, ↓sop, ↓aop, ↓reduceIte, LV.cells, AOp.dst, LV.I, LV.B, LV.U, LV.S, LV.nil, Nat.reduceEqDiff, Nat.reduceAdd, Nat.reduceMul, Nat.reduceSub, Nat.reduceLeDiff, Nat.reduceBEq, Nat.reduceDiv, Nat.reduceMod, Int.reduceToNat, Int.reduceLT, Int.reduceLE, Int.reduceAdd, Int.reduceSub, Int.reduceMul, Int.reduceEq, Int.reduceNeg, reduceCtorEq, resV, resAll, ARes.ev, LV.flat, ite_true, ite_false, exists_eq_left', exists_eq_left, keyOf, implies_true, fillC, capOf]
    have : k = vol x y z := by omega
    subst this
    have e : pick x y z p = acc := hacc.symm
    rw [e]
    exact cmp_keepL hpre (by omega) hout (triL_lo acc) (by simp [rn, rn0, rn1])

end

theorem g_cubes {x y z : Int} {t o : Nat} {cs : List Cell} {M : Mem} (h : Tri M t o cs) (hn : cs.length ≤ 1000000000) (hS : Sides x y z) (hin : ∀ c ∈ cs, c.inBox x y z) :
    CallsTo PG F.impl_Heap_cubes [.agg [.I x, .I y, .I z, .ref t o cs.length]] M (.W (bs x y z fun c => decide (c ∈ cs))) M := by
  refine calls_run K.impl_Heap_cubes rfl ?_
  simp (disch := omega) only [C.impl_Heap_cubes, ↓SXd, SXu, slBounds, ↓sop, ↓aop, ↓reduceIte, LV.cells, AOp.dst, LV.I, LV.B, LV.U, LV.S, LV.nil, Nat.reduceEqDiff, Nat.reduceAdd, Nat.reduceMul, Nat.reduceSub, Nat.reduceLeDiff, Nat.reduceBEq, Nat.reduceDiv, Nat.reduceMod, Int.reduceToNat, Int.reduceLT, Int.reduceLE, Int.reduceAdd, Int.reduceSub, Int.reduceMul, Int.reduceEq, Int.reduceNeg, reduceCtorEq, resV, resAll, ARes.ev, LV.flat, ite_true, ite_false, exists_eq_left', exists_eq_left, keyOf, implies_true, fillC, capOf]
  refine ev_loop (fun m fr M' => ∃ k : Nat, k + m = cs.length ∧ Pre M M' ∧ Live M' M.length (.row [.I x, .I y, .I z, .ref t o cs.length] true 0) ∧ fr 1 = .ptr M.length 0 ∧ fr 3 = .W (bs x y z fun c => decide (c ∈ cs.take k)) ∧ fr 7 = .ref t o cs.length ∧ fr 8 = .I cs.length ∧ fr 9 = .I k) cs.length
    ⟨0, by omega, Pre.app _ _, Live.new, rfl, by rw [show (bs x y z fun c => decide (c ∈ cs.take 0)) = 0#64 from (bs_zero hS).2 fun c _ => by simp]; rfl, rfl, rfl, rfl⟩ ?_
  rintro m fr M' ⟨k, hk, hpre, hbox, f1, f3, f7, f8, f9⟩
  have ht := h.pre hpre
  simp (disch := omega) only [f1, f3, f7, f8, f9, ↓SXd, SXu, slBounds, ↓sop, ↓aop, ↓reduceIte, LV.cells, AOp.dst, LV.I, LV.B, LV.U, LV.S, LV.nil, Nat.reduceEqDiff, Nat.reduceAdd, Nat.reduceMul, Nat.reduceSub, Nat.reduceLeDiff, Nat.reduceBEq, Nat.reduceDiv, Nat.reduceMod, Int.reduceToNat, Int.reduceLT, Int.reduceLE, Int.reduceAdd, Int.reduceSub, Int.reduceMul, Int.reduceEq, Int.reduceNeg, reduceCtorEq, resV, resAll, ARes.ev, LV.flat, ite_true, ite_false, exists_eq_left', exists_eq_left, keyOf, implies_true, fillC, capOf]
  refine condC_dec (fun hlt => ?_) (fun hlt => ?_)
  · have hkl : k < cs.length := by omega
    have hc := hin (cs.getD k default) (getD_mem' hkl)
    have hix := (idx_in hS hc).1
    simp (disch := omega) only [f1, f3, f7, f8, f9, (Tri.get ht (k := k) (by omega)), Cell.row, splice, hbox.app.cells, ↓SXd, SXu, slBounds, ↓sop, ↓aop, ↓reduceIte, LV.cells, AOp.dst, LV.I, LV.B, LV.U, LV.S, LV.nil, Nat.reduceEqDiff, Nat.reduceAdd, Nat.reduceMul, Nat.reduceSub, Nat.reduceLeDiff, Nat.reduceBEq, Nat.reduceDiv, Nat.reduceMod, Int.reduceToNat, Int.reduceLT, Int.reduceLE, Int.reduceAdd, Int.reduceSub, Int.reduceMul, Int.reduceEq, Int.reduceNeg, reduceCtorEq, resV, resAll, ARes.ev, LV.flat, ite_true, ite_false, exists_eq_left', exists_eq_left, keyOf, implies_true, fillC, capOf]
    refine callK_of (g_box) ?_
    simp (disch := omega) only [f1, f3, f7, f8, f9, ↓SXd, SXu, slBounds, ↓sop, ↓aop, ↓reduceIte, LV.cells, AOp.dst, LV.I, LV.B, LV.U, LV.S, LV.nil, Nat.reduceEqDiff, Nat.reduceAdd, Nat.reduceMul, Nat.reduceSub, Nat.reduceLeDiff, Nat.reduceBEq, Nat.reduceDiv, Nat.reduceMod, Int.reduceToNat, Int.reduceLT, Int.reduceLE, Int.reduceAdd, Int.reduceSub, Int.reduceMul, Int.reduceEq, Int.reduceNeg, reduceCtorEq, resV, resAll, ARes.ev, LV.flat, ite_true, ite_false, exists_eq_left', exists_eq_left, keyOf, implies_true, fillC, capOf]
    refine callK_of (g_index hS hc) ?_
    simp (disch := omega) only [f1, f3, f7, f8, f9, ↓SXd, SXu, slBounds, ↓sop, ↓aop, ↓reduceIte, LV.cells, AOp.dst, LV.I, LV.B, LV.U, LV.S, LV.nil, Nat.reduceEqDiff, Nat.reduceAdd, Nat.reduceMul, Nat.reduceSub, Nat.reduceLeDiff, Nat.reduceBEq, Nat.reduceDiv, Nat.reduceMod, Int.reduceToNat, Int.reduceLT, Int.reduceLE, Int.reduceAdd, Int.reduceSub, Int.reduceMul, Int.reduceEq, Int.reduceNeg, reduceCtorEq, resV, resAll, ARes.ev, LV.flat, ite_true, ite_false, exists_eq_left', exists_eq_left, keyOf, implies_true, fillC, capOf]
    rw [bs_one hS hc, bs_or hS, show (bs x y z fun c => (decide (c ∈ cs.take k) || decide (c = cs.getD k default))) = bs x y z fun c => decide (c ∈ cs.take (k + 1)) from (bs_eq hS).2 fun c _ => take_dec hkl]
    exact ⟨m - 1, by omega, k + 1, by omega, hpre.app', hbox.app, f1, rfl, f7, f8, eqI (natI _)⟩
  · simp (disch := omega) only [f1, f3, f7, f8, f9, ↓SXd, SXu, slBounds, ↓sop, ↓aop, ↓reduceIte, LV.cells, AOp.dst, LV.I, LV.B, LV.U, LV.S, LV.nil, Nat.reduceEqDiff, Nat.reduceAdd, Nat.reduceMul, Nat.reduceSub, Nat.reduceLeDiff, Nat.reduceBEq, Nat.reduceDiv, Nat.reduceMod, Int.reduceToNat, Int.reduceLT, Int.reduceLE, Int.reduceAdd, Int.reduceSub, Int.reduceMul, Int.reduceEq, Int.reduceNeg, reduceCtorEq, resV, resAll, ARes.ev, LV.flat, ite_true, ite_false, exists_eq_left', exists_eq_left, keyOf, implies_true, fillC, capOf]
    have : k = cs.length := by omega
    subst this
    rw [List.take_length]
    exact cmp_pre hpre rfl

/-- The six neighbours of a cell, as the program looks at them. -/
def nbrs (c : Cell) : List Cell := [⟨c.a + -1, c.b, c.c⟩, ⟨c.a + 1, c.b, c.c⟩, ⟨c.a, c.b + -1, c.c⟩, ⟨c.a, c.b + 1, c.c⟩, ⟨c.a, c.b, c.c + -1⟩, ⟨c.a, c.b, c.c + 1⟩]
section
variable {x y z : Int} (hS : Sides x y z)
include hS
end
end Go.Ab

/- Contracts: valid shadows, the program's side. -/
namespace Go.Ab
open Go
set_option linter.unusedSimpArgs false
set_option linter.unusedVariables false

def shdList (d : Nat) (tp fr sd : List Int) : List Int := if d = 0 then sd else if d = 1 then fr else tp
def linesOf (x y z : Int) (d : Nat) : Int := if d = 0 then y * z else if d = 1 then x * z else x * y
end Go.Ab

/- Contracts: lines of a box; allowed cells, the program's side. -/
namespace Go.Ab
open Go
set_option linter.unusedSimpArgs false
set_option linter.unusedVariables false

/-- The place of a cell's line in a direction. -/
def lineOf (y z : Int) (c : Cell) (d : Nat) : Int := if d = 0 then c.b * z + c.c else if d = 1 then c.a * z + c.c else c.a * y + c.b
end Go.Ab

/- Contracts: allowed cells, the program's side. -/
namespace Go.Ab
open Go
set_option linter.unusedSimpArgs false
set_option linter.unusedVariables false

/-- Of a cell's lines the first k are lit. -/
def litK (y z : Int) (tp fr sd : List Int) (k : Nat) (c : Cell) : Bool := decide (∀ j, j < k → (shdList j tp fr sd).getD (lineOf y z c j).toNat 0 ≠ 0)
def allowedB (y z : Int) (tp fr sd : List Int) (c : Cell) : Bool := litK y z tp fr sd 3 c
theorem ShdOK.list {x y z : Int} {tp fr sd : List Int} (h : ShdOK x y z tp fr sd) {d : Nat} (hd : d < 3) : Ones (shdList d tp fr sd) ∧ ((shdList d tp fr sd).length : Int) = linesOf x y z d := by
  obtain ⟨_, a1, a2, a3⟩ := h
  rcases (show d = 0 ∨ d = 1 ∨ d = 2 by omega) with rfl | rfl | rfl
  · exact a3
  · exact a2
  · exact a1

end Go.Ab

/- The abstract code of some functions (written by a program of mine from the translation, by way of prepF). -/
namespace Go.Ab.C
open Go.Ab
end Go.Ab.C

/- That the program has this code. -/
namespace Go.Ab.K
open Go Go.Ab
end Go.Ab.K

/- The abstract code of some functions (written by a program of mine from the translation, by way of prepF). -/
namespace Go.Ab.C
open Go.Ab
end Go.Ab.C

/- That the program has this code. -/
namespace Go.Ab.K
open Go Go.Ab
end Go.Ab.K

/- The abstract code of some functions (written by a program of mine from the translation, by way of prepF). -/
namespace Go.Ab.C
open Go.Ab
def spec_l2All : AFn :=
  ⟨1, 34, [.tmp 2],
    .seq (.ops [(none, .box 1 (.t 0)),
       (none, .mv 2 (.c .nil))])
    (.seq (.ops [(none, .buildSl 7 0 3 [] []),
        (none, .mv 3 (.t 7))])
     (.seq (.seq (.ops [(none, .mv 4 (.c (.I 0)))])
       (.block 0 (.loop (.seq (.seq (.ops [(none, .mv 8 (.t 4)),
              (none, .fieldAddr 9 (.t 1) 0),
              (none, .load1 10 (.t 9)),
              (none, .bin 11 .lss (.t 8) (.t 10))])
           (.cond (.t 11) (.skip)
            (.exit 0)))
          (.seq (.block 1 (.seq (.ops [(none, .mv 5 (.c (.I 0)))])
             (.block 2 (.loop (.seq (.seq (.ops [(none, .mv 14 (.t 5)),
                    (none, .fieldAddr 15 (.t 1) 1),
                    (none, .load1 16 (.t 15)),
                    (none, .bin 17 .lss (.t 14) (.t 16))])
                 (.cond (.t 17) (.skip)
                  (.exit 2)))
                (.seq (.block 3 (.seq (.ops [(none, .mv 6 (.c (.I 0)))])
                   (.block 4 (.loop (.seq (.seq (.ops [(none, .mv 20 (.t 6)),
                          (none, .fieldAddr 21 (.t 1) 2),
                          (none, .load1 22 (.t 21)),
                          (none, .bin 23 .lss (.t 20) (.t 22))])
                       (.cond (.t 23) (.skip)
                        (.exit 4)))
                      (.seq (.block 5 (.ops [(none, .mv 26 (.t 3)),
                           (none, .mv 27 (.t 4)),
                           (none, .mv 28 (.t 5)),
                           (none, .mv 29 (.t 6)),
                           (none, .build 30 [(.I 0), (.I 0), (.I 0)] [(0, 1, (.t 27)), (1, 1, (.t 28)), (2, 1, (.t 29))]),
                           (none, .buildSl 31 1 3 [(.I 0), (.I 0), (.I 0)] [(0, 3, (.t 30))]),
                           (none, .append 32 3 24 (.t 26) (.t 31)),
                           (none, .mv 3 (.t 32))]))
                       (.ops [(none, .mv 24 (.t 6)),
                          (none, .bin 25 .add (.t 24) (.c (.I 1))),
                          (none, .mv 6 (.t 25))])))))))
                 (.ops [(none, .mv 18 (.t 5)),
                    (none, .bin 19 .add (.t 18) (.c (.I 1))),
                    (none, .mv 5 (.t 19))])))))))
           (.ops [(none, .mv 12 (.t 4)),
              (none, .bin 13 .add (.t 12) (.c (.I 1))),
              (none, .mv 4 (.t 13))]))))))
      (.seq (.ops [(none, .mv 33 (.t 3)),
          (none, .mv 2 (.t 33))])
       (.ret))))⟩
def spec_l2Has : AFn :=
  ⟨2, 20, [.tmp 4],
    .seq (.ops [(none, .box 2 (.t 0)),
       (none, .box 3 (.t 1)),
       (none, .mv 4 (.c (.B false)))])
    (.seq (.seq (.ops [(none, .mv 5 (.c (.I 0)))])
      (.block 0 (.loop (.seq (.seq (.ops [(none, .mv 6 (.t 5)),
             (none, .fieldAddr 7 (.t 2) 3),
             (none, .load1 8 (.t 7)),
             (none, .len 9 (.t 8)),
             (none, .bin 10 .lss (.t 6) (.t 9))])
          (.cond (.t 10) (.skip)
           (.exit 0)))
         (.seq (.block 1 (.seq (.draw [⟨(none, .fieldAddr 13 (.t 2) 3), [], []⟩,
               ⟨(none, .load1 14 (.t 13)), [], []⟩,
               ⟨(none, .mv 15 (.t 5)), [], []⟩,
               ⟨(none, .idxS 16 3 (.t 14) (.t 15)), [], []⟩,
               ⟨(none, .loadN 17 3 (.t 16)), [], []⟩,
               ⟨(none, .loadN 18 3 (.t 3)), [], []⟩,
               ⟨(none, .eqs 19 false 3 (.t 17) (.t 18)), [], []⟩])
            (.cond (.t 19) (.seq (.ops [(none, .mv 4 (.c (.B true)))])
              (.ret))
             (.skip))))
          (.ops [(none, .mv 11 (.t 5)),
             (none, .bin 12 .add (.t 11) (.c (.I 1))),
             (none, .mv 5 (.t 12))]))))))
     (.seq (.ops [(none, .mv 4 (.c (.B false)))])
      (.ret)))⟩
end Go.Ab.C

/- That the program has this code. -/
namespace Go.Ab.K
open Go Go.Ab
theorem spec_l2All : prepF Go.Proofs.Try.prog F.spec_l2All = some C.spec_l2All := by kernel_rfl
theorem spec_l2Has : prepF Go.Proofs.Try.prog F.spec_l2Has = some C.spec_l2Has := by kernel_rfl
end Go.Ab.K

/- The abstract code of some functions (written by a program of mine from the translation, by way of prepF). -/
namespace Go.Ab.C
open Go.Ab
end Go.Ab.C

/- That the program has this code. -/
namespace Go.Ab.K
open Go Go.Ab
end Go.Ab.K

/- The abstract code of some functions (written by a program of mine from the translation, by way of prepF). -/
namespace Go.Ab.C
open Go.Ab
def spec_l2Heap : AFn :=
  ⟨1, 46, [.tmp 2],
    .seq (.ops [(none, .box 1 (.t 0)),
       (none, .mv 2 (.c (.B false)))])
    (.seq (.seq (.ops [(none, .fieldAddr 4 (.t 1) 0),
         (none, .load1 5 (.t 4)),
         (none, .fieldAddr 6 (.t 1) 1),
         (none, .load1 7 (.t 6)),
         (none, .fieldAddr 8 (.t 1) 2),
         (none, .load1 9 (.t 8)),
         (none, .call (some 10) F.spec_l2Sides [(.t 5), (.t 7), (.t 9)]),
         (none, .un 11 .not (.t 10))])
      (.cond (.t 11) (.seq (.ops [(none, .mv 2 (.c (.B false)))])
        (.ret))
       (.skip)))
     (.seq (.seq (.ops [(none, .mv 3 (.c (.I 0)))])
       (.block 0 (.loop (.seq (.seq (.ops [(none, .mv 12 (.t 3)),
              (none, .fieldAddr 13 (.t 1) 3),
              (none, .load1 14 (.t 13)),
              (none, .len 15 (.t 14)),
              (none, .bin 16 .lss (.t 12) (.t 15))])
           (.cond (.t 16) (.skip)
            (.exit 0)))
          (.seq (.block 1 (.seq (.draw [⟨(none, .loadN 19 4 (.t 1)), [], []⟩,
                ⟨(none, .fieldAddr 20 (.t 1) 3), [], []⟩,
                ⟨(none, .load1 21 (.t 20)), [], []⟩,
                ⟨(none, .mv 22 (.t 3)), [], []⟩,
                ⟨(none, .idxS 23 3 (.t 21) (.t 22)), [], []⟩,
                ⟨(none, .loadN 24 3 (.t 23)), [], []⟩,
                ⟨(none, .call (some 25) F.spec_l2In [(.t 19), (.t 24)]), [], []⟩,
                ⟨(none, .un 26 .not (.t 25)), [], []⟩,
                ⟨(none, .mv 27 (.t 26)), [], []⟩,
                ⟨(some (27, false), .mv 28 (.t 3)), [], []⟩,
                ⟨(some (27, false), .bin 29 .gtr (.t 28) (.c (.I 0))), [], []⟩,
                ⟨(some (27, false), .mv 30 (.t 29)), [], []⟩,
                ⟨(some (30, true), .fieldAddr 31 (.t 1) 3), [], []⟩,
                ⟨(some (30, true), .load1 32 (.t 31)), [], []⟩,
                ⟨(some (30, true), .mv 33 (.t 3)), [], []⟩,
                ⟨(some (30, true), .bin 34 .sub (.t 33) (.c (.I 1))), [], []⟩,
                ⟨(some (30, true), .idxS 35 3 (.t 32) (.t 34)), [], []⟩,
                ⟨(some (30, true), .loadN 36 3 (.t 35)), [], []⟩,
                ⟨(some (30, true), .fieldAddr 37 (.t 1) 3), [], []⟩,
                ⟨(some (30, true), .load1 38 (.t 37)), [], []⟩,
                ⟨(some (30, true), .mv 39 (.t 3)), [], []⟩,
                ⟨(some (30, true), .idxS 40 3 (.t 38) (.t 39)), [], []⟩,
                ⟨(some (30, true), .loadN 41 3 (.t 40)), [], []⟩,
                ⟨(some (30, true), .call (some 42) F.spec_l2Before [(.t 36), (.t 41)]), [], []⟩,
                ⟨(some (30, true), .un 43 .not (.t 42)), [], []⟩,
                ⟨(some (27, false), .pick 44 (.t 30) (.t 43) (.c (.B false))), [], []⟩,
                ⟨(none, .pick 45 (.t 27) (.c (.B true)) (.t 44)), [], []⟩])
             (.cond (.t 45) (.seq (.ops [(none, .mv 2 (.c (.B false)))])
               (.ret))
              (.skip))))
           (.ops [(none, .mv 17 (.t 3)),
              (none, .bin 18 .add (.t 17) (.c (.I 1))),
              (none, .mv 3 (.t 18))]))))))
      (.seq (.ops [(none, .mv 2 (.c (.B true)))])
       (.ret))))⟩
end Go.Ab.C

/- That the program has this code. -/
namespace Go.Ab.K
open Go Go.Ab
theorem spec_l2Heap : prepF Go.Proofs.Try.prog F.spec_l2Heap = some C.spec_l2Heap := by kernel_rfl
end Go.Ab.K

/- Contracts: the reference's valid heaps, heights, columns. -/
namespace Go.Ab
open Go
set_option linter.unusedSimpArgs false
set_option linter.unusedVariables false

theorem h_l2Heap {x y z : Int} {t o : Nat} {cs : List Cell} {M : Mem} (h : Tri M t o cs) (hn : cs.length ≤ 1000000000) :
    CallsTo PG F.spec_l2Heap [.agg [.I x, .I y, .I z, .ref t o cs.length]] M (.B (decide (HeapOK x y z cs))) M := by
  refine calls_run K.spec_l2Heap rfl ?_
  simp (disch := omega) only [C.spec_l2Heap, ↓SXd, SXu, slBounds, ↓sop, ↓aop, ↓reduceIte, LV.cells, AOp.dst, LV.I, LV.B, LV.U, LV.S, LV.nil, Nat.reduceEqDiff, Nat.reduceAdd, Nat.reduceMul, Nat.reduceSub, Nat.reduceLeDiff, Nat.reduceBEq, Nat.reduceDiv, Nat.reduceMod, Int.reduceToNat, Int.reduceLT, Int.reduceLE, Int.reduceAdd, Int.reduceSub, Int.reduceMul, Int.reduceEq, Int.reduceNeg, reduceCtorEq, resV, resAll, ARes.ev, LV.flat, ite_true, ite_false, exists_eq_left', exists_eq_left, keyOf, implies_true, fillC, capOf]
  refine callK_of h_l2Sides ?_
  simp (disch := omega) only [↓SXd, SXu, slBounds, ↓sop, ↓aop, ↓reduceIte, LV.cells, AOp.dst, LV.I, LV.B, LV.U, LV.S, LV.nil, Nat.reduceEqDiff, Nat.reduceAdd, Nat.reduceMul, Nat.reduceSub, Nat.reduceLeDiff, Nat.reduceBEq, Nat.reduceDiv, Nat.reduceMod, Int.reduceToNat, Int.reduceLT, Int.reduceLE, Int.reduceAdd, Int.reduceSub, Int.reduceMul, Int.reduceEq, Int.reduceNeg, reduceCtorEq, resV, resAll, ARes.ev, LV.flat, ite_true, ite_false, exists_eq_left', exists_eq_left, keyOf, implies_true, fillC, capOf]
  by_cases hS : Sides x y z
  · simp (disch := omega) only [hS, ↓SXd, SXu, slBounds, ↓sop, ↓aop, ↓reduceIte, LV.cells, AOp.dst, LV.I, LV.B, LV.U, LV.S, LV.nil, Nat.reduceEqDiff, Nat.reduceAdd, Nat.reduceMul, Nat.reduceSub, Nat.reduceLeDiff, Nat.reduceBEq, Nat.reduceDiv, Nat.reduceMod, Int.reduceToNat, Int.reduceLT, Int.reduceLE, Int.reduceAdd, Int.reduceSub, Int.reduceMul, Int.reduceEq, Int.reduceNeg, reduceCtorEq, resV, resAll, ARes.ev, LV.flat, ite_true, ite_false, exists_eq_left', exists_eq_left, keyOf, implies_true, fillC, capOf]
    refine ev_loop (fun m fr M' => ∃ k : Nat, k + m = cs.length ∧ M' = M ++ [some (Blk.row [.I x, .I y, .I z, .ref t o cs.length] true 0)] ∧ fr 1 = .ptr M.length 0 ∧ fr 3 = .I k ∧
      ∀ j, j < k → (cs.getD j default).inBox x y z ∧ (0 < j → (cs.getD (j - 1) default).lt (cs.getD j default))) cs.length ⟨0, by omega, rfl, rfl, rfl, by omega⟩ ?_
    rintro m fr M' ⟨k, hk, rfl, h1, h3, hj⟩
    have ht := h.lt
    simp (disch := omega) only [h1, h3, ↓SXd, SXu, slBounds, ↓sop, ↓aop, ↓reduceIte, LV.cells, AOp.dst, LV.I, LV.B, LV.U, LV.S, LV.nil, Nat.reduceEqDiff, Nat.reduceAdd, Nat.reduceMul, Nat.reduceSub, Nat.reduceLeDiff, Nat.reduceBEq, Nat.reduceDiv, Nat.reduceMod, Int.reduceToNat, Int.reduceLT, Int.reduceLE, Int.reduceAdd, Int.reduceSub, Int.reduceMul, Int.reduceEq, Int.reduceNeg, reduceCtorEq, resV, resAll, ARes.ev, LV.flat, ite_true, ite_false, exists_eq_left', exists_eq_left, keyOf, implies_true, fillC, capOf]
    refine condC_dec (fun hlt => ?_) (fun hlt => ?_)
    · simp (disch := omega) only [h1, h3, getCells_app, h.get, Cell.row, ↓SXd, SXu, slBounds, ↓sop, ↓aop, ↓reduceIte, LV.cells, AOp.dst, LV.I, LV.B, LV.U, LV.S, LV.nil, Nat.reduceEqDiff, Nat.reduceAdd, Nat.reduceMul, Nat.reduceSub, Nat.reduceLeDiff, Nat.reduceBEq, Nat.reduceDiv, Nat.reduceMod, Int.reduceToNat, Int.reduceLT, Int.reduceLE, Int.reduceAdd, Int.reduceSub, Int.reduceMul, Int.reduceEq, Int.reduceNeg, reduceCtorEq, resV, resAll, ARes.ev, LV.flat, ite_true, ite_false, exists_eq_left', exists_eq_left, keyOf, implies_true, fillC, capOf]
      refine callK_of (h_l2In hS) ?_
      simp (disch := omega) only [h1, h3, getCells_app, h.get, Cell.row, cell_eta, ↓SXd, SXu, slBounds, ↓sop, ↓aop, ↓reduceIte, LV.cells, AOp.dst, LV.I, LV.B, LV.U, LV.S, LV.nil, Nat.reduceEqDiff, Nat.reduceAdd, Nat.reduceMul, Nat.reduceSub, Nat.reduceLeDiff, Nat.reduceBEq, Nat.reduceDiv, Nat.reduceMod, Int.reduceToNat, Int.reduceLT, Int.reduceLE, Int.reduceAdd, Int.reduceSub, Int.reduceMul, Int.reduceEq, Int.reduceNeg, reduceCtorEq, resV, resAll, ARes.ev, LV.flat, ite_true, ite_false, exists_eq_left', exists_eq_left, keyOf, implies_true, fillC, capOf]
      by_cases hin : (cs.getD k default).inBox x y z
      · simp (disch := omega) only [hin, h1, h3, getCells_app, h.get, Cell.row, cell_eta, ↓SXd, SXu, slBounds, ↓sop, ↓aop, ↓reduceIte, LV.cells, AOp.dst, LV.I, LV.B, LV.U, LV.S, LV.nil, Nat.reduceEqDiff, Nat.reduceAdd, Nat.reduceMul, Nat.reduceSub, Nat.reduceLeDiff, Nat.reduceBEq, Nat.reduceDiv, Nat.reduceMod, Int.reduceToNat, Int.reduceLT, Int.reduceLE, Int.reduceAdd, Int.reduceSub, Int.reduceMul, Int.reduceEq, Int.reduceNeg, reduceCtorEq, resV, resAll, ARes.ev, LV.flat, ite_true, ite_false, exists_eq_left', exists_eq_left, keyOf, implies_true, fillC, capOf]
        by_cases hk0 : k = 0
        · subst hk0
          simp (disch := omega) only [h1, h3, getCells_app, h.get, Cell.row, cell_eta, Int.natCast_zero, gt_iff_lt, Int.lt_irrefl, ↓SXd, SXu, slBounds, ↓sop, ↓aop, ↓reduceIte, LV.cells, AOp.dst, LV.I, LV.B, LV.U, LV.S, LV.nil, Nat.reduceEqDiff, Nat.reduceAdd, Nat.reduceMul, Nat.reduceSub, Nat.reduceLeDiff, Nat.reduceBEq, Nat.reduceDiv, Nat.reduceMod, Int.reduceToNat, Int.reduceLT, Int.reduceLE, Int.reduceAdd, Int.reduceSub, Int.reduceMul, Int.reduceEq, Int.reduceNeg, reduceCtorEq, resV, resAll, ARes.ev, LV.flat, ite_true, ite_false, exists_eq_left', exists_eq_left, keyOf, implies_true, fillC, capOf]
          exact ⟨m - 1, by omega, 1, by omega, rfl, h1, rfl, fun j hj1 => by
            have : j = 0 := by omega
            subst this
            exact ⟨hin, by omega⟩⟩
        · have e1 : ((k : Int) - 1).toNat = k - 1 := by omega
          have e2 : (0 : Int) < k := by omega
          simp (disch := omega) only [h1, h3, getCells_app, h.get, Cell.row, cell_eta, e1, e2, ↓SXd, SXu, slBounds, ↓sop, ↓aop, ↓reduceIte, LV.cells, AOp.dst, LV.I, LV.B, LV.U, LV.S, LV.nil, Nat.reduceEqDiff, Nat.reduceAdd, Nat.reduceMul, Nat.reduceSub, Nat.reduceLeDiff, Nat.reduceBEq, Nat.reduceDiv, Nat.reduceMod, Int.reduceToNat, Int.reduceLT, Int.reduceLE, Int.reduceAdd, Int.reduceSub, Int.reduceMul, Int.reduceEq, Int.reduceNeg, reduceCtorEq, resV, resAll, ARes.ev, LV.flat, ite_true, ite_false, exists_eq_left', exists_eq_left, keyOf, implies_true, fillC, capOf]
          refine callK_of h_l2Before ?_
          simp (disch := omega) only [h1, h3, cell_eta, ↓SXd, SXu, slBounds, ↓sop, ↓aop, ↓reduceIte, LV.cells, AOp.dst, LV.I, LV.B, LV.U, LV.S, LV.nil, Nat.reduceEqDiff, Nat.reduceAdd, Nat.reduceMul, Nat.reduceSub, Nat.reduceLeDiff, Nat.reduceBEq, Nat.reduceDiv, Nat.reduceMod, Int.reduceToNat, Int.reduceLT, Int.reduceLE, Int.reduceAdd, Int.reduceSub, Int.reduceMul, Int.reduceEq, Int.reduceNeg, reduceCtorEq, resV, resAll, ARes.ev, LV.flat, ite_true, ite_false, exists_eq_left', exists_eq_left, keyOf, implies_true, fillC, capOf]
          by_cases hb : (cs.getD (k - 1) default).lt (cs.getD k default)
          · simp (disch := omega) only [hb, h1, h3, ↓SXd, SXu, slBounds, ↓sop, ↓aop, ↓reduceIte, LV.cells, AOp.dst, LV.I, LV.B, LV.U, LV.S, LV.nil, Nat.reduceEqDiff, Nat.reduceAdd, Nat.reduceMul, Nat.reduceSub, Nat.reduceLeDiff, Nat.reduceBEq, Nat.reduceDiv, Nat.reduceMod, Int.reduceToNat, Int.reduceLT, Int.reduceLE, Int.reduceAdd, Int.reduceSub, Int.reduceMul, Int.reduceEq, Int.reduceNeg, reduceCtorEq, resV, resAll, ARes.ev, LV.flat, ite_true, ite_false, exists_eq_left', exists_eq_left, keyOf, implies_true, fillC, capOf]
            exact ⟨m - 1, by omega, k + 1, by omega, rfl, h1, eqI (natI _), fun j hj1 => by
              by_cases hjk : j = k
              · subst hjk; exact ⟨hin, fun _ => hb⟩
              · exact hj j (by omega)⟩
          · simp (disch := omega) only [hb, h1, h3, ↓SXd, SXu, slBounds, ↓sop, ↓aop, ↓reduceIte, LV.cells, AOp.dst, LV.I, LV.B, LV.U, LV.S, LV.nil, Nat.reduceEqDiff, Nat.reduceAdd, Nat.reduceMul, Nat.reduceSub, Nat.reduceLeDiff, Nat.reduceBEq, Nat.reduceDiv, Nat.reduceMod, Int.reduceToNat, Int.reduceLT, Int.reduceLE, Int.reduceAdd, Int.reduceSub, Int.reduceMul, Int.reduceEq, Int.reduceNeg, reduceCtorEq, resV, resAll, ARes.ev, LV.flat, ite_true, ite_false, exists_eq_left', exists_eq_left, keyOf, implies_true, fillC, capOf]
            exact cmp_dropF fun hh => hb ((hh.2 k (by omega)).2 (by omega))
      · simp (disch := omega) only [hin, h1, h3, ↓SXd, SXu, slBounds, ↓sop, ↓aop, ↓reduceIte, LV.cells, AOp.dst, LV.I, LV.B, LV.U, LV.S, LV.nil, Nat.reduceEqDiff, Nat.reduceAdd, Nat.reduceMul, Nat.reduceSub, Nat.reduceLeDiff, Nat.reduceBEq, Nat.reduceDiv, Nat.reduceMod, Int.reduceToNat, Int.reduceLT, Int.reduceLE, Int.reduceAdd, Int.reduceSub, Int.reduceMul, Int.reduceEq, Int.reduceNeg, reduceCtorEq, resV, resAll, ARes.ev, LV.flat, ite_true, ite_false, exists_eq_left', exists_eq_left, keyOf, implies_true, fillC, capOf]
        exact cmp_dropF fun hh => hin (hh.2 k (by omega)).1
    · simp (disch := omega) only [h1, h3, ↓SXd, SXu, slBounds, ↓sop, ↓aop, ↓reduceIte, LV.cells, AOp.dst, LV.I, LV.B, LV.U, LV.S, LV.nil, Nat.reduceEqDiff, Nat.reduceAdd, Nat.reduceMul, Nat.reduceSub, Nat.reduceLeDiff, Nat.reduceBEq, Nat.reduceDiv, Nat.reduceMod, Int.reduceToNat, Int.reduceLT, Int.reduceLE, Int.reduceAdd, Int.reduceSub, Int.reduceMul, Int.reduceEq, Int.reduceNeg, reduceCtorEq, resV, resAll, ARes.ev, LV.flat, ite_true, ite_false, exists_eq_left', exists_eq_left, keyOf, implies_true, fillC, capOf]
      exact cmp_dropT ⟨hS, fun j hj1 => hj j (by omega)⟩
  · simp (disch := omega) only [hS, ↓SXd, SXu, slBounds, ↓sop, ↓aop, ↓reduceIte, LV.cells, AOp.dst, LV.I, LV.B, LV.U, LV.S, LV.nil, Nat.reduceEqDiff, Nat.reduceAdd, Nat.reduceMul, Nat.reduceSub, Nat.reduceLeDiff, Nat.reduceBEq, Nat.reduceDiv, Nat.reduceMod, Int.reduceToNat, Int.reduceLT, Int.reduceLE, Int.reduceAdd, Int.reduceSub, Int.reduceMul, Int.reduceEq, Int.reduceNeg, reduceCtorEq, resV, resAll, ARes.ev, LV.flat, ite_true, ite_false, exists_eq_left', exists_eq_left, keyOf, implies_true, fillC, capOf]
    exact cmp_dropF fun hh => hS hh.1

end Go.Ab

/- Contracts: distances of cells. -/
namespace Go.Ab
open Go
set_option linter.unusedSimpArgs false
set_option linter.unusedVariables false

end Go.Ab

/- Contracts: the reference's heaps. -/
namespace Go.Ab
open Go
set_option linter.unusedSimpArgs false
set_option linter.unusedVariables false

theorem h_l2Has {x y z a b c : Int} {t o : Nat} {cs : List Cell} {M : Mem} (h : Tri M t o cs) (hn : cs.length ≤ 1000000000) :
    CallsTo PG F.spec_l2Has [.agg [.I x, .I y, .I z, .ref t o cs.length], .agg [.I a, .I b, .I c]] M (.B (decide ((⟨a, b, c⟩ : Cell) ∈ cs))) M := by
  refine calls_run K.spec_l2Has rfl ?_
  simp (disch := omega) only [C.spec_l2Has, ↓SXd, SXu, slBounds, ↓sop, ↓aop, ↓reduceIte, LV.cells, AOp.dst, LV.I, LV.B, LV.U, LV.S, LV.nil, Nat.reduceEqDiff, Nat.reduceAdd, Nat.reduceMul, Nat.reduceSub, Nat.reduceLeDiff, Nat.reduceBEq, Nat.reduceDiv, Nat.reduceMod, Int.reduceToNat, Int.reduceLT, Int.reduceLE, Int.reduceAdd, Int.reduceSub, Int.reduceMul, Int.reduceEq, Int.reduceNeg, reduceCtorEq, resV, resAll, ARes.ev, LV.flat, ite_true, ite_false, exists_eq_left', exists_eq_left, keyOf, implies_true, fillC, capOf]
  refine ev_loop (fun m fr M' => ∃ k : Nat, k + m = cs.length ∧ M' = M ++ [some (Blk.row [.I x, .I y, .I z, .ref t o cs.length] true 0), some (Blk.row [.I a, .I b, .I c] true 0)] ∧ fr 2 = .ptr M.length 0 ∧ fr 3 = .ptr (M.length + 1) 0 ∧ fr 5 = .I k ∧ (⟨a, b, c⟩ : Cell) ∉ cs.take k) cs.length
    ⟨0, by omega, rfl, rfl, rfl, rfl, by simp⟩ ?_
  rintro m fr M' ⟨k, hk, rfl, f2, f3, f5, hno⟩
  have ht := h.lt
  simp (disch := omega) only [f2, f3, f5, ↓SXd, SXu, slBounds, ↓sop, ↓aop, ↓reduceIte, LV.cells, AOp.dst, LV.I, LV.B, LV.U, LV.S, LV.nil, Nat.reduceEqDiff, Nat.reduceAdd, Nat.reduceMul, Nat.reduceSub, Nat.reduceLeDiff, Nat.reduceBEq, Nat.reduceDiv, Nat.reduceMod, Int.reduceToNat, Int.reduceLT, Int.reduceLE, Int.reduceAdd, Int.reduceSub, Int.reduceMul, Int.reduceEq, Int.reduceNeg, reduceCtorEq, resV, resAll, ARes.ev, LV.flat, ite_true, ite_false, exists_eq_left', exists_eq_left, keyOf, implies_true, fillC, capOf]
  refine condC_dec (fun hlt => ?_) (fun hlt => ?_)
  · have hkl : k < cs.length := by omega
    have htd := take_dec (cs := cs) (k := k) (c := ⟨a, b, c⟩) hkl
    rw [decide_eq_false hno, Bool.false_or] at htd
    simp (disch := omega) only [f2, f3, f5, getCells_app, (Tri.get h (k := k) (by omega)), Cell.row, eqV, eqC, if_true, ite_true, Bool.and_true, ↓SXd, SXu, slBounds, ↓sop, ↓aop, ↓reduceIte, LV.cells, AOp.dst, LV.I, LV.B, LV.U, LV.S, LV.nil, Nat.reduceEqDiff, Nat.reduceAdd, Nat.reduceMul, Nat.reduceSub, Nat.reduceLeDiff, Nat.reduceBEq, Nat.reduceDiv, Nat.reduceMod, Int.reduceToNat, Int.reduceLT, Int.reduceLE, Int.reduceAdd, Int.reduceSub, Int.reduceMul, Int.reduceEq, Int.reduceNeg, reduceCtorEq, resV, resAll, ARes.ev, LV.flat, ite_true, ite_false, exists_eq_left', exists_eq_left, keyOf, implies_true, fillC, capOf]
    by_cases he : (⟨a, b, c⟩ : Cell) = cs.getD k default
    · obtain ⟨e1, e2, e3⟩ := cell_eq.1 he
      simp only at e1 e2 e3
      simp (disch := omega) only [f2, f3, f5, ← e1, ← e2, ← e3, Bool.and_self, ↓SXd, SXu, slBounds, ↓sop, ↓aop, ↓reduceIte, LV.cells, AOp.dst, LV.I, LV.B, LV.U, LV.S, LV.nil, Nat.reduceEqDiff, Nat.reduceAdd, Nat.reduceMul, Nat.reduceSub, Nat.reduceLeDiff, Nat.reduceBEq, Nat.reduceDiv, Nat.reduceMod, Int.reduceToNat, Int.reduceLT, Int.reduceLE, Int.reduceAdd, Int.reduceSub, Int.reduceMul, Int.reduceEq, Int.reduceNeg, reduceCtorEq, resV, resAll, ARes.ev, LV.flat, ite_true, ite_false, exists_eq_left', exists_eq_left, keyOf, implies_true, fillC, capOf]
      exact cmp_dropT (List.mem_of_mem_take (of_decide_eq_true (htd ▸ decide_eq_true he)))
    · rw [decide_eq_false he] at htd
      have hf : ((cs.getD k default).a == a && ((cs.getD k default).b == b && (cs.getD k default).c == c)) = false := by
        rw [Bool.eq_false_iff]
        intro e
        simp only [Bool.and_eq_true, beq_iff_eq] at e
        exact he (cell_eq.2 ⟨e.1.symm, e.2.1.symm, e.2.2.symm⟩)
      simp (disch := omega) only [f2, f3, f5, hf, ↓SXd, SXu, slBounds, ↓sop, ↓aop, ↓reduceIte, LV.cells, AOp.dst, LV.I, LV.B, LV.U, LV.S, LV.nil, Nat.reduceEqDiff, Nat.reduceAdd, Nat.reduceMul, Nat.reduceSub, Nat.reduceLeDiff, Nat.reduceBEq, Nat.reduceDiv, Nat.reduceMod, Int.reduceToNat, Int.reduceLT, Int.reduceLE, Int.reduceAdd, Int.reduceSub, Int.reduceMul, Int.reduceEq, Int.reduceNeg, reduceCtorEq, resV, resAll, ARes.ev, LV.flat, ite_true, ite_false, exists_eq_left', exists_eq_left, keyOf, implies_true, fillC, capOf]
      exact ⟨m - 1, by omega, k + 1, by omega, rfl, f2, f3, eqI (natI _), of_decide_eq_false htd.symm⟩
  · simp (disch := omega) only [f2, f3, f5, ↓SXd, SXu, slBounds, ↓sop, ↓aop, ↓reduceIte, LV.cells, AOp.dst, LV.I, LV.B, LV.U, LV.S, LV.nil, Nat.reduceEqDiff, Nat.reduceAdd, Nat.reduceMul, Nat.reduceSub, Nat.reduceLeDiff, Nat.reduceBEq, Nat.reduceDiv, Nat.reduceMod, Int.reduceToNat, Int.reduceLT, Int.reduceLE, Int.reduceAdd, Int.reduceSub, Int.reduceMul, Int.reduceEq, Int.reduceNeg, reduceCtorEq, resV, resAll, ARes.ev, LV.flat, ite_true, ite_false, exists_eq_left', exists_eq_left, keyOf, implies_true, fillC, capOf]
    have : k = cs.length := by omega
    subst this
    rw [List.take_length] at hno
    exact cmp_dropF hno

theorem h_l2All {x y z : Int} {v : LV} {M : Mem} (hS : Sides x y z) : CallsTo PG F.spec_l2All [.agg [.I x, .I y, .I z, v]] M (.ref M.length 0 (cellsOf x y z).length) (M ++ [some (.row (triL (cellsOf x y z)) true 3)]) := by
  obtain ⟨hx, hy, hz⟩ := id hS
  have hv := vol_cast hS
  have hlen : (cellsOf x y z).length = vol x y z := by simp [cellsOf]
  refine calls_run K.spec_l2All rfl ?_
  simp (disch := omega) only [C.spec_l2All, ↓SXd, SXu, slBounds, ↓sop, ↓aop, ↓reduceIte, LV.cells, AOp.dst, LV.I, LV.B, LV.U, LV.S, LV.nil, Nat.reduceEqDiff, Nat.reduceAdd, Nat.reduceMul, Nat.reduceSub, Nat.reduceLeDiff, Nat.reduceBEq, Nat.reduceDiv, Nat.reduceMod, Int.reduceToNat, Int.reduceLT, Int.reduceLE, Int.reduceAdd, Int.reduceSub, Int.reduceMul, Int.reduceEq, Int.reduceNeg, reduceCtorEq, resV, resAll, ARes.ev, LV.flat, ite_true, ite_false, exists_eq_left', exists_eq_left, keyOf, implies_true, fillC, capOf]
  refine ev_loop (fun m fr M' => ∃ (a u : Nat) (acc : List Cell), (a : Int) + m = x ∧ acc = (cellsOf x y z).take (idx y z ⟨a, 0, 0⟩).toNat ∧ Pre M M' ∧ Live M' M.length (.row [.I x, .I y, .I z, v] true 0) ∧ M.length + 1 ≤ u ∧ Live M' u (.row (triL acc) true 3) ∧
    fr 1 = .ptr M.length 0 ∧ fr 3 = .ref u 0 acc.length ∧ fr 4 = .I a) x.toNat
    ⟨0, M.length + 1, [], by omega, by simp [idx], Pre.app _ _, Live.new, by omega, Live.newj rfl, rfl, rfl, rfl⟩ ?_
  rintro m fr M' ⟨a, u, acc, ha, hacc, hpre, hbox, hu, hout, f1, f3, f4⟩
  simp (disch := omega) only [f1, f3, f4, hbox.cell, ↓SXd, SXu, slBounds, ↓sop, ↓aop, ↓reduceIte, LV.cells, AOp.dst, LV.I, LV.B, LV.U, LV.S, LV.nil, Nat.reduceEqDiff, Nat.reduceAdd, Nat.reduceMul, Nat.reduceSub, Nat.reduceLeDiff, Nat.reduceBEq, Nat.reduceDiv, Nat.reduceMod, Int.reduceToNat, Int.reduceLT, Int.reduceLE, Int.reduceAdd, Int.reduceSub, Int.reduceMul, Int.reduceEq, Int.reduceNeg, reduceCtorEq, resV, resAll, ARes.ev, LV.flat, ite_true, ite_false, exists_eq_left', exists_eq_left, keyOf, implies_true, fillC, capOf]
  refine condC_dec (fun hlt => ?_) (fun hlt => ?_)
  rotate_left
  · simp (disch := omega) only [f1, f3, f4, ↓SXd, SXu, slBounds, ↓sop, ↓aop, ↓reduceIte, LV.cells, AOp.dst, LV.I, LV.B, LV.U, LV.S, LV.nil, Nat.reduceEqDiff, Nat.reduceAdd, Nat.reduceMul, Nat.reduceSub, Nat.reduceLeDiff, Nat.reduceBEq, Nat.reduceDiv, Nat.reduceMod, Int.reduceToNat, Int.reduceLT, Int.reduceLE, Int.reduceAdd, Int.reduceSub, Int.reduceMul, Int.reduceEq, Int.reduceNeg, reduceCtorEq, resV, resAll, ARes.ev, LV.flat, ite_true, ite_false, exists_eq_left', exists_eq_left, keyOf, implies_true, fillC, capOf]
    have hax : (a : Int) = x := by omega
    have e : cellsOf x y z = acc := by
      rw [hacc, hax, List.take_of_length_le]
      unfold idx
      simp only [Int.add_zero]
      rw [hlen]; unfold vol; omega
    rw [e]
    exact cmp_keepL hpre (by omega) hout (triL_lo acc) (by simp [rn, rn0, rn1])
  · simp (disch := omega) only [f1, f3, f4, ↓SXd, SXu, slBounds, ↓sop, ↓aop, ↓reduceIte, LV.cells, AOp.dst, LV.I, LV.B, LV.U, LV.S, LV.nil, Nat.reduceEqDiff, Nat.reduceAdd, Nat.reduceMul, Nat.reduceSub, Nat.reduceLeDiff, Nat.reduceBEq, Nat.reduceDiv, Nat.reduceMod, Int.reduceToNat, Int.reduceLT, Int.reduceLE, Int.reduceAdd, Int.reduceSub, Int.reduceMul, Int.reduceEq, Int.reduceNeg, reduceCtorEq, resV, resAll, ARes.ev, LV.flat, ite_true, ite_false, exists_eq_left', exists_eq_left, keyOf, implies_true, fillC, capOf]
    refine ev_loop (fun m2 fr N => ∃ (b u : Nat) (acc : List Cell), (b : Int) + m2 = y ∧ acc = (cellsOf x y z).take (idx y z ⟨a, b, 0⟩).toNat ∧ Pre M N ∧ Live N M.length (.row [.I x, .I y, .I z, v] true 0) ∧ M.length + 1 ≤ u ∧ Live N u (.row (triL acc) true 3) ∧
      fr 1 = .ptr M.length 0 ∧ fr 3 = .ref u 0 acc.length ∧ fr 4 = .I a ∧ fr 5 = .I b) y.toNat
      ⟨0, u, acc, by omega, hacc, hpre, hbox, hu, hout, f1, f3, f4, rfl⟩ ?_
    clear f1 f3 f4 hpre hbox hu hout hacc
    rintro m2 fr N ⟨b, u, acc, hb, hacc, hpre, hbox, hu, hout, f1, f3, f4, f5⟩
    simp (disch := omega) only [f1, f3, f4, f5, hbox.cell, ↓SXd, SXu, slBounds, ↓sop, ↓aop, ↓reduceIte, LV.cells, AOp.dst, LV.I, LV.B, LV.U, LV.S, LV.nil, Nat.reduceEqDiff, Nat.reduceAdd, Nat.reduceMul, Nat.reduceSub, Nat.reduceLeDiff, Nat.reduceBEq, Nat.reduceDiv, Nat.reduceMod, Int.reduceToNat, Int.reduceLT, Int.reduceLE, Int.reduceAdd, Int.reduceSub, Int.reduceMul, Int.reduceEq, Int.reduceNeg, reduceCtorEq, resV, resAll, ARes.ev, LV.flat, ite_true, ite_false, exists_eq_left', exists_eq_left, keyOf, implies_true, fillC, capOf]
    refine condC_dec (fun hlt2 => ?_) (fun hlt2 => ?_)
    rotate_left
    · simp (disch := omega) only [f1, f3, f4, f5, ↓SXd, SXu, slBounds, ↓sop, ↓aop, ↓reduceIte, LV.cells, AOp.dst, LV.I, LV.B, LV.U, LV.S, LV.nil, Nat.reduceEqDiff, Nat.reduceAdd, Nat.reduceMul, Nat.reduceSub, Nat.reduceLeDiff, Nat.reduceBEq, Nat.reduceDiv, Nat.reduceMod, Int.reduceToNat, Int.reduceLT, Int.reduceLE, Int.reduceAdd, Int.reduceSub, Int.reduceMul, Int.reduceEq, Int.reduceNeg, reduceCtorEq, resV, resAll, ARes.ev, LV.flat, ite_true, ite_false, exists_eq_left', exists_eq_left, keyOf, implies_true, fillC, capOf]
      have hby : (b : Int) = y := by omega
      refine ⟨m - 1, by omega, a + 1, u, acc, by omega, ?_, hpre, hbox, hu, hout, f1, f3, eqI (natI _)⟩
      rw [hacc, hby]
      unfold idx
      simp only [Int.natCast_add, Int.natCast_one, Int.add_mul, Int.one_mul, Int.add_zero]
    · simp (disch := omega) only [f1, f3, f4, f5, ↓SXd, SXu, slBounds, ↓sop, ↓aop, ↓reduceIte, LV.cells, AOp.dst, LV.I, LV.B, LV.U, LV.S, LV.nil, Nat.reduceEqDiff, Nat.reduceAdd, Nat.reduceMul, Nat.reduceSub, Nat.reduceLeDiff, Nat.reduceBEq, Nat.reduceDiv, Nat.reduceMod, Int.reduceToNat, Int.reduceLT, Int.reduceLE, Int.reduceAdd, Int.reduceSub, Int.reduceMul, Int.reduceEq, Int.reduceNeg, reduceCtorEq, resV, resAll, ARes.ev, LV.flat, ite_true, ite_false, exists_eq_left', exists_eq_left, keyOf, implies_true, fillC, capOf]
      refine ev_loop (fun m3 fr N => ∃ (c u : Nat) (acc : List Cell), (c : Int) + m3 = z ∧ acc = (cellsOf x y z).take (idx y z ⟨a, b, c⟩).toNat ∧ Pre M N ∧ Live N M.length (.row [.I x, .I y, .I z, v] true 0) ∧ M.length + 1 ≤ u ∧ Live N u (.row (triL acc) true 3) ∧
        fr 1 = .ptr M.length 0 ∧ fr 3 = .ref u 0 acc.length ∧ fr 4 = .I a ∧ fr 5 = .I b ∧ fr 6 = .I c) z.toNat
        ⟨0, u, acc, by omega, hacc, hpre, hbox, hu, hout, f1, f3, f4, f5, rfl⟩ ?_
      clear f1 f3 f4 f5 hpre hbox hu hout hacc
      rintro m3 fr N ⟨c, u, acc, hc, hacc, hpre, hbox, hu, hout, f1, f3, f4, f5, f6⟩
      simp (disch := omega) only [f1, f3, f4, f5, f6, hbox.cell, ↓SXd, SXu, slBounds, ↓sop, ↓aop, ↓reduceIte, LV.cells, AOp.dst, LV.I, LV.B, LV.U, LV.S, LV.nil, Nat.reduceEqDiff, Nat.reduceAdd, Nat.reduceMul, Nat.reduceSub, Nat.reduceLeDiff, Nat.reduceBEq, Nat.reduceDiv, Nat.reduceMod, Int.reduceToNat, Int.reduceLT, Int.reduceLE, Int.reduceAdd, Int.reduceSub, Int.reduceMul, Int.reduceEq, Int.reduceNeg, reduceCtorEq, resV, resAll, ARes.ev, LV.flat, ite_true, ite_false, exists_eq_left', exists_eq_left, keyOf, implies_true, fillC, capOf]
      refine condC_dec (fun hlt3 => ?_) (fun hlt3 => ?_)
      rotate_left
      · simp (disch := omega) only [f1, f3, f4, f5, f6, ↓SXd, SXu, slBounds, ↓sop, ↓aop, ↓reduceIte, LV.cells, AOp.dst, LV.I, LV.B, LV.U, LV.S, LV.nil, Nat.reduceEqDiff, Nat.reduceAdd, Nat.reduceMul, Nat.reduceSub, Nat.reduceLeDiff, Nat.reduceBEq, Nat.reduceDiv, Nat.reduceMod, Int.reduceToNat, Int.reduceLT, Int.reduceLE, Int.reduceAdd, Int.reduceSub, Int.reduceMul, Int.reduceEq, Int.reduceNeg, reduceCtorEq, resV, resAll, ARes.ev, LV.flat, ite_true, ite_false, exists_eq_left', exists_eq_left, keyOf, implies_true, fillC, capOf]
        have hcz : (c : Int) = z := by omega
        refine ⟨m2 - 1, by omega, b + 1, u, acc, by omega, ?_, hpre, hbox, hu, hout, f1, f3, f4, eqI (natI _)⟩
        rw [hacc, hcz]
        unfold idx
        simp only [Int.natCast_add, Int.natCast_one, Int.add_mul, Int.one_mul, Int.add_zero, Int.add_assoc]
      · have hin : (⟨a, b, c⟩ : Cell).inBox x y z := ⟨⟨by simp only; omega, by simp only; omega⟩, ⟨by simp only; omega, by simp only; omega⟩, ⟨by simp only; omega, by simp only; omega⟩⟩
        obtain ⟨i1, i2, i3⟩ := idx_in hS hin
        have hal : acc.length ≤ 64 := by
          have := List.length_take_le (idx y z ⟨a, b, c⟩).toNat (cellsOf x y z)
          rw [hacc]; omega
        simp (disch := omega) only [f1, f3, f4, f5, f6, splice, ↓SXd, SXu, slBounds, ↓sop, ↓aop, ↓reduceIte, LV.cells, AOp.dst, LV.I, LV.B, LV.U, LV.S, LV.nil, Nat.reduceEqDiff, Nat.reduceAdd, Nat.reduceMul, Nat.reduceSub, Nat.reduceLeDiff, Nat.reduceBEq, Nat.reduceDiv, Nat.reduceMod, Int.reduceToNat, Int.reduceLT, Int.reduceLE, Int.reduceAdd, Int.reduceSub, Int.reduceMul, Int.reduceEq, Int.reduceNeg, reduceCtorEq, resV, resAll, ARes.ev, LV.flat, ite_true, ite_false, exists_eq_left', exists_eq_left, keyOf, implies_true, fillC, capOf]
        refine appendK_cell hout (by omega) fun N' l1 l2 l3 => ?_
        simp (disch := omega) only [f1, f3, f4, f5, f6, ↓SXd, SXu, slBounds, ↓sop, ↓aop, ↓reduceIte, LV.cells, AOp.dst, LV.I, LV.B, LV.U, LV.S, LV.nil, Nat.reduceEqDiff, Nat.reduceAdd, Nat.reduceMul, Nat.reduceSub, Nat.reduceLeDiff, Nat.reduceBEq, Nat.reduceDiv, Nat.reduceMod, Int.reduceToNat, Int.reduceLT, Int.reduceLE, Int.reduceAdd, Int.reduceSub, Int.reduceMul, Int.reduceEq, Int.reduceNeg, reduceCtorEq, resV, resAll, ARes.ev, LV.flat, ite_true, ite_false, exists_eq_left', exists_eq_left, keyOf, implies_true, fillC, capOf]
        refine ⟨m3 - 1, by omega, c + 1, _, acc ++ [⟨a, b, c⟩], by omega, ?_, pre_step hpre (by omega) l1 l3, live_step hbox (by omega) l3, by have := hpre.1; omega, l2, f1, rfl, f4, f5, eqI (natI _)⟩
        have e1 : (idx y z ⟨a, b, ((c + 1 : Nat) : Int)⟩).toNat = (idx y z ⟨a, b, c⟩).toNat + 1 := by unfold idx at i1 ⊢; simp only at i1 ⊢; omega
        have hlt' : (idx y z ⟨a, b, c⟩).toNat < (cellsOf x y z).length := by omega
        rw [e1, List.take_succ, ← hacc, List.getElem?_eq_getElem hlt']
        congr 1
        simp only [Option.toList, cellsOf, List.getElem_map, List.getElem_range]
        rw [Int.toNat_of_nonneg i1, i3]

end Go.Ab

/- Contracts: the reference's heaps with one more cube. -/
namespace Go.Ab
open Go
set_option linter.unusedSimpArgs false
set_option linter.unusedVariables false

theorem Tri.take {M : Mem} {t o k : Nat} {cs : List Cell} (h : Tri M t o cs) (hk : k ≤ cs.length) : Tri M t o (cs.take k) := by
  obtain ⟨row, h1, h2, h3⟩ := h
  rw [triL_len] at h2 h3
  have hl : (cs.take k).length = k := by simp; omega
  refine ⟨row, h1, by rw [triL_len, hl]; omega, ?_⟩
  rw [triL_len, hl, ← triL_take, ← h3, List.take_take, Nat.min_eq_left (by omega)]
theorem Tri.drop {M : Mem} {t o k : Nat} {cs : List Cell} (h : Tri M t o cs) (hk : k ≤ cs.length) : Tri M t (o + k * 3) (cs.drop k) := by
  obtain ⟨row, h1, h2, h3⟩ := h
  rw [triL_len] at h2 h3
  have hl : (cs.drop k).length = cs.length - k := by simp
  refine ⟨row, h1, by rw [triL_len, hl]; omega, ?_⟩
  rw [triL_len, hl, ← triL_drop, ← h3, List.drop_take, List.drop_drop]
  congr 1
  omega
theorem Tri.all {M : Mem} {t o n : Nat} {cs : List Cell} (h : Tri M t o cs) (hn : n = cs.length) : getCells M t o (n * 3) = some (triL cs) := by
  have := Has.all h
  rw [triL_len] at this; rw [hn]; exact this

end Go.Ab

/- Plain words: what is reached from some cells within a set. -/
namespace Go.Ab

/-- What is reached from the cells of p by way of cells of q, all in the box. -/
inductive Reach (x y z : Int) (p q : Cell → Bool) : Cell → Prop
  | base {c : Cell} : c.inBox x y z → p c = true → Reach x y z p q c
  | step {c d : Cell} : Reach x y z p q c → apart c d = 1 → d.inBox x y z → q d = true → Reach x y z p q d
noncomputable def reach (x y z : Int) (p q : Cell → Bool) : Cell → Bool := fun c => @decide (Reach x y z p q c) (Classical.propDecidable _)
theorem reach_iff {x y z : Int} {p q : Cell → Bool} {c : Cell} : reach x y z p q c = true ↔ Reach x y z p q c := by
  unfold reach; exact @decide_eq_true_iff _ (Classical.propDecidable _)
theorem Reach.inBox {x y z : Int} {p q : Cell → Bool} {c : Cell} (h : Reach x y z p q c) : c.inBox x y z := by
  cases h <;> assumption
theorem Reach.mono {x y z : Int} {p q p' q' : Cell → Bool} (hp : ∀ c, c.inBox x y z → p c = true → Reach x y z p' q' c) (hq : ∀ c, c.inBox x y z → q c = true → q' c = true) {c : Cell} (h : Reach x y z p q c) : Reach x y z p' q' c := by
  induction h with
  | base h1 h2 => exact hp _ h1 h2
  | step _ h2 h3 h4 ih => exact .step ih h2 h3 (hq _ h3 h4)
/-- What holds of the beginning and is carried on holds of all that is reached. -/
theorem Reach.ind {x y z : Int} {p q : Cell → Bool} {P : Cell → Prop} (h0 : ∀ c, c.inBox x y z → p c = true → P c) (h1 : ∀ c d, P c → apart c d = 1 → d.inBox x y z → q d = true → P d) {c : Cell} (h : Reach x y z p q c) : P c := by
  induction h with
  | base h2 h3 => exact h0 _ h2 h3
  | step _ h2 h3 h4 ih => exact h1 _ _ ih h2 h3 h4
/-- One round of growing: only of the first k cells. -/
noncomputable def growK (y z : Int) (p q : Cell → Bool) (k : Nat) : Cell → Bool := by
  classical
  exact fun c => p c || (q c && decide (∃ j, j < k ∧ p (cellAt y z j) = true ∧ apart (cellAt y z j) c = 1))
section
variable {x y z : Int} (hS : Sides x y z)
include hS
/-- How many cells of the box are not in the set. -/
def rest (x y z : Int) (p : Cell → Bool) : Nat := (pick x y z fun c => !p c).length
end
end Go.Ab

/- Plain words: parts; lists of lists of cells in the abstract memory. -/
namespace Go.Ab
open Go

/-- The parts of a set: what its first cell reaches, then the parts of the rest. -/
noncomputable def parts (x y z : Int) : Nat → (Cell → Bool) → List (List Cell)
  | 0, _ => []
  | f + 1, q => match pick x y z q with
    | [] => []
    | c :: _ => pick x y z (reach x y z (fun d => decide (d = c)) q) :: parts x y z f fun d => q d && !reach x y z (fun d => decide (d = c)) q d

/-- Lists of cells, each in a block of its own, the blocks in rising order. -/
def Css (N : Mem) (lo hi : Nat) : List LV → List (List Cell) → Prop
  | [], [] => True
  | r :: rs, l :: ls => ∃ u, lo ≤ u ∧ u < hi ∧ r = .ref u 0 l.length ∧ Live N u (.row (triL l) true 3) ∧ Css N (u + 1) hi rs ls
  | _, _ => False

theorem Css.len {N : Mem} {hi : Nat} : ∀ {lo : Nat} {rs : List LV} {ls : List (List Cell)}, Css N lo hi rs ls → rs.length = ls.length
  | _, [], [], _ => rfl
  | _, [], _ :: _, h => h.elim
  | _, _ :: _, [], h => h.elim
  | _, r :: rs, l :: ls, ⟨u, _, _, _, _, h⟩ => by simp [Css.len h]
theorem Css.mono {N N' : Mem} {hi hi' : Nat} (hh : hi ≤ hi') : ∀ {lo lo' : Nat} {rs : List LV} {ls : List (List Cell)}, lo' ≤ lo → (∀ u l, lo ≤ u → u < hi → Live N u (.row (triL l) true 3) → Live N' u (.row (triL l) true 3)) → Css N lo hi rs ls → Css N' lo' hi' rs ls
  | _, _, [], [], _, _, _ => trivial
  | _, _, [], _ :: _, _, _, h => h.elim
  | _, _, _ :: _, [], _, _, h => h.elim
  | lo, lo', r :: rs, l :: ls, hl, hk, ⟨u, h1, h2, h3, h4, h5⟩ => ⟨u, by omega, by omega, h3, hk u l h1 h2 h4, h5.mono hh (Nat.le_refl _) fun v l h6 h7 => hk v l (by omega) h7⟩
theorem Css.snoc {N : Mem} {hi hi' u : Nat} {l : List Cell} (hu : hi ≤ u) (hu' : u < hi') (hL : Live N u (.row (triL l) true 3)) : ∀ {lo : Nat} {rs : List LV} {ls : List (List Cell)}, lo ≤ u → Css N lo hi rs ls → Css N lo hi' (rs ++ [.ref u 0 l.length]) (ls ++ [l])
  | _, [], [], hl, _ => ⟨u, hl, hu', rfl, hL, trivial⟩
  | _, [], _ :: _, _, h => h.elim
  | _, _ :: _, [], _, h => h.elim
  | lo, r :: rs, m :: ls, hl, ⟨v, h1, h2, h3, h4, h5⟩ => ⟨v, h1, by omega, h3, h4, h5.snoc hu hu' hL (by omega)⟩
theorem Css.get {N : Mem} {hi : Nat} : ∀ {lo k : Nat} {rs : List LV} {ls : List (List Cell)}, Css N lo hi rs ls → k < ls.length → ∃ u, lo ≤ u ∧ u < hi ∧ rs[k]? = some (.ref u 0 (ls.getD k []).length) ∧ Live N u (.row (triL (ls.getD k [])) true 3)
  | _, k, [], [], _, hk => by simp at hk
  | _, _, [], _ :: _, h, _ => h.elim
  | _, _, _ :: _, [], h, _ => h.elim
  | lo, 0, r :: rs, l :: ls, ⟨u, h1, h2, h3, h4, _⟩, _ => ⟨u, h1, h2, by rw [h3]; rfl, h4⟩
  | lo, k + 1, r :: rs, l :: ls, ⟨u, h1, h2, h3, h4, h5⟩, hk => by
    obtain ⟨v, k1, k2, k3, k4⟩ := h5.get (k := k) (by simpa using hk)
    exact ⟨v, by omega, k2, by simpa using k3, k4⟩
/-- One block has changed that is none of these. -/
theorem Css.keep {M M' : Mem} {lo hi t : Nat} {rs : List LV} {ls : List (List Cell)} (h : Css M lo hi rs ls) (ht : (hi ≤ t ∨ t < lo) ∨ ∃ cs w e, Live M t (.row cs w e) ∧ e ≠ 3) (hu : ∀ u, u ≠ t → u < M.length → M'[u]? = M[u]?) : Css M' lo hi rs ls :=
  h.mono (Nat.le_refl _) (Nat.le_refl _) fun u l h1 h2 hL => by
    refine live_step hL (fun e => ?_) hu
    subst e
    rcases ht with h3 | ⟨cs, w, e, h3, h4⟩
    · omega
    · unfold Live at hL h3; rw [hL] at h3; cases h3; exact h4 rfl
theorem Css.pre {M N : Mem} {lo hi : Nat} {rs : List LV} {ls : List (List Cell)} (h : Css M lo hi rs ls) (hp : Pre M N) : Css N lo hi rs ls := h.mono (Nat.le_refl _) (Nat.le_refl _) fun _ _ _ _ hL => hL.pre hp

end Go.Ab

/- Contracts: the reference's parts. -/
namespace Go.Ab
open Go
set_option linter.unusedSimpArgs false
set_option linter.unusedVariables false

theorem memK_box {M : Mem} {t e : Nat} {old vs : List LV} {A : Mem → Prop} (ht : Live M t (.row old true e)) (hl : vs.length = old.length)
    (hA : ∀ M', M'.length = M.length → Live M' t (.row vs true e) → (∀ u, u ≠ t → u < M.length → M'[u]? = M[u]?) → A M') : memK (setCells M t 0 vs) A := by
  rw [ht.setC, if_pos (by omega)]
  have : splice old 0 vs = vs := by simp [splice, hl]
  rw [this]
  exact hA _ (by simp) ht.set_eq fun u hu _ => List.getElem?_set_ne (fun e => hu e.symm)

/-- What is found by and by: the queue of a search in the set q from c. -/
structure Que (x y z : Int) (q : Cell → Bool) (c : Cell) (n : Nat) (l : List Cell) : Prop where
  nodup : l.Nodup
  mem : ∀ d ∈ l, d.inBox x y z ∧ q d = true ∧ Reach x y z (fun d => decide (d = c)) q d
  start : c ∈ l
  done : ∀ i, i < n → i < l.length → ∀ e, e.inBox x y z → q e = true → apart (l.getD i default) e = 1 → e ∈ l

theorem Que.reach {x y z : Int} {q : Cell → Bool} {c : Cell} {n : Nat} {l : List Cell} (h : Que x y z q c n l) (hn : l.length ≤ n) {d : Cell} : d ∈ l ↔ reach x y z (fun d => decide (d = c)) q d = true := by
  rw [reach_iff]
  refine ⟨fun hd => (h.mem d hd).2.2, fun hd => ?_⟩
  refine hd.ind (P := fun d => d ∈ l) (fun e _ he => ?_) fun a b ha hab hb hq => ?_
  · rw [of_decide_eq_true he]; exact h.start
  · obtain ⟨i, hi, rfl⟩ := List.getElem_of_mem ha
    exact h.done i (by omega) hi b hb hq (by simpa [hi] using hab)

end Go.Ab

/- Contracts: allowed cells, the reference's side. -/
namespace Go.Ab
open Go
set_option linter.unusedSimpArgs false
set_option linter.unusedVariables false
set_option maxRecDepth 20000

theorem memK_one {M : Mem} {t j e : Nat} {old : List LV} {v : LV} {A : Mem → Prop} (ht : Live M t (.row old true e)) (hj : j < old.length)
    (hA : ∀ M', M'.length = M.length → Live M' t (.row (old.set j v) true e) → (∀ u, u ≠ t → u < M.length → M'[u]? = M[u]?) → A M') : memK (setCells M t j [v]) A := by
  rw [ht.setC, if_pos (by simp; omega), splice_1 hj]
  exact hA _ (by simp) ht.set_eq fun u hu _ => List.getElem?_set_ne (fun e => hu e.symm)
end Go.Ab

/- Contracts: the laws' helpers on lists of pairs of numbers. -/
namespace Go.Ab
open Go
set_option linter.unusedSimpArgs false
set_option linter.unusedVariables false
set_option maxRecDepth 20000

/-- A list of n pairs, number by number, that is one's own. -/
def SlF (N : Mem) (v : LV) (n : Nat) (Z : List Int) : Prop := Z.length = n * 2 ∧ ((v = .nil ∧ n = 0) ∨ ∃ t, v = .ref t 0 n ∧ Live N t (.row (intL Z) true 2))
theorem SlF.pre {M N : Mem} {v : LV} {n : Nat} {Z : List Int} (h : SlF M v n Z) (hp : Pre M N) : SlF N v n Z := by
  obtain ⟨h0, h | ⟨t, h1, h2⟩⟩ := h
  · exact ⟨h0, .inl h⟩
  · exact ⟨h0, .inr ⟨t, h1, h2.pre hp⟩⟩
theorem SlF.lenV {N : Mem} {v : LV} {n : Nat} {Z : List Int} (h : SlF N v n Z) : lenV v = some (n : Int) := by
  obtain ⟨h0, ⟨rfl, rfl⟩ | ⟨t, rfl, h2⟩⟩ := h <;> rfl
theorem SlF.older {M : Mem} {v : LV} {n : Nat} {Z : List Int} (h : SlF M v n Z) : Older M v := fun t o m e => by
  obtain ⟨h0, ⟨rfl, rfl⟩ | ⟨t', rfl, h2⟩⟩ := h
  · cases e
  · cases e; exact h2.lt
theorem SlF.at {M N : Mem} {w : LV} {n : Nat} {Z : List Int} (h : SlF M w n Z) (hk : ∀ t o m, w = .ref t o m → N[t]? = M[t]?) : SlF N w n Z := by
  obtain ⟨h0, h | ⟨t, h1, h2⟩⟩ := h
  · exact ⟨h0, .inl h⟩
  · refine ⟨h0, .inr ⟨t, h1, ?_⟩⟩
    unfold Live; rw [hk _ _ _ h1]; exact h2
theorem h_eqIntA2 {a b : Int} {M : Mem} : CallsTo PG F.laws_eqIntA2 [.agg [.I a, .I b], .agg [.I a, .I b]] M (.B true) M := by
  refine calls_run K.laws_eqIntA2 rfl ?_
  simp (disch := omega) only [C.laws_eqIntA2, ↓SXd, SXu, slBounds, ↓sop, ↓aop, ↓reduceIte, LV.cells, AOp.dst, LV.I, LV.B, LV.U, LV.S, LV.nil, Nat.reduceEqDiff, Nat.reduceAdd, Nat.reduceMul, Nat.reduceSub, Nat.reduceLeDiff, Nat.reduceBEq, Nat.reduceDiv, Nat.reduceMod, Int.reduceToNat, Int.reduceLT, Int.reduceLE, Int.reduceAdd, Int.reduceSub, Int.reduceMul, Int.reduceEq, Int.reduceNeg, reduceCtorEq, resV, resAll, ARes.ev, LV.flat, ite_true, ite_false, exists_eq_left', exists_eq_left, keyOf, implies_true, fillC, capOf]
  refine ev_loop (fun m fr M' => ∃ d : Nat, d + m = 2 ∧ M' = M ++ [some (.row [.I a, .I b] true 0), some (.row [.I a, .I b] true 0)] ∧ fr 2 = .ptr M.length 0 ∧ fr 3 = .ptr (M.length + 1) 0 ∧ fr 5 = .I d) 2
    ⟨0, rfl, rfl, rfl, rfl, rfl⟩ ?_
  rintro m fr M' ⟨d, hd, rfl, f2, f3, f5⟩
  simp (disch := omega) only [f2, f3, f5, ↓SXd, SXu, slBounds, ↓sop, ↓aop, ↓reduceIte, LV.cells, AOp.dst, LV.I, LV.B, LV.U, LV.S, LV.nil, Nat.reduceEqDiff, Nat.reduceAdd, Nat.reduceMul, Nat.reduceSub, Nat.reduceLeDiff, Nat.reduceBEq, Nat.reduceDiv, Nat.reduceMod, Int.reduceToNat, Int.reduceLT, Int.reduceLE, Int.reduceAdd, Int.reduceSub, Int.reduceMul, Int.reduceEq, Int.reduceNeg, reduceCtorEq, resV, resAll, ARes.ev, LV.flat, ite_true, ite_false, exists_eq_left', exists_eq_left, keyOf, implies_true, fillC, capOf]
  refine condC_dec (fun hlt => ?_) (fun hlt => ?_)
  · rcases (show d = 0 ∨ d = 1 by omega) with rfl | rfl
    · simp (disch := omega) only [f2, f3, f5, ↓SXd, SXu, slBounds, ↓sop, ↓aop, ↓reduceIte, LV.cells, AOp.dst, LV.I, LV.B, LV.U, LV.S, LV.nil, Nat.reduceEqDiff, Nat.reduceAdd, Nat.reduceMul, Nat.reduceSub, Nat.reduceLeDiff, Nat.reduceBEq, Nat.reduceDiv, Nat.reduceMod, Int.reduceToNat, Int.reduceLT, Int.reduceLE, Int.reduceAdd, Int.reduceSub, Int.reduceMul, Int.reduceEq, Int.reduceNeg, reduceCtorEq, resV, resAll, ARes.ev, LV.flat, ite_true, ite_false, exists_eq_left', exists_eq_left, keyOf, implies_true, fillC, capOf]
      exact ⟨m - 1, by omega, 1, by omega, rfl, f2, f3, rfl⟩
    · simp (disch := omega) only [f2, f3, f5, ↓SXd, SXu, slBounds, ↓sop, ↓aop, ↓reduceIte, LV.cells, AOp.dst, LV.I, LV.B, LV.U, LV.S, LV.nil, Nat.reduceEqDiff, Nat.reduceAdd, Nat.reduceMul, Nat.reduceSub, Nat.reduceLeDiff, Nat.reduceBEq, Nat.reduceDiv, Nat.reduceMod, Int.reduceToNat, Int.reduceLT, Int.reduceLE, Int.reduceAdd, Int.reduceSub, Int.reduceMul, Int.reduceEq, Int.reduceNeg, reduceCtorEq, resV, resAll, ARes.ev, LV.flat, ite_true, ite_false, exists_eq_left', exists_eq_left, keyOf, implies_true, fillC, capOf]
      exact ⟨m - 1, by omega, 2, by omega, rfl, f2, f3, rfl⟩
  · simp (disch := omega) only [f2, f3, f5, ↓SXd, SXu, slBounds, ↓sop, ↓aop, ↓reduceIte, LV.cells, AOp.dst, LV.I, LV.B, LV.U, LV.S, LV.nil, Nat.reduceEqDiff, Nat.reduceAdd, Nat.reduceMul, Nat.reduceSub, Nat.reduceLeDiff, Nat.reduceBEq, Nat.reduceDiv, Nat.reduceMod, Int.reduceToNat, Int.reduceLT, Int.reduceLE, Int.reduceAdd, Int.reduceSub, Int.reduceMul, Int.reduceEq, Int.reduceNeg, reduceCtorEq, resV, resAll, ARes.ev, LV.flat, ite_true, ite_false, exists_eq_left', exists_eq_left, keyOf, implies_true, fillC, capOf]
    exact cmp_drop rfl
theorem row2 {Z : List Int} {t i : Nat} {N : Mem} {w : Bool} (h : Live N t (.row (intL Z) w 2)) (hi : i * 2 + 1 < Z.length) : getCells N t (i * 2) 2 = some [.I (Z.getD (i * 2) 0), .I (Z.getD (i * 2 + 1) 0)] := by
  rw [h.cells, if_pos (by rw [intL_len]; omega)]
  congr 1
  have e1 : (intL Z)[i * 2]? = some (LV.I (Z.getD (i * 2) 0)) := intL_get (by omega)
  have e2 : (intL Z)[i * 2 + 1]? = some (LV.I (Z.getD (i * 2 + 1) 0)) := intL_get hi
  apply List.ext_getElem?
  intro j
  rw [List.getElem?_take, List.getElem?_drop]
  match j with
  | 0 => rw [if_pos (by omega), Nat.add_zero, e1]; rfl
  | 1 => rw [if_pos (by omega), e2]; rfl
  | j + 2 => rw [if_neg (by omega)]; rfl
theorem h_eqPairs {v v' : LV} {n : Nat} {Z : List Int} {M : Mem} (h : SlF M v n Z) (h' : SlF M v' n Z) (hn : n ≤ 1000000) : CallsTo PG F.laws_eqIntA2S [v, v'] M (.B true) M := by
  refine calls_run K.laws_eqIntA2S rfl ?_
  have hl1 := h.lenV
  have hl2 := h'.lenV
  simp (disch := omega) only [C.laws_eqIntA2S, hl1, hl2, ↓SXd, SXu, slBounds, ↓sop, ↓aop, ↓reduceIte, LV.cells, AOp.dst, LV.I, LV.B, LV.U, LV.S, LV.nil, Nat.reduceEqDiff, Nat.reduceAdd, Nat.reduceMul, Nat.reduceSub, Nat.reduceLeDiff, Nat.reduceBEq, Nat.reduceDiv, Nat.reduceMod, Int.reduceToNat, Int.reduceLT, Int.reduceLE, Int.reduceAdd, Int.reduceSub, Int.reduceMul, Int.reduceEq, Int.reduceNeg, reduceCtorEq, resV, resAll, ARes.ev, LV.flat, ite_true, ite_false, exists_eq_left', exists_eq_left, keyOf, implies_true, fillC, capOf]
  refine ev_loop (fun m fr M' => ∃ i : Nat, i + m = n ∧ M' = M ∧ fr 0 = v ∧ fr 1 = v' ∧ fr 5 = .I i) n
    ⟨0, by omega, rfl, rfl, rfl, rfl⟩ ?_
  rintro m fr M' ⟨i, hi, rfl, f0, f1, f5⟩
  simp (disch := omega) only [f0, f1, f5, hl1, ↓SXd, SXu, slBounds, ↓sop, ↓aop, ↓reduceIte, LV.cells, AOp.dst, LV.I, LV.B, LV.U, LV.S, LV.nil, Nat.reduceEqDiff, Nat.reduceAdd, Nat.reduceMul, Nat.reduceSub, Nat.reduceLeDiff, Nat.reduceBEq, Nat.reduceDiv, Nat.reduceMod, Int.reduceToNat, Int.reduceLT, Int.reduceLE, Int.reduceAdd, Int.reduceSub, Int.reduceMul, Int.reduceEq, Int.reduceNeg, reduceCtorEq, resV, resAll, ARes.ev, LV.flat, ite_true, ite_false, exists_eq_left', exists_eq_left, keyOf, implies_true, fillC, capOf]
  refine condC_dec (fun hlt => ?_) (fun hlt => ?_)
  · have hil : i < n := by omega
    obtain ⟨h0, h | ⟨t, rfl, h2⟩⟩ := h
    · omega
    obtain ⟨h0', h' | ⟨t', rfl, h2'⟩⟩ := h'
    · omega
    have hg := row2 (i := i) h2 (by omega)
    have hg' := row2 (i := i) h2' (by omega)
    simp (disch := omega) only [f0, f1, f5, hg, hg', Nat.zero_add, ↓SXd, SXu, slBounds, ↓sop, ↓aop, ↓reduceIte, LV.cells, AOp.dst, LV.I, LV.B, LV.U, LV.S, LV.nil, Nat.reduceEqDiff, Nat.reduceAdd, Nat.reduceMul, Nat.reduceSub, Nat.reduceLeDiff, Nat.reduceBEq, Nat.reduceDiv, Nat.reduceMod, Int.reduceToNat, Int.reduceLT, Int.reduceLE, Int.reduceAdd, Int.reduceSub, Int.reduceMul, Int.reduceEq, Int.reduceNeg, reduceCtorEq, resV, resAll, ARes.ev, LV.flat, ite_true, ite_false, exists_eq_left', exists_eq_left, keyOf, implies_true, fillC, capOf]
    refine callK_of h_eqIntA2 ?_
    simp (disch := omega) only [f0, f1, f5, ↓SXd, SXu, slBounds, ↓sop, ↓aop, ↓reduceIte, LV.cells, AOp.dst, LV.I, LV.B, LV.U, LV.S, LV.nil, Nat.reduceEqDiff, Nat.reduceAdd, Nat.reduceMul, Nat.reduceSub, Nat.reduceLeDiff, Nat.reduceBEq, Nat.reduceDiv, Nat.reduceMod, Int.reduceToNat, Int.reduceLT, Int.reduceLE, Int.reduceAdd, Int.reduceSub, Int.reduceMul, Int.reduceEq, Int.reduceNeg, reduceCtorEq, resV, resAll, ARes.ev, LV.flat, ite_true, ite_false, exists_eq_left', exists_eq_left, keyOf, implies_true, fillC, capOf]
    exact ⟨m - 1, by omega, i + 1, by omega, rfl, f0, f1, eqI (natI _)⟩
  · simp (disch := omega) only [f0, f1, f5, ↓SXd, SXu, slBounds, ↓sop, ↓aop, ↓reduceIte, LV.cells, AOp.dst, LV.I, LV.B, LV.U, LV.S, LV.nil, Nat.reduceEqDiff, Nat.reduceAdd, Nat.reduceMul, Nat.reduceSub, Nat.reduceLeDiff, Nat.reduceBEq, Nat.reduceDiv, Nat.reduceMod, Int.reduceToNat, Int.reduceLT, Int.reduceLE, Int.reduceAdd, Int.reduceSub, Int.reduceMul, Int.reduceEq, Int.reduceNeg, reduceCtorEq, resV, resAll, ARes.ev, LV.flat, ite_true, ite_false, exists_eq_left', exists_eq_left, keyOf, implies_true, fillC, capOf]
    exact cmp_drop0 rfl
theorem h_markPairs {v : LV} {n : Nat} {Z : List Int} {k : Int} {M : Mem} (h : SlF M v n Z) (hn : n ≤ 1000000) (hk : 0 ≤ k ∧ k ≤ 100000000) :
    CallsR PG F.laws_markIntA2S [v, .I k] M fun r N => r = .I (k + 2 * n) ∧ SlF N v n (marks k (n * 2)) ∧ N.length = M.length ∧ ∀ u, Off v u → N[u]? = M[u]? := by
  refine callsR_run K.laws_markIntA2S rfl ?_
  have hl1 := h.lenV
  obtain ⟨h0, hh⟩ := h
  have hcase : ∀ N : Mem, (v = .nil ∧ n = 0) → SlF N v n (marks k (n * 2)) := fun N e => ⟨marks_len _ _, .inl e⟩
  simp (disch := omega) only [C.laws_markIntA2S, ↓SXd, SXu, slBounds, ↓sop, ↓aop, ↓reduceIte, LV.cells, AOp.dst, LV.I, LV.B, LV.U, LV.S, LV.nil, Nat.reduceEqDiff, Nat.reduceAdd, Nat.reduceMul, Nat.reduceSub, Nat.reduceLeDiff, Nat.reduceBEq, Nat.reduceDiv, Nat.reduceMod, Int.reduceToNat, Int.reduceLT, Int.reduceLE, Int.reduceAdd, Int.reduceSub, Int.reduceMul, Int.reduceEq, Int.reduceNeg, reduceCtorEq, resV, resAll, ARes.ev, LV.flat, ite_true, ite_false, exists_eq_left', exists_eq_left, keyOf, implies_true, fillC, capOf]
  refine ev_loop (fun m fr M' => ∃ i : Nat, i + m = n ∧ M'.length = M.length ∧ (∀ t, v = .ref t 0 n → Live M' t (.row (intL (marks k (i * 2) ++ Z.drop (i * 2))) true 2)) ∧ (∀ u, Off v u → M'[u]? = M[u]?) ∧ fr 0 = v ∧ fr 1 = .I (k + 2 * i) ∧ fr 5 = .I i) n
    ⟨0, by omega, rfl, fun t e => by
      rcases hh with ⟨rfl, _⟩ | ⟨t', rfl, h2⟩
      · cases e
      · cases e; simpa [marks] using h2, fun _ _ => rfl, rfl, by show LV.I _ = LV.I _; simp, rfl⟩ ?_
  rintro m fr M' ⟨i, hi, hML, hlive, hoff, f0, f1, f5⟩
  simp (disch := omega) only [f0, f1, f5, hl1, ↓SXd, SXu, slBounds, ↓sop, ↓aop, ↓reduceIte, LV.cells, AOp.dst, LV.I, LV.B, LV.U, LV.S, LV.nil, Nat.reduceEqDiff, Nat.reduceAdd, Nat.reduceMul, Nat.reduceSub, Nat.reduceLeDiff, Nat.reduceBEq, Nat.reduceDiv, Nat.reduceMod, Int.reduceToNat, Int.reduceLT, Int.reduceLE, Int.reduceAdd, Int.reduceSub, Int.reduceMul, Int.reduceEq, Int.reduceNeg, reduceCtorEq, resV, resAll, ARes.ev, LV.flat, ite_true, ite_false, exists_eq_left', exists_eq_left, keyOf, implies_true, fillC, capOf]
  refine condC_dec (fun hlt => ?_) (fun hlt => ?_)
  · have hil : i < n := by omega
    rcases hh with ⟨_, e⟩ | ⟨t, rfl, h2⟩
    · omega
    have hL := hlive t rfl
    simp (disch := omega) only [f0, f1, f5, ↓SXd, SXu, slBounds, ↓sop, ↓aop, ↓reduceIte, LV.cells, AOp.dst, LV.I, LV.B, LV.U, LV.S, LV.nil, Nat.reduceEqDiff, Nat.reduceAdd, Nat.reduceMul, Nat.reduceSub, Nat.reduceLeDiff, Nat.reduceBEq, Nat.reduceDiv, Nat.reduceMod, Int.reduceToNat, Int.reduceLT, Int.reduceLE, Int.reduceAdd, Int.reduceSub, Int.reduceMul, Int.reduceEq, Int.reduceNeg, reduceCtorEq, resV, resAll, ARes.ev, LV.flat, ite_true, ite_false, exists_eq_left', exists_eq_left, keyOf, implies_true, fillC, capOf]
    refine ev_loop (fun m2 fr2 M2 => ∃ j : Nat, j + m2 = 2 ∧ M2.length = M.length ∧ Live M2 t (.row (intL (marks k (i * 2 + j) ++ Z.drop (i * 2 + j))) true 2) ∧ (∀ u, Off (.ref t 0 n) u → M2[u]? = M[u]?) ∧ fr2 0 = .ref t 0 n ∧ fr2 1 = .I (k + 2 * i + j) ∧ fr2 5 = .I i ∧ fr2 6 = .I j) 2
      ⟨0, rfl, hML, by simpa using hL, hoff, f0, by show fr 1 = _; rw [f1]; simp, f5, rfl⟩ ?_
    rintro m2 fr2 M2 ⟨j, hj, hML2, hL2, hoff2, g0, g1, g5, g6⟩
    simp (disch := omega) only [g0, g1, g5, g6, ↓SXd, SXu, slBounds, ↓sop, ↓aop, ↓reduceIte, LV.cells, AOp.dst, LV.I, LV.B, LV.U, LV.S, LV.nil, Nat.reduceEqDiff, Nat.reduceAdd, Nat.reduceMul, Nat.reduceSub, Nat.reduceLeDiff, Nat.reduceBEq, Nat.reduceDiv, Nat.reduceMod, Int.reduceToNat, Int.reduceLT, Int.reduceLE, Int.reduceAdd, Int.reduceSub, Int.reduceMul, Int.reduceEq, Int.reduceNeg, reduceCtorEq, resV, resAll, ARes.ev, LV.flat, ite_true, ite_false, exists_eq_left', exists_eq_left, keyOf, implies_true, fillC, capOf]
    refine condC_dec (fun hlt2 => ?_) (fun hlt2 => ?_)
    · have hlen : (marks k (i * 2 + j) ++ Z.drop (i * 2 + j)).length = n * 2 := by
        rw [List.length_append, marks_len, List.length_drop]; omega
      have hjj : i * 2 + j < Z.length := by omega
      have hms := marks_step (k := k) (l := Z) hjj
      simp (disch := omega) only [g0, g1, g5, g6, Nat.zero_add, Nat.mul_one, ↓SXd, SXu, slBounds, ↓sop, ↓aop, ↓reduceIte, LV.cells, AOp.dst, LV.I, LV.B, LV.U, LV.S, LV.nil, Nat.reduceEqDiff, Nat.reduceAdd, Nat.reduceMul, Nat.reduceSub, Nat.reduceLeDiff, Nat.reduceBEq, Nat.reduceDiv, Nat.reduceMod, Int.reduceToNat, Int.reduceLT, Int.reduceLE, Int.reduceAdd, Int.reduceSub, Int.reduceMul, Int.reduceEq, Int.reduceNeg, reduceCtorEq, resV, resAll, ARes.ev, LV.flat, ite_true, ite_false, exists_eq_left', exists_eq_left, keyOf, implies_true, fillC, capOf]
      refine memK_one hL2 (by rw [intL_len]; omega) fun N q1 q2 q3 => ?_
      simp (disch := omega) only [g0, g1, g5, g6, ↓SXd, SXu, slBounds, ↓sop, ↓aop, ↓reduceIte, LV.cells, AOp.dst, LV.I, LV.B, LV.U, LV.S, LV.nil, Nat.reduceEqDiff, Nat.reduceAdd, Nat.reduceMul, Nat.reduceSub, Nat.reduceLeDiff, Nat.reduceBEq, Nat.reduceDiv, Nat.reduceMod, Int.reduceToNat, Int.reduceLT, Int.reduceLE, Int.reduceAdd, Int.reduceSub, Int.reduceMul, Int.reduceEq, Int.reduceNeg, reduceCtorEq, resV, resAll, ARes.ev, LV.flat, ite_true, ite_false, exists_eq_left', exists_eq_left, keyOf, implies_true, fillC, capOf]
      rw [show LV.val (Value.int IntKind.i64 (k + 2 * (i : Int) + (j : Int))) = LV.I (k + ((i * 2 + j : Nat) : Int)) from eqI (by omega), intL_set, hms] at q2
      refine ⟨m2 - 1, by omega, j + 1, by omega, by omega, q2, fun u hu => ?_, g0, eqI (by omega), g5, eqI (natI _)⟩
      rcases Nat.lt_or_ge u M2.length with h3 | h3
      · rw [q3 u hu h3]; exact hoff2 u hu
      · rw [List.getElem?_eq_none (by omega), List.getElem?_eq_none (by omega)]
    · have : j = 2 := by omega
      subst this
      simp (disch := omega) only [g0, g1, g5, g6, ↓SXd, SXu, slBounds, ↓sop, ↓aop, ↓reduceIte, LV.cells, AOp.dst, LV.I, LV.B, LV.U, LV.S, LV.nil, Nat.reduceEqDiff, Nat.reduceAdd, Nat.reduceMul, Nat.reduceSub, Nat.reduceLeDiff, Nat.reduceBEq, Nat.reduceDiv, Nat.reduceMod, Int.reduceToNat, Int.reduceLT, Int.reduceLE, Int.reduceAdd, Int.reduceSub, Int.reduceMul, Int.reduceEq, Int.reduceNeg, reduceCtorEq, resV, resAll, ARes.ev, LV.flat, ite_true, ite_false, exists_eq_left', exists_eq_left, keyOf, implies_true, fillC, capOf]
      exact ⟨m - 1, by omega, i + 1, by omega, hML2, fun t' e => by
        cases e
        rw [show (i + 1) * 2 = i * 2 + 2 by omega]; exact hL2, hoff2, g0, by show fr2 1 = _; rw [g1]; exact eqI (by omega), eqI (natI _)⟩
  · simp (disch := omega) only [f0, f1, f5, ↓SXd, SXu, slBounds, ↓sop, ↓aop, ↓reduceIte, LV.cells, AOp.dst, LV.I, LV.B, LV.U, LV.S, LV.nil, Nat.reduceEqDiff, Nat.reduceAdd, Nat.reduceMul, Nat.reduceSub, Nat.reduceLeDiff, Nat.reduceBEq, Nat.reduceDiv, Nat.reduceMod, Int.reduceToNat, Int.reduceLT, Int.reduceLE, Int.reduceAdd, Int.reduceSub, Int.reduceMul, Int.reduceEq, Int.reduceNeg, reduceCtorEq, resV, resAll, ARes.ev, LV.flat, ite_true, ite_false, exists_eq_left', exists_eq_left, keyOf, implies_true, fillC, capOf]
    have : i = n := by omega
    subst this
    refine ⟨rfl, ?_, hML, hoff⟩
    rcases hh with e | ⟨t, e, h2⟩
    · exact hcase _ e
    · refine ⟨marks_len _ _, .inr ⟨t, e, ?_⟩⟩
      have := hlive t e
      rwa [List.drop_eq_nil_of_le (by omega), List.append_nil] at this
theorem h_heldPairs {v : LV} {n : Nat} {k : Int} {M : Mem} (h : SlF M v n (marks k (n * 2))) (hn : n ≤ 1000000) (hk : 0 ≤ k ∧ k ≤ 100000000) : CallsTo PG F.laws_heldIntA2S [v, .I k] M (.I (k + 2 * n)) M := by
  refine calls_run K.laws_heldIntA2S rfl ?_
  have hl1 := h.lenV
  simp (disch := omega) only [C.laws_heldIntA2S, ↓SXd, SXu, slBounds, ↓sop, ↓aop, ↓reduceIte, LV.cells, AOp.dst, LV.I, LV.B, LV.U, LV.S, LV.nil, Nat.reduceEqDiff, Nat.reduceAdd, Nat.reduceMul, Nat.reduceSub, Nat.reduceLeDiff, Nat.reduceBEq, Nat.reduceDiv, Nat.reduceMod, Int.reduceToNat, Int.reduceLT, Int.reduceLE, Int.reduceAdd, Int.reduceSub, Int.reduceMul, Int.reduceEq, Int.reduceNeg, reduceCtorEq, resV, resAll, ARes.ev, LV.flat, ite_true, ite_false, exists_eq_left', exists_eq_left, keyOf, implies_true, fillC, capOf]
  refine ev_loop (fun m fr M' => ∃ i : Nat, i + m = n ∧ M' = M ∧ fr 0 = v ∧ fr 1 = .I (k + 2 * i) ∧ fr 5 = .I i) n
    ⟨0, by omega, rfl, rfl, by show LV.I _ = LV.I _; simp, rfl⟩ ?_
  rintro m fr M' ⟨i, hi, rfl, f0, f1, f5⟩
  simp (disch := omega) only [f0, f1, f5, hl1, ↓SXd, SXu, slBounds, ↓sop, ↓aop, ↓reduceIte, LV.cells, AOp.dst, LV.I, LV.B, LV.U, LV.S, LV.nil, Nat.reduceEqDiff, Nat.reduceAdd, Nat.reduceMul, Nat.reduceSub, Nat.reduceLeDiff, Nat.reduceBEq, Nat.reduceDiv, Nat.reduceMod, Int.reduceToNat, Int.reduceLT, Int.reduceLE, Int.reduceAdd, Int.reduceSub, Int.reduceMul, Int.reduceEq, Int.reduceNeg, reduceCtorEq, resV, resAll, ARes.ev, LV.flat, ite_true, ite_false, exists_eq_left', exists_eq_left, keyOf, implies_true, fillC, capOf]
  refine condC_dec (fun hlt => ?_) (fun hlt => ?_)
  · have hil : i < n := by omega
    obtain ⟨h0, h | ⟨t, rfl, h2⟩⟩ := h
    · omega
    simp (disch := omega) only [f0, f1, f5, ↓SXd, SXu, slBounds, ↓sop, ↓aop, ↓reduceIte, LV.cells, AOp.dst, LV.I, LV.B, LV.U, LV.S, LV.nil, Nat.reduceEqDiff, Nat.reduceAdd, Nat.reduceMul, Nat.reduceSub, Nat.reduceLeDiff, Nat.reduceBEq, Nat.reduceDiv, Nat.reduceMod, Int.reduceToNat, Int.reduceLT, Int.reduceLE, Int.reduceAdd, Int.reduceSub, Int.reduceMul, Int.reduceEq, Int.reduceNeg, reduceCtorEq, resV, resAll, ARes.ev, LV.flat, ite_true, ite_false, exists_eq_left', exists_eq_left, keyOf, implies_true, fillC, capOf]
    refine ev_loop (fun m2 fr2 M2 => ∃ j : Nat, j + m2 = 2 ∧ M2 = M' ∧ fr2 0 = .ref t 0 n ∧ fr2 1 = .I (k + 2 * i + j) ∧ fr2 5 = .I i ∧ fr2 6 = .I j) 2
      ⟨0, rfl, rfl, f0, by show fr 1 = _; rw [f1]; simp, f5, rfl⟩ ?_
    rintro m2 fr2 M2 ⟨j, hj, rfl, g0, g1, g5, g6⟩
    simp (disch := omega) only [g0, g1, g5, g6, ↓SXd, SXu, slBounds, ↓sop, ↓aop, ↓reduceIte, LV.cells, AOp.dst, LV.I, LV.B, LV.U, LV.S, LV.nil, Nat.reduceEqDiff, Nat.reduceAdd, Nat.reduceMul, Nat.reduceSub, Nat.reduceLeDiff, Nat.reduceBEq, Nat.reduceDiv, Nat.reduceMod, Int.reduceToNat, Int.reduceLT, Int.reduceLE, Int.reduceAdd, Int.reduceSub, Int.reduceMul, Int.reduceEq, Int.reduceNeg, reduceCtorEq, resV, resAll, ARes.ev, LV.flat, ite_true, ite_false, exists_eq_left', exists_eq_left, keyOf, implies_true, fillC, capOf]
    refine condC_dec (fun hlt2 => ?_) (fun hlt2 => ?_)
    · have hc := h2.cell (o := i * 2 + j)
      rw [intL_get (by rw [marks_len]; omega), marks_get (by omega)] at hc
      have heq : k + ((i * 2 + j : Nat) : Int) = k + 2 * (i : Int) + (j : Int) := by omega
      rw [heq] at hc
      simp (disch := omega) only [g0, g1, g5, g6, hc, Nat.zero_add, Nat.mul_one, ↓SXd, SXu, slBounds, ↓sop, ↓aop, ↓reduceIte, LV.cells, AOp.dst, LV.I, LV.B, LV.U, LV.S, LV.nil, Nat.reduceEqDiff, Nat.reduceAdd, Nat.reduceMul, Nat.reduceSub, Nat.reduceLeDiff, Nat.reduceBEq, Nat.reduceDiv, Nat.reduceMod, Int.reduceToNat, Int.reduceLT, Int.reduceLE, Int.reduceAdd, Int.reduceSub, Int.reduceMul, Int.reduceEq, Int.reduceNeg, reduceCtorEq, resV, resAll, ARes.ev, LV.flat, ite_true, ite_false, exists_eq_left', exists_eq_left, keyOf, implies_true, fillC, capOf]
      exact ⟨m2 - 1, by omega, j + 1, by omega, rfl, g0, eqI (by omega), g5, eqI (natI _)⟩
    · have : j = 2 := by omega
      subst this
      simp (disch := omega) only [g0, g1, g5, g6, ↓SXd, SXu, slBounds, ↓sop, ↓aop, ↓reduceIte, LV.cells, AOp.dst, LV.I, LV.B, LV.U, LV.S, LV.nil, Nat.reduceEqDiff, Nat.reduceAdd, Nat.reduceMul, Nat.reduceSub, Nat.reduceLeDiff, Nat.reduceBEq, Nat.reduceDiv, Nat.reduceMod, Int.reduceToNat, Int.reduceLT, Int.reduceLE, Int.reduceAdd, Int.reduceSub, Int.reduceMul, Int.reduceEq, Int.reduceNeg, reduceCtorEq, resV, resAll, ARes.ev, LV.flat, ite_true, ite_false, exists_eq_left', exists_eq_left, keyOf, implies_true, fillC, capOf]
      exact ⟨m - 1, by omega, i + 1, by omega, rfl, g0, by show fr2 1 = _; rw [g1]; exact eqI (by omega), eqI (natI _)⟩
  · simp (disch := omega) only [f0, f1, f5, ↓SXd, SXu, slBounds, ↓sop, ↓aop, ↓reduceIte, LV.cells, AOp.dst, LV.I, LV.B, LV.U, LV.S, LV.nil, Nat.reduceEqDiff, Nat.reduceAdd, Nat.reduceMul, Nat.reduceSub, Nat.reduceLeDiff, Nat.reduceBEq, Nat.reduceDiv, Nat.reduceMod, Int.reduceToNat, Int.reduceLT, Int.reduceLE, Int.reduceAdd, Int.reduceSub, Int.reduceMul, Int.reduceEq, Int.reduceNeg, reduceCtorEq, resV, resAll, ARes.ev, LV.flat, ite_true, ite_false, exists_eq_left', exists_eq_left, keyOf, implies_true, fillC, capOf]
    have : i = n := by omega
    subst this
    exact cmp_drop0 rfl
end Go.Ab

/- The abstract code of some functions (written by a program of mine from the translation, by way of prepF). -/
namespace Go.Ab.C
open Go.Ab
def laws_szIntA3SS : AFn :=
  ⟨2, 27, [.tmp 4],
    .seq (.ops [(none, .mv 4 (.c (.I 0)))])
    (.seq (.ops [(none, .mv 6 (.t 1)),
        (none, .mv 7 (.t 0)),
        (none, .len 8 (.t 7)),
        (none, .bin 9 .sub (.t 6) (.t 8)),
        (none, .mv 1 (.t 9))])
     (.seq (.seq (.ops [(none, .mv 10 (.t 1)),
          (none, .bin 11 .lss (.t 10) (.c (.I 0)))])
       (.cond (.t 11) (.seq (.ops [(none, .mv 4 (.c (.I (-1))))])
         (.ret))
        (.skip)))
      (.seq (.seq (.ops [(none, .mv 5 (.c (.I 0)))])
        (.block 0 (.loop (.seq (.seq (.ops [(none, .mv 12 (.t 5)),
               (none, .mv 13 (.t 0)),
               (none, .len 14 (.t 13)),
               (none, .bin 15 .lss (.t 12) (.t 14))])
            (.cond (.t 15) (.skip)
             (.exit 0)))
           (.seq (.block 1 (.seq (.ops [(none, .mv 18 (.t 0)),
                 (none, .mv 19 (.t 5)),
                 (none, .idxS 20 1 (.t 18) (.t 19)),
                 (none, .load1 21 (.t 20)),
                 (none, .mv 22 (.t 1)),
                 (none, .call (some 23) F.laws_szIntA3S [(.t 21), (.t 22)]),
                 (none, .mv 1 (.t 23))])
              (.seq (.ops [(none, .mv 24 (.t 1)),
                  (none, .bin 25 .lss (.t 24) (.c (.I 0)))])
               (.cond (.t 25) (.seq (.ops [(none, .mv 4 (.c (.I (-1))))])
                 (.ret))
                (.skip)))))
            (.ops [(none, .mv 16 (.t 5)),
               (none, .bin 17 .add (.t 16) (.c (.I 1))),
               (none, .mv 5 (.t 17))]))))))
       (.seq (.ops [(none, .mv 26 (.t 1)),
           (none, .mv 4 (.t 26))])
        (.ret)))))⟩
def laws_toIntA3SS : AFn :=
  ⟨1, 23, [.tmp 2],
    .seq (.ops [(none, .mv 2 (.c .nil))])
    (.seq (.ops [(none, .mv 5 (.t 0)),
        (none, .len 6 (.t 5)),
        (none, .mksl 7 1 24 [.nil] (.t 6) (.t 6)),
        (none, .mv 3 (.t 7))])
     (.seq (.seq (.ops [(none, .mv 4 (.c (.I 0)))])
       (.block 0 (.loop (.seq (.seq (.ops [(none, .mv 8 (.t 4)),
              (none, .mv 9 (.t 0)),
              (none, .len 10 (.t 9)),
              (none, .bin 11 .lss (.t 8) (.t 10))])
           (.cond (.t 11) (.skip)
            (.exit 0)))
          (.seq (.block 1 (.ops [(none, .mv 14 (.t 3)),
               (none, .mv 15 (.t 4)),
               (none, .mv 16 (.t 0)),
               (none, .mv 17 (.t 4)),
               (none, .idxS 18 1 (.t 16) (.t 17)),
               (none, .load1 19 (.t 18)),
               (none, .call (some 20) F.laws_toIntA3S [(.t 19)]),
               (none, .idxS 21 1 (.t 14) (.t 15)),
               (none, .store 1 (.t 21) (.t 20))]))
           (.ops [(none, .mv 12 (.t 4)),
              (none, .bin 13 .add (.t 12) (.c (.I 1))),
              (none, .mv 4 (.t 13))]))))))
      (.seq (.ops [(none, .mv 22 (.t 3)),
          (none, .mv 2 (.t 22))])
       (.ret))))⟩
end Go.Ab.C

/- That the program has this code. -/
namespace Go.Ab.K
open Go Go.Ab
theorem laws_szIntA3SS : prepF Go.Proofs.Try.prog F.laws_szIntA3SS = some C.laws_szIntA3SS := by kernel_rfl
theorem laws_toIntA3SS : prepF Go.Proofs.Try.prog F.laws_toIntA3SS = some C.laws_toIntA3SS := by kernel_rfl
end Go.Ab.K

/- From the abstract machine to a row: a law that is called with what came in. -/
namespace Go.Ab
open Go Go.RowKit

/-- A memory of which nothing is ours. -/
def NoOwn (M : Mem) : Prop := ∀ t b, Live M t b → b.isOwn = false

theorem law_callsR {P : Program} {f : FuncId} {args : List LV} {M : Mem} {b : Bool} {G : Gh} {w : World} {xs : List Value} (hc : CallsR P f args M fun v _ => v = .B b) (hi : Inv G M w) (hn : NoOwn M) (hx : All2 (VR G) args xs) :
    Calls P f xs.toArray w fun e w' => e = .returned (.bool b) ∧ Below w.heap.size w w' := by
  refine (hc.2 G w xs hi hx).mono ?_
  rintro e w' ⟨v, N, x, G', rfl, rfl, h1, h2, h3⟩
  refine ⟨by rw [(vr_val h1).1], h3.os, h3.tape, h3.output, h3.size, fun k hk => h3.keep k hk ?_⟩
  rintro ⟨t, blk, β, hl, ho, _⟩
  rw [hn t blk hl] at ho; cases ho
end Go.Ab

/- A heap that came in, opened. -/
namespace Go.Ab
open Go Go.RowKit

section
variable {H : Type} {enc : TypeId × Value → H} {P : Program} {w : World} {held : Bool}

/-- What the abstract machine is told of a slice of cells that came in. -/
def RowOf (w : World) (a : Option Addr) (len cap : Nat) (cs : List Cell) : Prop :=
  cs.length = len ∧ len ≤ cap ∧ cap ≤ maxLen ∧ (cap = 0 ∨ ∃ b o c e fz, a = some ⟨b, o, none⟩ ∧ w.heap[b]? = some (.cells c e fz) ∧ ∀ i, i < len → ∀ j v, (cs.getD i default).row[j]? = some (.I v) → c[o + (i * 3 + j)]? = some (.int .i64 v))

theorem cell_heap {a : Addr} {v : Value} (h : w.cell? a = some v) : ∃ b o c e fz, a = ⟨b, o, none⟩ ∧ w.heap[b]? = some (.cells c e fz) ∧ c[o]? = some v := by
  unfold World.cell? at h
  split at h
  · rename_i c e fz hh
    split at h
    · cases h
    · rename_i hs
      obtain ⟨b, o, s⟩ := a
      cases s with
      | some s => simp at hs
      | none => exact ⟨b, o, c, e, fz, rfl, hh, h⟩
  · cases h

theorem open_cells {ts ta ti : TypeId} {fuel : Nat} {cs : List Value} {x : DataW H × List MemPlace} (hts : P.underlying ts = some (.slice ta)) (hta : P.underlying ta = some (.array 3 ti)) (hti : P.underlying ti = some (.int .i64)) (hca : P.cellsOf ta = 3) (hci : P.cellsOf ti = 1)
    (h : DataW.trod enc P w 0 (fun _ => true) held fuel ts cs = some x) : ∃ a len cap ds, cs = [.slice a len cap] ∧ RowOf w a len cap ds := by
  rcases Go.Deep.open_slice hts h with ⟨rfl, _⟩ | ⟨a, len, cap, m, n, D, Pl, rfl, _, hl, hm, hme, _, hel⟩
  · exact ⟨none, 0, 0, [], rfl, rfl, Nat.le_refl _, Nat.zero_le _, .inl rfl⟩
  · have hmc : m = cap := by simpa using hme
    subst hmc
    have hel' : ∀ i, i < m → ∃ z : Cell, ∀ j v, z.row[j]? = some (.I v) → w.cell? (a.add (i * 3 + j)) = some (.int .i64 v) := fun i hi => by
      obtain ⟨cs', h1, h2⟩ := hel i hi
      rw [hca] at h1
      have r3 : List.range 3 = [0, 1, 2] := rfl
      simp only [World.cells?, Nat.zero_le, if_true, r3, List.mapM_cons, List.mapM_nil, Option.bind_eq_bind, Option.bind_eq_some_iff, Option.pure_def, Option.some.injEq] at h1
      obtain ⟨c0, e0, r, ⟨c1, e1, r', ⟨c2, e2, r'', rfl, rfl⟩, rfl⟩, rfl⟩ := h1
      obtain ⟨y0, y1, y2, n', _, k0, k1, k2⟩ := Go.ChangeShapes.trod_array3 hta hci h2
      obtain ⟨z0, q0, _, _⟩ := DataW.trod_int hti k0
      obtain ⟨z1, q1, _, _⟩ := DataW.trod_int hti k1
      obtain ⟨z2, q2, _, _⟩ := DataW.trod_int hti k2
      simp only [List.cons.injEq, and_true] at q0 q1 q2
      subst q0; subst q1; subst q2
      simp only [Go.Deep.add_add] at e0 e1 e2
      refine ⟨⟨z0, z1, z2⟩, fun j v hj => ?_⟩
      match j with
      | 0 => cases hj; exact e0
      | 1 => cases hj; exact e1
      | 2 => cases hj; exact e2
      | j + 3 => cases hj
    obtain ⟨f, hf⟩ : ∃ f : Nat → Cell, ∀ i, i < m → ∀ j v, (f i).row[j]? = some (.I v) → w.cell? (a.add (i * 3 + j)) = some (.int .i64 v) :=
      ⟨fun i => if h : i < m then Classical.choose (hel' i h) else default, fun i hi => by simp only [hi, dif_pos]; exact Classical.choose_spec (hel' i hi)⟩
    refine ⟨some a, len, m, (List.range len).map f, rfl, by simp, hl, hm, ?_⟩
    rcases Nat.eq_zero_or_pos m with h0 | h0
    · exact .inl h0
    · refine .inr ?_
      have hc0 := hf 0 h0 0 (f 0).a rfl
      obtain ⟨b, o, c, e, fz, ha, hh, _⟩ := cell_heap hc0
      have ha' : a = ⟨b, o, none⟩ := by simpa [Addr.add] using ha
      subst ha'
      refine ⟨b, o, c, e, fz, rfl, hh, fun i hi j v hj => ?_⟩
      have hg : ((List.range len).map f).getD i default = f i := by simp [hi]
      rw [hg] at hj
      have hcell := hf i (by omega) j v hj
      have hadd : (⟨b, o, none⟩ : Addr).add (i * 3 + j) = ⟨b, o + (i * 3 + j), none⟩ := addr_add _ _ _
      rw [hadd] at hcell
      unfold World.cell? at hcell
      simp only [hh] at hcell
      simpa using hcell
end

/-- A row that came in is laid into the abstract memory, to be read. -/
theorem Inv.addRow {G : Gh} {M : Mem} {w : World} (hi : Inv G M w) (hno : NoOwn M) {a : Option Addr} {len cap esz : Nat} {ls : List LV} (hl : len ≤ cap) (hll : ls.length ≤ cap * esz)
    (h : (cap = 0 ∧ ls = []) ∨ ∃ b o c e fz, a = some ⟨b, o, none⟩ ∧ w.heap[b]? = some (.cells c e fz) ∧ ∀ j l, ls[j]? = some l → ∃ x, c[o + j]? = some x ∧ VR1 G l x) :
    ∃ G', Ext G G' ∧ Inv G' (M ++ [some (.row ls false esz)]) w ∧ NoOwn (M ++ [some (.row ls false esz)]) ∧ VR1 G' (.ref M.length 0 len) (.slice a len cap) := by
  obtain ⟨β, hβ, hv⟩ : ∃ β : Base, (∀ G' : Gh, Ext G G' → EmbB G' w (.row ls false esz) β) ∧ (∀ G' : Gh, G' M.length = some β → VR1 G' (.ref M.length 0 len) (.slice a len cap)) := by
    rcases h with ⟨rfl, rfl⟩ | ⟨b, o, c, e, fz, rfl, hh, hc⟩
    · refine ⟨⟨0, 0, esz, 0, true⟩, fun G' _ => ⟨rfl, .inl ⟨rfl, rfl⟩⟩, fun G' hg => ⟨_, hg, a, 0, rfl, .inl ⟨by omega, rfl⟩⟩⟩
    · refine ⟨⟨b, o, esz, cap * esz, false⟩, fun G' hx => ⟨rfl, .inr ⟨rfl, c, e, fz, hh, (fun h => by cases h), hll, fun j l hj => ?_⟩⟩, fun G' hg => ⟨_, hg, _, cap, rfl, .inr ⟨rfl, rfl, hl, by simp⟩⟩⟩
      obtain ⟨x, h1, h2⟩ := hc j l hj
      exact ⟨x, h1, h2.ext hx⟩
  have hx : Ext G (G.put M.length β) := Gh.put_ext (hi.top _ (Nat.le_refl _))
  have hat : (G.put M.length β) M.length = some β := by simp [Gh.put]
  have hno' : NoOwn (M ++ [some (.row ls false esz)]) := fun t b hb => by
    rcases live_push hb with ⟨_, h1⟩ | ⟨_, rfl⟩
    · exact hno t b h1
    · rfl
  refine ⟨G.put M.length β, hx, ⟨fun t b hb => ?_, fun t t' b b' γ γ' _ hb _ ho => ?_, fun t ht => ?_⟩, hno', hv _ hat⟩
  · rcases live_push hb with ⟨hlt, h1⟩ | ⟨rfl, rfl⟩
    · obtain ⟨γ, hg, he⟩ := hi.emb t b h1
      exact ⟨γ, hx _ _ hg, he.ext hx fun _ => rfl⟩
    · exact ⟨β, hat, hβ _ hx⟩
  · rw [hno' t b hb] at ho; cases ho
  · simp at ht
    unfold Gh.put
    rw [if_neg (by omega)]
    exact hi.top t (by omega)

theorem Inv.none (w : World) : Inv (fun _ => Option.none) [] w := ⟨fun t b h => by unfold Live at h; simp at h, fun t t' b b' _ _ _ h => by unfold Live at h; simp at h, fun _ _ => rfl⟩
theorem NoOwn.none : NoOwn [] := fun t b h => by unfold Live at h; simp at h

theorem Inv.addCells {G : Gh} {M : Mem} {w : World} (hi : Inv G M w) (hno : NoOwn M) {a : Option Addr} {len cap : Nat} {cs : List Cell} (h : RowOf w a len cap cs) :
    ∃ G', Ext G G' ∧ Inv G' (M ++ [some (.row (triL cs) false 3)]) w ∧ NoOwn (M ++ [some (.row (triL cs) false 3)]) ∧ VR1 G' (.ref M.length 0 len) (.slice a len cap) := by
  obtain ⟨h1, h2, h3, h4⟩ := h
  refine hi.addRow hno h2 (by rw [triL_len]; omega) ?_
  rcases h4 with h0 | ⟨b, o, c, e, fz, ha, hh, hc⟩
  · refine .inl ⟨h0, ?_⟩
    have : cs = [] := List.eq_nil_of_length_eq_zero (by omega)
    rw [this]; rfl
  · refine .inr ⟨b, o, c, e, fz, ha, hh, fun j l hj => ?_⟩
    have hjl : j < cs.length * 3 := by
      rw [← triL_len]
      rcases Nat.lt_or_ge j (triL cs).length with h | h
      · exact h
      · rw [List.getElem?_eq_none h] at hj; cases hj
    have hat := triL_at (cs := cs) (k := j / 3) (by omega)
    have hrow : (cs.getD (j / 3) default).row[j % 3]? = some l := by
      rw [← hat, List.getElem?_take, if_pos (Nat.mod_lt _ (by omega)), List.getElem?_drop]
      rw [show j / 3 * 3 + j % 3 = j by omega]; exact hj
    have hI : ∃ v, l = .I v := by
      have hm : j % 3 < 3 := Nat.mod_lt _ (by omega)
      generalize j % 3 = r at hrow hm
      match r with
      | 0 => cases hrow; exact ⟨_, rfl⟩
      | 1 => cases hrow; exact ⟨_, rfl⟩
      | 2 => cases hrow; exact ⟨_, rfl⟩
    obtain ⟨v, rfl⟩ := hI
    refine ⟨.int .i64 v, ?_, rfl, rfl⟩
    have := hc (j / 3) (by omega) (j % 3) v hrow
    rwa [show j / 3 * 3 + j % 3 = j by omega] at this
end Go.Ab

/- A list of numbers that came in, opened. -/
namespace Go.Ab
open Go Go.RowKit Go.Joins Go.ChangeShapes Go.WideShapes Go.Deep Go.WideElems Go.Maps

/-- What the abstract machine is told of a slice of numbers that came in. -/
def RowOfI (w : World) (a : Option Addr) (len cap : Nat) (xs : List Int) : Prop :=
  xs.length = len ∧ len ≤ cap ∧ cap ≤ maxLen ∧ (cap = 0 ∨ ∃ b o c e fz, a = some ⟨b, o, none⟩ ∧ w.heap[b]? = some (.cells c e fz) ∧ ∀ i, i < len → c[o + i]? = some (.int .i64 (xs.getD i 0)))

section
variable {H : Type} {enc : TypeId × Value → H} {P : Program} {w : World} {held : Bool}
theorem open_intsI {ts ti : TypeId} {fuel : Nat} {cs : List Value} {x : DataW H × List MemPlace} (hts : P.underlying ts = some (.slice ti)) (hti : P.underlying ti = some (.int .i64)) (hci : P.cellsOf ti = 1)
    (h : DataW.trod enc P w 0 (fun _ => true) held fuel ts cs = some x) : ∃ a len cap xs, cs = [.slice a len cap] ∧ RowOfI w a len cap xs := by
  rcases Go.ChangeShapes.open_ints hts hti hci h with ⟨rfl, _⟩ | ⟨a, len, cap, zs, rfl, _, hl, hm, hz, _, hel, _⟩
  · exact ⟨none, 0, 0, [], rfl, rfl, Nat.le_refl _, Nat.zero_le _, .inl rfl⟩
  · have hzl : zs.length = cap := by simpa using hz
    refine ⟨some a, len, cap, zs.take len, rfl, by simp; omega, hl, hm, ?_⟩
    rcases Nat.eq_zero_or_pos cap with h0 | h0
    · exact .inl h0
    · refine .inr ?_
      have hc0 := hel 0 (by omega)
      obtain ⟨b, o, c, e, fz, ha, hh, _⟩ := cell_heap hc0
      have ha' : a = ⟨b, o, none⟩ := by simpa [Addr.add] using ha
      subst ha'
      refine ⟨b, o, c, e, fz, rfl, hh, fun i hi => ?_⟩
      have hcell := hel i (by omega)
      have hadd : (⟨b, o, none⟩ : Addr).add i = ⟨b, o + i, none⟩ := addr_add _ _ _
      rw [hadd] at hcell
      unfold World.cell? at hcell
      simp only [hh] at hcell
      have hg : (zs.take len).getD i 0 = zs.getD i 0 := by simp [List.getElem?_take, hi]
      rw [hg]
      simpa using hcell
end

theorem Inv.addInts {G : Gh} {M : Mem} {w : World} (hi : Inv G M w) (hno : NoOwn M) {a : Option Addr} {len cap : Nat} {xs : List Int} (h : RowOfI w a len cap xs) :
    ∃ G', Ext G G' ∧ Inv G' (M ++ [some (.row (intL xs) false 1)]) w ∧ NoOwn (M ++ [some (.row (intL xs) false 1)]) ∧ VR1 G' (.ref M.length 0 len) (.slice a len cap) := by
  obtain ⟨h1, h2, h3, h4⟩ := h
  refine hi.addRow hno h2 (by rw [intL_len]; omega) ?_
  rcases h4 with h0 | ⟨b, o, c, e, fz, ha, hh, hc⟩
  · refine .inl ⟨h0, ?_⟩
    have : xs = [] := List.eq_nil_of_length_eq_zero (by omega)
    rw [this]; rfl
  · refine .inr ⟨b, o, c, e, fz, ha, hh, fun j l hj => ?_⟩
    have hjl : j < xs.length := by
      rw [← intL_len]
      rcases Nat.lt_or_ge j (intL xs).length with h | h
      · exact h
      · rw [List.getElem?_eq_none h] at hj; cases hj
    rw [intL_get hjl] at hj
    cases hj
    exact ⟨_, hc j (by omega), rfl, rfl⟩

section
variable {H : Type} {enc : TypeId × Value → H} {P : Program} {w : World} {base : Nat} {spare : Nat → Bool} {held : Bool}
end
end Go.Ab

/- A list of lists of cells that came in, opened. -/
namespace Go.Ab
open Go Go.RowKit Go.Joins Go.ChangeShapes Go.WideShapes Go.Deep Go.WideElems Go.Maps
set_option linter.unusedVariables false

/-- Lists of cells in memory, to be read. -/
def Pcs (M : Mem) (t : Nat) (L : List (List Cell)) : Prop := ∃ refs, Has M t 0 refs ∧ refs.length = L.length ∧ ∀ i, i < L.length → ∃ u o, refs[i]? = some (.ref u o (L.getD i []).length) ∧ Tri M u o (L.getD i [])
theorem Pcs.pre {M N : Mem} {t : Nat} {L : List (List Cell)} (h : Pcs M t L) (hp : Pre M N) : Pcs N t L := by
  obtain ⟨refs, h1, h2, h3⟩ := h
  exact ⟨refs, h1.pre hp, h2, fun i hi => by obtain ⟨u, o, a, b⟩ := h3 i hi; exact ⟨u, o, a, b.pre hp⟩⟩
theorem Pcs.app {M K : Mem} {t : Nat} {L : List (List Cell)} (h : Pcs M t L) : Pcs (M ++ K) t L := h.pre (Pre.app _ _)
theorem Pcs.lt {M : Mem} {t : Nat} {L : List (List Cell)} (h : Pcs M t L) : t < M.length := by obtain ⟨refs, h1, _⟩ := h; exact h1.lt
theorem Pcs.get {M : Mem} {t i : Nat} {L : List (List Cell)} (h : Pcs M t L) (hi : i < L.length) : ∃ u o, getCell M t i = some (.ref u o (L.getD i []).length) ∧ Tri M u o (L.getD i []) := by
  obtain ⟨refs, h1, h2, h3⟩ := h
  obtain ⟨u, o, a, b⟩ := h3 i hi
  refine ⟨u, o, ?_, b⟩
  have := h1.get (k := i) (by omega)
  rw [Nat.zero_add] at this
  rw [this, a]

/-- What the abstract machine is told of a slice of slices of cells that came in. -/
def RowOfSS (w : World) (a : Option Addr) (len cap : Nat) (L : List (List Cell)) : Prop :=
  L.length = len ∧ len ≤ cap ∧ cap ≤ maxLen ∧ (cap = 0 ∨ ∃ b o c e fz, a = some ⟨b, o, none⟩ ∧ w.heap[b]? = some (.cells c e fz) ∧ ∀ i, i < len → ∃ a' len' cap', c[o + i]? = some (.slice a' len' cap') ∧ RowOf w a' len' cap' (L.getD i []))
section
variable {H : Type} {enc : TypeId × Value → H} {P : Program} {w : World} {held : Bool}
theorem open_cellsS {tss ts ta ti : TypeId} {fuel : Nat} {cs : List Value} {x : DataW H × List MemPlace} (htss : P.underlying tss = some (.slice ts)) (hts : P.underlying ts = some (.slice ta)) (hta : P.underlying ta = some (.array 3 ti)) (hti : P.underlying ti = some (.int .i64)) (hcs : P.cellsOf ts = 1) (hca : P.cellsOf ta = 3) (hci : P.cellsOf ti = 1)
    (h : DataW.trod enc P w 0 (fun _ => true) held fuel tss cs = some x) : ∃ a len cap L, cs = [.slice a len cap] ∧ RowOfSS w a len cap L := by
  rcases Go.Deep.open_slice1 htss hcs h with ⟨rfl, _⟩ | ⟨a, len, cap, m, n, V, D, Pl, rfl, _, hl, hm, hme, _, hel⟩
  · exact ⟨none, 0, 0, [], rfl, rfl, Nat.le_refl _, Nat.zero_le _, .inl rfl⟩
  · have hmc : m = cap := by simpa using hme
    subst hmc
    have hel' : ∀ i, i < m → ∃ ds : List Cell, ∃ a' len' cap', w.cell? (a.add i) = some (.slice a' len' cap') ∧ RowOf w a' len' cap' ds := fun i hi => by
      obtain ⟨h1, h2⟩ := hel i hi
      obtain ⟨a', len', cap', ds, h3, h4⟩ := open_cells hts hta hti hca hci h2
      simp only [List.cons.injEq, and_true] at h3
      exact ⟨ds, a', len', cap', by rw [h1, h3], h4⟩
    obtain ⟨f, hf⟩ : ∃ f : Nat → List Cell, ∀ i, i < m → ∃ a' len' cap', w.cell? (a.add i) = some (.slice a' len' cap') ∧ RowOf w a' len' cap' (f i) :=
      ⟨fun i => if h : i < m then Classical.choose (hel' i h) else [], fun i hi => by simp only [hi, dif_pos]; exact Classical.choose_spec (hel' i hi)⟩
    refine ⟨some a, len, m, (List.range len).map f, rfl, by simp, hl, hm, ?_⟩
    rcases Nat.eq_zero_or_pos m with h0 | h0
    · exact .inl h0
    · refine .inr ?_
      obtain ⟨_, _, _, hc0, _⟩ := hf 0 h0
      obtain ⟨b, o, c, e, fz, ha, hh, _⟩ := cell_heap hc0
      have ha' : a = ⟨b, o, none⟩ := by simpa [Addr.add] using ha
      subst ha'
      refine ⟨b, o, c, e, fz, rfl, hh, fun i hi => ?_⟩
      obtain ⟨a', len', cap', h1, h2⟩ := hf i (by omega)
      have hg : ((List.range len).map f).getD i [] = f i := by simp [hi]
      rw [hg]
      refine ⟨a', len', cap', ?_, h2⟩
      have hadd : (⟨b, o, none⟩ : Addr).add i = ⟨b, o + i, none⟩ := addr_add _ _ _
      rw [hadd] at h1
      unfold World.cell? at h1
      simp only [hh] at h1
      simpa using h1
end
/-- Many rows of cells are laid into memory. -/
theorem Inv.addMany {w : World} : ∀ (subs : List (Option Addr × Nat × Nat × List Cell)) {G : Gh} {M : Mem}, Inv G M w → NoOwn M → (∀ s ∈ subs, RowOf w s.1 s.2.1 s.2.2.1 s.2.2.2) →
    ∃ (G' : Gh) (N : Mem) (us : List Nat), Ext G G' ∧ Inv G' N w ∧ NoOwn N ∧ Pre M N ∧ us.length = subs.length ∧ ∀ i, i < subs.length → ∃ u s, us[i]? = some u ∧ subs[i]? = some s ∧ VR1 G' (.ref u 0 s.2.1) (.slice s.1 s.2.1 s.2.2.1) ∧ Tri N u 0 s.2.2.2
  | [], G, M, hi, hno, _ => ⟨G, M, [], fun _ _ h => h, hi, hno, Pre.refl _, rfl, by simp⟩
  | s :: subs, G, M, hi, hno, h => by
    obtain ⟨G1, hx1, hi1, hno1, hv1⟩ := hi.addCells hno (h s (by simp))
    obtain ⟨G2, N, us, hx2, hi2, hno2, hp2, hl2, hu2⟩ := Inv.addMany subs hi1 hno1 fun s' hs' => h s' (by simp [hs'])
    refine ⟨G2, N, M.length :: us, fun t b hb => hx2 t b (hx1 t b hb), hi2, hno2, (Pre.app _ _).trans hp2, by simp [hl2], fun i hil => ?_⟩
    cases i with
    | zero => exact ⟨M.length, s, rfl, rfl, hv1.ext hx2, Has.new.pre hp2⟩
    | succ i =>
      obtain ⟨u, s', h1, h2, h3, h4⟩ := hu2 i (by simpa using hil)
      exact ⟨u, s', by simpa using h1, by simpa using h2, h3, h4⟩
theorem Inv.addSS {G : Gh} {M : Mem} {w : World} (hi : Inv G M w) (hno : NoOwn M) {a : Option Addr} {len cap : Nat} {L : List (List Cell)} (h : RowOfSS w a len cap L) :
    ∃ (G' : Gh) (N : Mem) (t : Nat), Ext G G' ∧ Inv G' N w ∧ NoOwn N ∧ Pre M N ∧ VR1 G' (.ref t 0 len) (.slice a len cap) ∧ Pcs N t L ∧ L.length = len := by
  obtain ⟨h1, h2, h3, h4⟩ := h
  obtain ⟨subs, hsl, hsub⟩ : ∃ subs : List (Option Addr × Nat × Nat × List Cell), subs.length = L.length ∧ (cap = 0 ∧ L = [] ∨ ∃ b o c e fz, a = some ⟨b, o, Option.none⟩ ∧ w.heap[b]? = some (.cells c e fz) ∧ ∀ i, i < len → ∃ s, subs[i]? = some s ∧ c[o + i]? = some (.slice s.1 s.2.1 s.2.2.1) ∧ RowOf w s.1 s.2.1 s.2.2.1 s.2.2.2 ∧ s.2.2.2 = L.getD i []) := by
    rcases h4 with h0 | ⟨b, o, c, e, fz, ha, hh, hc⟩
    · have : L = [] := List.eq_nil_of_length_eq_zero (by omega)
      exact ⟨[], by rw [this]; rfl, .inl ⟨h0, this⟩⟩
    · have hc' : ∀ i, i < len → ∃ s : Option Addr × Nat × Nat × List Cell, c[o + i]? = some (.slice s.1 s.2.1 s.2.2.1) ∧ RowOf w s.1 s.2.1 s.2.2.1 s.2.2.2 ∧ s.2.2.2 = L.getD i [] := fun i hi => by
        obtain ⟨a', l', c', e1, e2⟩ := hc i hi
        exact ⟨(a', l', c', L.getD i []), e1, e2, rfl⟩
      refine ⟨(List.range len).map fun i => if h : i < len then Classical.choose (hc' i h) else (Option.none, 0, 0, []), by simp [h1], .inr ⟨b, o, c, e, fz, ha, hh, fun i hi => ⟨Classical.choose (hc' i hi), by simp [hi], Classical.choose_spec (hc' i hi)⟩⟩⟩
  have hall : ∀ s ∈ subs, RowOf w s.1 s.2.1 s.2.2.1 s.2.2.2 := fun s hs => by
    obtain ⟨i, hil, e⟩ := List.getElem_of_mem hs
    rcases hsub with ⟨_, h0⟩ | ⟨b, o, c, e', fz, _, _, hc⟩
    · rw [h0] at hsl; simp at hsl; rw [hsl] at hil; simp at hil
    · obtain ⟨s', e1, _, e2, _⟩ := hc i (by omega)
      have : s' = s := by rw [List.getElem?_eq_getElem hil, e] at e1; cases e1; rfl
      rw [← this]; exact e2
  obtain ⟨G1, N1, us, hx1, hi1, hno1, hp1, hl1, hu1⟩ := Inv.addMany subs hi hno hall
  have hget : ∀ i, i < subs.length → ∃ u s, us[i]? = some u ∧ subs[i]? = some s ∧ VR1 G1 (.ref u 0 s.2.1) (.slice s.1 s.2.1 s.2.2.1) ∧ Tri N1 u 0 s.2.2.2 ∧ s.2.2.2 = L.getD i [] ∧ s.2.2.2.length = s.2.1 := fun i hil => by
    obtain ⟨u, s, e1, e2, e3, e4⟩ := hu1 i hil
    have hm := hall s (List.mem_of_getElem? e2)
    refine ⟨u, s, e1, e2, e3, e4, ?_, hm.1⟩
    rcases hsub with ⟨_, h0⟩ | ⟨b, o, c, e', fz, _, _, hc⟩
    · rw [h0] at hsl; simp at hsl; rw [hsl] at hil; simp at hil
    · obtain ⟨s', q1, _, _, q2⟩ := hc i (by omega)
      rw [e2] at q1; cases q1; exact q2
  obtain ⟨G2, hx2, hi2, hno2, hv2⟩ := hi1.addRow hno1 (a := a) (len := len) (cap := cap) (esz := 1) (ls := (List.range subs.length).map fun i => LV.ref (us.getD i 0) 0 (L.getD i []).length) h2 (by simp; omega) (by
    rcases hsub with ⟨h0, hL⟩ | ⟨b, o, c, e', fz, ha, hh, hc⟩
    · refine .inl ⟨h0, ?_⟩
      rw [hsl, hL]; rfl
    · refine .inr ⟨b, o, c, e', fz, ha, hh, fun j l hj => ?_⟩
      have hjl : j < subs.length := by
        rcases Nat.lt_or_ge j subs.length with h | h
        · exact h
        · rw [List.getElem?_eq_none (by simpa using h)] at hj; cases hj
      obtain ⟨u, s, e1, e2, e3, e4, e5, e6⟩ := hget j hjl
      obtain ⟨s', q1, q2, _, _⟩ := hc j (by omega)
      rw [e2] at q1; cases q1
      simp only [List.getElem?_map, List.getElem?_range hjl, Option.map_some, Option.some.injEq] at hj
      subst hj
      refine ⟨_, q2, ?_⟩
      rw [List.getD_eq_getElem?_getD, e1, ← e5, e6]; exact e3)
  refine ⟨G2, _, N1.length, fun t b hb => hx2 t b (hx1 t b hb), hi2, hno2, hp1.trans (Pre.app _ _), hv2, ⟨_, Has.new, by simp [hsl], fun i hil => ?_⟩, h1⟩
  obtain ⟨u, s, e1, e2, e3, e4, e5, e6⟩ := hget i (by omega)
  refine ⟨us.getD i 0, 0, by simp [show i < subs.length by omega], ?_⟩
  rw [List.getD_eq_getElem?_getD, e1, ← e5]
  exact Has.app e4
end Go.Ab
namespace Go.Ab
open Go
set_option linter.unusedVariables false
theorem Inv.addCells' {G : Gh} {M : Mem} {w : World} (hi : Inv G M w) (hno : NoOwn M) {a : Option Addr} {len cap : Nat} {cs : List Cell} (h : RowOf w a len cap cs) :
    ∃ (G' : Gh) (N : Mem) (t : Nat), Ext G G' ∧ Inv G' N w ∧ NoOwn N ∧ Pre M N ∧ VR1 G' (.ref t 0 len) (.slice a len cap) ∧ Tri N t 0 cs := by
  obtain ⟨G', h1, h2, h3, h4⟩ := hi.addCells hno h
  exact ⟨G', _, _, h1, h2, h3, Pre.app _ _, h4, Has.new⟩
theorem Inv.addInts' {G : Gh} {M : Mem} {w : World} (hi : Inv G M w) (hno : NoOwn M) {a : Option Addr} {len cap : Nat} {xs : List Int} (h : RowOfI w a len cap xs) :
    ∃ (G' : Gh) (N : Mem) (t : Nat), Ext G G' ∧ Inv G' N w ∧ NoOwn N ∧ Pre M N ∧ VR1 G' (.ref t 0 len) (.slice a len cap) ∧ Ints N t 0 xs := by
  obtain ⟨G', h1, h2, h3, h4⟩ := hi.addInts hno h
  exact ⟨G', _, _, h1, h2, h3, Pre.app _ _, h4, Has.new⟩
theorem Inv.addSS' {G : Gh} {M : Mem} {w : World} (hi : Inv G M w) (hno : NoOwn M) {a : Option Addr} {len cap : Nat} {L : List (List Cell)} (h : RowOfSS w a len cap L) :
    ∃ (G' : Gh) (N : Mem) (t : Nat), Ext G G' ∧ Inv G' N w ∧ NoOwn N ∧ Pre M N ∧ VR1 G' (.ref t 0 len) (.slice a len cap) ∧ Pcs N t L := by
  obtain ⟨G', N, t, h1, h2, h3, h4, h5, h6, _⟩ := hi.addSS hno h
  exact ⟨G', N, t, h1, h2, h3, h4, h5, h6⟩
theorem max63 : maxLen ≤ 9223372036854775807 := by unfold maxLen; omega
theorem RowOf.le {w : World} {a : Option Addr} {len cap : Nat} {cs : List Cell} (h : RowOf w a len cap cs) : cs.length ≤ 9223372036854775807 := by
  obtain ⟨h0, h1, h2, _⟩ := h
  have := max63; omega
theorem RowOfI.le {w : World} {a : Option Addr} {len cap : Nat} {cs : List Int} (h : RowOfI w a len cap cs) : cs.length ≤ 9223372036854775807 := by
  obtain ⟨h0, h1, h2, _⟩ := h
  have := max63; omega
theorem RowOfSS.le {w : World} {a : Option Addr} {len cap : Nat} {L : List (List Cell)} (h : RowOfSS w a len cap L) : L.length ≤ 9223372036854775807 ∧ ∀ l ∈ L, l.length ≤ 9223372036854775807 := by
  obtain ⟨h0, h1, h2, h3⟩ := h
  have := max63
  refine ⟨by omega, fun l hl => ?_⟩
  obtain ⟨i, hi, rfl⟩ := List.getElem_of_mem hl
  rcases h3 with h3 | ⟨b, o, c, e, fz, _, _, h3⟩
  · omega
  · obtain ⟨a', l', c', _, h4⟩ := h3 i (by omega)
    have := h4.le
    simpa [hi] using this
end Go.Ab

/- The abstract code of some functions (written by a program of mine from the translation, by way of prepF). -/
namespace Go.Ab.C
open Go.Ab
def laws_eqIntA3SS : AFn :=
  ⟨2, 27, [.tmp 4],
    .seq (.ops [(none, .mv 4 (.c (.B false)))])
    (.seq (.seq (.ops [(none, .mv 6 (.t 0)),
         (none, .len 7 (.t 6)),
         (none, .mv 8 (.t 1)),
         (none, .len 9 (.t 8)),
         (none, .bin 10 .neq (.t 7) (.t 9))])
      (.cond (.t 10) (.seq (.ops [(none, .mv 4 (.c (.B false)))])
        (.ret))
       (.skip)))
     (.seq (.seq (.ops [(none, .mv 5 (.c (.I 0)))])
       (.block 0 (.loop (.seq (.seq (.ops [(none, .mv 11 (.t 5)),
              (none, .mv 12 (.t 0)),
              (none, .len 13 (.t 12)),
              (none, .bin 14 .lss (.t 11) (.t 13))])
           (.cond (.t 14) (.skip)
            (.exit 0)))
          (.seq (.block 1 (.seq (.draw [⟨(none, .mv 17 (.t 0)), [], []⟩,
                ⟨(none, .mv 18 (.t 5)), [], []⟩,
                ⟨(none, .idxS 19 1 (.t 17) (.t 18)), [], []⟩,
                ⟨(none, .load1 20 (.t 19)), [], []⟩,
                ⟨(none, .mv 21 (.t 1)), [], []⟩,
                ⟨(none, .mv 22 (.t 5)), [], []⟩,
                ⟨(none, .idxS 23 1 (.t 21) (.t 22)), [], []⟩,
                ⟨(none, .load1 24 (.t 23)), [], []⟩,
                ⟨(none, .call (some 25) F.laws_eqIntA3S [(.t 20), (.t 24)]), [], []⟩,
                ⟨(none, .un 26 .not (.t 25)), [], []⟩])
             (.cond (.t 26) (.seq (.ops [(none, .mv 4 (.c (.B false)))])
               (.ret))
              (.skip))))
           (.ops [(none, .mv 15 (.t 5)),
              (none, .bin 16 .add (.t 15) (.c (.I 1))),
              (none, .mv 5 (.t 16))]))))))
      (.seq (.ops [(none, .mv 4 (.c (.B true)))])
       (.ret))))⟩
def laws_markIntA3SS : AFn :=
  ⟨2, 19, [.tmp 4],
    .seq (.ops [(none, .mv 4 (.c (.I 0)))])
    (.seq (.seq (.ops [(none, .mv 5 (.c (.I 0)))])
      (.block 0 (.loop (.seq (.seq (.ops [(none, .mv 6 (.t 5)),
             (none, .mv 7 (.t 0)),
             (none, .len 8 (.t 7)),
             (none, .bin 9 .lss (.t 6) (.t 8))])
          (.cond (.t 9) (.skip)
           (.exit 0)))
         (.seq (.block 1 (.ops [(none, .mv 12 (.t 0)),
              (none, .mv 13 (.t 5)),
              (none, .idxS 14 1 (.t 12) (.t 13)),
              (none, .load1 15 (.t 14)),
              (none, .mv 16 (.t 1)),
              (none, .call (some 17) F.laws_markIntA3S [(.t 15), (.t 16)]),
              (none, .mv 1 (.t 17))]))
          (.ops [(none, .mv 10 (.t 5)),
             (none, .bin 11 .add (.t 10) (.c (.I 1))),
             (none, .mv 5 (.t 11))]))))))
     (.seq (.ops [(none, .mv 18 (.t 1)),
         (none, .mv 4 (.t 18))])
      (.ret)))⟩
end Go.Ab.C

/- That the program has this code. -/
namespace Go.Ab.K
open Go Go.Ab
theorem laws_eqIntA3SS : prepF Go.Proofs.Try.prog F.laws_eqIntA3SS = some C.laws_eqIntA3SS := by kernel_rfl
theorem laws_markIntA3SS : prepF Go.Proofs.Try.prog F.laws_markIntA3SS = some C.laws_markIntA3SS := by kernel_rfl
end Go.Ab.K

/- The abstract code of some functions (written by a program of mine from the translation, by way of prepF). -/
namespace Go.Ab.C
open Go.Ab
end Go.Ab.C

/- That the program has this code. -/
namespace Go.Ab.K
open Go Go.Ab
end Go.Ab.K

/- Contracts: marks that are held, on lists of cells and on heaps. -/
namespace Go.Ab
open Go
set_option linter.unusedSimpArgs false
set_option linter.unusedVariables false

end Go.Ab
