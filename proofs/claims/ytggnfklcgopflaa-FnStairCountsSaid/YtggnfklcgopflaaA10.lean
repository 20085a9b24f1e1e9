/- Parts of the proof of FnStairCountsSaid: Be Ke Kg C_Kf K_Kf C_Xe K_Xe Xd Xe Kf C_Kh K_Kh C_Xi K_Xi C_Xh K_Xh C_Xg K_Xg C_Xf K_Xf C_Xc K_Xc Xc Xf Xg Xh C_Jq K_Jq Jq Xi. -/
import Derived.Test.YtggnfklcgopflaaA9
import Derived.Test.YtggnfklcgopflaaA4
import Derived.Test.YtggnfklcgopflaaA7
import Derived.Test.YtggnfklcgopflaaA8
import Derived.Test.YtggnfklcgopflaaA3
import Derived.Test.YtggnfklcgopflaaProg
import Derived.KernelRfl
import Derived.Test.YtggnfklcgopflaaA6
set_option linter.all false
/- Plain: stacks have their heights as view from above and as heights of columns. -/
namespace Go.Ab
open Go
set_option linter.unusedSimpArgs false
set_option linter.unusedVariables false
set_option maxRecDepth 20000

theorem tops_le {y : Int} {j : Nat} {n : Int} : ∀ {cs : List Cell} {v : List Int}, (∀ c ∈ cs, (c.a * y + c.b).toNat < v.length) → ((cs.foldl (topStep y) v).getD j 0 ≤ n ↔ v.getD j 0 ≤ n ∧ ∀ c ∈ cs, (c.a * y + c.b).toNat = j → c.c + 1 ≤ n)
  | [], v, _ => by simp
  | c :: cs, v, h => by
    have hc := h c (by simp)
    rw [List.foldl_cons, tops_le (fun e he => by unfold topStep; rw [List.length_set]; exact h e (by simp [he]))]
    have hg : (topStep y v c).getD j 0 = if (c.a * y + c.b).toNat = j then max (v.getD j 0) (c.c + 1) else v.getD j 0 := by
      unfold topStep
      rw [List.getD_eq_getElem?_getD, List.getElem?_set]
      by_cases e : (c.a * y + c.b).toNat = j
      · subst e; simp [hc]
      · simp [e]
    rw [hg]
    constructor
    · rintro ⟨h1, h2⟩
      by_cases e : (c.a * y + c.b).toNat = j
      · rw [if_pos e] at h1
        exact ⟨by omega, fun d hd hdj => (List.mem_cons.1 hd).elim (fun e2 => by subst e2; omega) fun hd => h2 d hd hdj⟩
      · rw [if_neg e] at h1
        exact ⟨h1, fun d hd hdj => (List.mem_cons.1 hd).elim (fun e2 => by subst e2; exact (e hdj).elim) fun hd => h2 d hd hdj⟩
    · rintro ⟨h1, h2⟩
      refine ⟨?_, fun d hd hdj => h2 d (by simp [hd]) hdj⟩
      by_cases e : (c.a * y + c.b).toNat = j
      · rw [if_pos e]
        have := h2 c (by simp) e
        omega
      · rw [if_neg e]; exact h1
section
variable {x y z : Int} {hs : List Int} (h : StkOK x y z hs)
include h
theorem stack_len : hs.length = (x * y).toNat := by
  have := prod_le h.1
  have := h.2.1
  omega
theorem col_stackH {j : Nat} (hj : j < (x * y).toNat) : (colN x y z j (stackP y hs) : Int) = hs.getD j 0 := by
  have hS := h.1
  have hb := h.2.2 j (by rw [stack_len h]; exact hj)
  obtain ⟨d, hd, rfl⟩ := col_at hS hj
  have e : colN x y z (d.a * y + d.b).toNat (stackP y hs) = (colL d.a d.b (hs.getD (d.a * y + d.b).toNat 0).toNat).length := by
    unfold colN
    refine same_len (pick_ok hS _).nodup colL_nodup fun c => ?_
    rw [mem_pick hS, mem_colL]
    constructor
    · rintro ⟨h1, h2⟩
      rw [Bool.and_eq_true] at h2
      obtain ⟨h3, h4⟩ := (line_cell hS h1 hd).1 h2.2
      have h5 := of_decide_eq_true h2.1
      rw [h3, h4] at h5
      exact ⟨h3, h4, h1.2.2.1, by omega⟩
    · rintro ⟨h1, h2, h3, h4⟩
      have hin : c.inBox x y z := by
        obtain ⟨k1, k2, k3⟩ := hd
        rw [← h1] at k1
        rw [← h2] at k2
        exact ⟨k1, k2, h3, by omega⟩
      refine ⟨hin, ?_⟩
      rw [Bool.and_eq_true]
      refine ⟨?_, (line_cell hS hin hd).2 ⟨h1, h2⟩⟩
      unfold stackP
      rw [decide_eq_true_iff, h1, h2]
      omega
  rw [e, colL_len]
  omega
theorem view_stackH : viewL x y z 2 (pick x y z (stackP y hs)) = hs := by
  refine int_ext (by rw [viewL_len, stack_len h]; rfl) fun j hj => ?_
  rw [viewL_len] at hj
  rw [view_get hj]
  exact col_stackH h hj
theorem tops_stackH : topsOf x y (pick x y z (stackP y hs)) = hs := by
  have hS := h.1
  have hin : ∀ c ∈ pick x y z (stackP y hs), (c.a * y + c.b).toNat < (List.replicate (x * y).toNat (0 : Int)).length := fun c hc => by
    rw [List.length_replicate]
    exact col_lt hS ((mem_pick hS).1 hc).1
  have hz : ∀ j, (List.replicate (x * y).toNat (0 : Int)).getD j 0 = 0 := fun j => by
    rw [List.getD_eq_getElem?_getD, List.getElem?_replicate]; split <;> simp
  refine int_ext (by rw [topsOf_len, stack_len h]) fun j hj => ?_
  rw [topsOf_len] at hj
  have hb := h.2.2 j (by rw [stack_len h]; exact hj)
  unfold topsOf
  refine Int.le_antisymm ((tops_le hin).2 ⟨by rw [hz]; exact hb.1, fun c hc hcj => ?_⟩) ?_
  · have := of_decide_eq_true ((mem_pick hS).1 hc).2
    rw [hcj] at this
    omega
  · obtain ⟨q1, q2⟩ := (tops_le (j := j) (n := ((pick x y z (stackP y hs)).foldl (topStep y) (List.replicate (x * y).toNat 0)).getD j 0) hin).1 (Int.le_refl _)
    rw [hz] at q1
    by_cases h0 : hs.getD j 0 = 0
    · omega
    obtain ⟨d, hd, rfl⟩ := col_at hS hj
    obtain ⟨k1, k2, k3⟩ := hd
    have := q2 ⟨d.a, d.b, hs.getD (d.a * y + d.b).toNat 0 - 1⟩ ((mem_pick hS).2 ⟨⟨k1, k2, by simp only; omega⟩, decide_eq_true (by simp only; omega)⟩) rfl
    simp only at this
    omega
end
end Go.Ab

/- The rank of a staircase: plain, reference, program. -/
namespace Go.Ab
open Go
set_option linter.unusedSimpArgs false
set_option linter.unusedVariables false
set_option maxRecDepth 20000

section
variable {x y z : Int} {cs : List Cell} (hV : HeapOK x y z cs ∧ StairP x y z fun c => decide (c ∈ cs))
include hV
theorem stair_filled : Filled1 x y z fun c => decide (c ∈ cs) := fun c hc hp h0 => hV.2 c hc hp _ (down_in hV.1.1 hc h0) (by unfold down undC; simp only; omega)
theorem stair_stack : pick x y z (stackP y (viewL x y z 2 cs)) = cs := by
  conv => rhs; rw [hV.1.pick]
  refine pick_congr hV.1.1 fun c hc => ?_
  have := filled_stack hV.1.1 (stair_filled hV) hc
  rwa [← hV.1.pick] at this
theorem stair_stk : StkOK x y z (viewL x y z 2 cs) := by
  have hS := hV.1.1
  refine ⟨hS, view_bound hV.1, fun i hi => ?_⟩
  rw [viewL_len] at hi
  have h1 := view_get (x := x) (y := y) (z := z) (p := fun c => decide (c ∈ cs)) hi
  rw [← hV.1.pick] at h1
  have h2 := col_le hS (p := fun c => decide (c ∈ cs)) hi
  rw [h1]
  omega
theorem stair_tops : topsOf x y cs = viewL x y z 2 cs := by
  have := tops_stackH (stair_stk hV)
  rwa [stair_stack hV] at this
/-- A cell of the staircase by the heights. -/
theorem stair_cell {c : Cell} (hc : c.inBox x y z) : c ∈ cs ↔ c.c < (viewL x y z 2 cs).getD (c.a * y + c.b).toNat 0 := by
  have := filled_stack hV.1.1 (stair_filled hV) hc
  rw [← hV.1.pick] at this
  unfold stackP at this
  rw [Bool.eq_iff_iff, decide_eq_true_iff, decide_eq_true_iff] at this
  exact this.symm
end
theorem mostS_iff {y : Nat} {z : Int} {l : List Int} {h : Int} : h ≤ mostS y z l ↔ h ≤ z ∧ (y ≤ l.length → h ≤ l.getD (l.length - y) 0) ∧ (0 < l.length % y → h ≤ l.getD (l.length - 1) 0) := by
  unfold mostS
  by_cases h1 : 0 < l.length % y
  · rw [if_pos h1]
    by_cases h2 : y ≤ l.length
    · rw [if_pos h2]
      constructor
      · intro h; exact ⟨by omega, fun _ => by omega, fun _ => by omega⟩
      · rintro ⟨k1, k2, k3⟩; have := k2 h2; have := k3 h1; omega
    · rw [if_neg h2]
      constructor
      · intro h; exact ⟨by omega, fun e => absurd e h2, fun _ => by omega⟩
      · rintro ⟨k1, k2, k3⟩; have := k3 h1; omega
  · rw [if_neg h1]
    by_cases h2 : y ≤ l.length
    · rw [if_pos h2]
      constructor
      · intro h; exact ⟨by omega, fun _ => by omega, fun e => absurd e h1⟩
      · rintro ⟨k1, k2, k3⟩; have := k2 h2; omega
    · rw [if_neg h2]
      exact ⟨fun h => ⟨h, fun e => absurd e h2, fun e => absurd e h1⟩, fun h => h.1⟩
/-- Heights that do not rise, row by row and column by column. -/
def MonS (y : Nat) (z : Int) (n : Nat) (hs : List Int) : Prop := hs.length = n ∧ ∀ i, i < n → (0 ≤ hs.getD i 0 ∧ hs.getD i 0 ≤ z) ∧ (y ≤ i → hs.getD i 0 ≤ hs.getD (i - y) 0) ∧ (0 < i % y → hs.getD i 0 ≤ hs.getD (i - 1) 0)
theorem take_getD' {l : List Int} {i j : Nat} (h : j < i) : (l.take i).getD j 0 = l.getD j 0 := by
  simp only [List.getD_eq_getElem?_getD]; rw [List.getElem?_take, if_pos h]
theorem mem_allS {y : Nat} {z : Int} (hy : 0 < y) {n : Nat} {hs : List Int} : hs ∈ allS y z n [] ↔ MonS y z n hs := by
  rw [allS_mem]
  have key : ∀ {s : List Int} {i : Nat}, s.length = n → i < n → (s.getD i 0 ≤ mostS y z ([] ++ s.take i) ↔ s.getD i 0 ≤ z ∧ (y ≤ i → s.getD i 0 ≤ s.getD (i - y) 0) ∧ (0 < i % y → s.getD i 0 ≤ s.getD (i - 1) 0)) := fun {s i} hl hi => by
    have htl : (s.take i).length = i := by simp; omega
    rw [List.nil_append, mostS_iff, htl]
    constructor
    · rintro ⟨h1, h2, h3⟩
      refine ⟨h1, fun h => ?_, fun h => ?_⟩
      · have := h2 h; rwa [take_getD' (by omega)] at this
      · have h0 : 0 < i := by
          rcases Nat.eq_zero_or_pos i with e | e
          · subst e; rw [Nat.zero_mod] at h; omega
          · exact e
        have := h3 h; rwa [take_getD' (by omega)] at this
    · rintro ⟨h1, h2, h3⟩
      refine ⟨h1, fun h => ?_, fun h => ?_⟩
      · rw [take_getD' (by omega)]; exact h2 h
      · have h0 : 0 < i := by
          rcases Nat.eq_zero_or_pos i with e | e
          · subst e; rw [Nat.zero_mod] at h; omega
          · exact e
        rw [take_getD' (by omega)]; exact h3 h
  constructor
  · rintro ⟨s, h1, h2, h3⟩
    rw [List.nil_append] at h1
    subst h1
    refine ⟨h2, fun i hi => ?_⟩
    obtain ⟨q1, q2⟩ := h3 i hi
    obtain ⟨q3, q4⟩ := (key h2 hi).1 q2
    exact ⟨⟨q1, q3⟩, q4⟩
  · rintro ⟨h1, h2⟩
    refine ⟨hs, rfl, h1, fun i hi => ?_⟩
    obtain ⟨q1, q2⟩ := h2 i hi
    exact ⟨q1.1, (key h1 hi).2 ⟨q1.2, q2⟩⟩
theorem cell_of {x y z : Int} (hS : Sides x y z) {i : Nat} (hi : i < x.toNat * y.toNat) {k : Int} (hk : 0 ≤ k ∧ k < z) : (⟨(i / y.toNat : Nat), (i % y.toNat : Nat), k⟩ : Cell).inBox x y z ∧ (((i / y.toNat : Nat) : Int) * y + ((i % y.toNat : Nat) : Int)).toNat = i := by
  obtain ⟨e1, e2, e3, h1, h2, h3⟩ := sidesN hS
  have hy : 0 < y.toNat := by omega
  generalize y.toNat = Y at *
  have hm := Nat.mod_lt i hy
  have hd : i / Y < x.toNat := Nat.div_lt_of_lt_mul (by rw [Nat.mul_comm]; exact hi)
  have he := Nat.div_add_mod i Y
  generalize i / Y = q at *
  generalize i % Y = r at *
  subst e2
  refine ⟨⟨⟨by simp only; omega, by simp only; omega⟩, ⟨by simp only; omega, by simp only; omega⟩, by simp only; omega, by simp only; omega⟩, ?_⟩
  rw [← Int.natCast_mul, ← Int.natCast_add, Int.toNat_natCast, Nat.mul_comm]
  exact he
theorem stair_mem {x y z : Int} {cs : List Cell} (hV : HeapOK x y z cs ∧ StairP x y z fun c => decide (c ∈ cs)) : viewL x y z 2 cs ∈ stairsOf x y z := by
  have hS := hV.1.1
  obtain ⟨e1, e2, e3, h1, h2, h3⟩ := sidesN hS
  have hl := view_bound hV.1
  have hk := stair_stk hV
  have hn : (viewL x y z 2 cs).length = x.toNat * y.toNat := by
    have : ((x.toNat * y.toNat : Nat) : Int) = x * y := by rw [Int.natCast_mul, e1, e2]
    omega
  unfold stairsOf
  rw [mem_allS (by omega)]
  refine ⟨hn, fun i hi => ?_⟩
  have hb := hk.2.2 i (by omega)
  generalize hH : viewL x y z 2 cs = H at hn hb
  have hcell := fun (c : Cell) (hc : c.inBox x y z) => stair_cell hV hc
  rw [hH] at hcell
  refine ⟨hb, fun hyi => ?_, fun hm => ?_⟩
  · apply Int.not_lt.1
    intro hlt
    have hb2 := hk.2.2 (i - y.toNat) (by rw [viewL_len, show (linesOf x y z 2).toNat = (x * y).toNat from rfl]; have := viewL_len (x := x) (y := y) (z := z) (d := 2) (cs := cs); rw [hH, show (linesOf x y z 2).toNat = (x * y).toNat from rfl] at this; omega)
    rw [hH] at hb2
    obtain ⟨c1, c2⟩ := cell_of hS hi (k := H.getD (i - y.toNat) 0) (by omega)
    obtain ⟨d1, d2⟩ := cell_of hS (i := i - y.toNat) (by omega) (k := H.getD (i - y.toNat) 0) (by omega)
    have m1 := (hcell _ c1).2 (by simp only; rw [c2]; exact hlt)
    have hdv : (i - y.toNat) / y.toNat ≤ i / y.toNat := Nat.div_le_div_right (by omega)
    have hmo : (i - y.toNat) % y.toNat = i % y.toNat := by
      conv => rhs; rw [show i = (i - y.toNat) + y.toNat by omega, Nat.add_mod_right]
    have m2 := hV.2 _ c1 (decide_eq_true m1) _ d1 ⟨by simp only; omega, by simp only; omega, by simp only; omega⟩
    have := (hcell _ d1).1 (of_decide_eq_true m2)
    simp only at this
    rw [d2] at this
    omega
  · have h0 : 0 < i := by
      rcases Nat.eq_zero_or_pos i with e | e
      · subst e; rw [Nat.zero_mod] at hm; omega
      · exact e
    apply Int.not_lt.1
    intro hlt
    have hb2 := hk.2.2 (i - 1) (by have := hn; rw [← hH] at this; omega)
    rw [hH] at hb2
    obtain ⟨c1, c2⟩ := cell_of hS hi (k := H.getD (i - 1) 0) (by omega)
    obtain ⟨d1, d2⟩ := cell_of hS (i := i - 1) (by omega) (k := H.getD (i - 1) 0) (by omega)
    have m1 := (hcell _ c1).2 (by simp only; rw [c2]; exact hlt)
    have hdm : (i - 1) / y.toNat ≤ i / y.toNat := Nat.div_le_div_right (by omega)
    have hmo : (i - 1) % y.toNat ≤ i % y.toNat := by
      have q1 := Nat.div_add_mod i y.toNat
      have q2 : i - 1 = y.toNat * (i / y.toNat) + (i % y.toNat - 1) := by omega
      have q3 := Nat.mod_lt i (show 0 < y.toNat by omega)
      rw [q2, Nat.mul_add_mod, Nat.mod_eq_of_lt (by omega)]
      omega
    have m2 := hV.2 _ c1 (decide_eq_true m1) _ d1 ⟨by simp only; omega, by simp only; omega, by simp only; omega⟩
    have := (hcell _ d1).1 (of_decide_eq_true m2)
    simp only at this
    rw [d2] at this
    omega
end Go.Ab

/- Plain words: the list of all staircases: each one is a staircase, in rising order, as many as the quotient tells. -/
namespace Go.Ab
open Go
set_option linter.unusedSimpArgs false
set_option linter.unusedVariables false
set_option maxRecDepth 20000

/-- The first number in which two lists differ is less. -/
def LessI (a b : List Int) : Prop := ∃ k, k < a.length ∧ k < b.length ∧ a.getD k 0 < b.getD k 0 ∧ ∀ j, j < k → a.getD j 0 = b.getD j 0
theorem lessI_ne {a b : List Int} (h : LessI a b) : a ≠ b := by
  rintro rfl
  obtain ⟨k, _, _, h3, _⟩ := h
  omega
theorem getD_app_l {l s : List Int} {i : Nat} (h : i < l.length) : (l ++ s).getD i 0 = l.getD i 0 := by
  simp only [List.getD_eq_getElem?_getD]; rw [List.getElem?_append_left h]
theorem getD_app_at {l s : List Int} {a : Int} : (l ++ a :: s).getD l.length 0 = a := by
  simp only [List.getD_eq_getElem?_getD]; rw [List.getElem?_append_right (Nat.le_refl _)]; simp
theorem pair_flat {α : Type} {R : α → α → Prop} {f : Nat → List α} : ∀ {n : Nat}, (∀ i, i < n → (f i).Pairwise R) → (∀ i j, i < j → j < n → ∀ a ∈ f i, ∀ b ∈ f j, R a b) → ((List.range n).flatMap f).Pairwise R
  | 0, _, _ => by simp
  | n + 1, h1, h2 => by
    rw [List.range_succ, List.flatMap_append, List.pairwise_append]
    refine ⟨pair_flat (fun i hi => h1 i (by omega)) fun i j hij hj => h2 i j hij (by omega), by simpa using h1 n (by omega), fun a ha b hb => ?_⟩
    obtain ⟨i, hi, ha⟩ := List.mem_flatMap.1 ha
    rw [List.mem_range] at hi
    simp at hb
    exact h2 i n hi (by omega) a ha b hb
theorem allS_sorted {y : Nat} {z : Int} : ∀ {n : Nat} {l : List Int}, (allS y z n l).Pairwise LessI
  | 0, l => by simp [allS]
  | n + 1, l => by
    unfold allS
    refine pair_flat (fun i _ => allS_sorted) fun i j hij _ a ha b hb => ?_
    obtain ⟨s, rfl, _⟩ := allS_mem.1 ha
    obtain ⟨s', rfl, _⟩ := allS_mem.1 hb
    rw [List.append_assoc, List.append_assoc]
    refine ⟨l.length, by simp, by simp, ?_, fun k hk => ?_⟩
    · rw [List.singleton_append, List.singleton_append, getD_app_at, getD_app_at]; omega
    · rw [getD_app_l hk, getD_app_l hk]
theorem pair_get {L : List (List Int)} {R : List Int → List Int → Prop} (h : L.Pairwise R) {i j : Nat} (hij : i < j) (hj : j < L.length) : R (L.getD i []) (L.getD j []) := by
  rw [List.pairwise_iff_getElem] at h
  have := h i j (by omega) hj hij
  simpa [show i < L.length by omega, hj] using this
theorem sorted_idx {L : List (List Int)} (h : L.Pairwise LessI) {i : Nat} (hi : i < L.length) : L.findIdx (fun l => decide (l = L.getD i [])) = i := by
  have hg : ∀ {j : Nat} (hj : j < L.length), L.getD j [] = L[j] := fun hj => by simp [hj]
  rcases Nat.lt_trichotomy (L.findIdx fun l => decide (l = L.getD i [])) i with h' | h' | h'
  · have h1 : L.findIdx (fun l => decide (l = L.getD i [])) < L.length := by omega
    have h2 := List.findIdx_getElem (w := h1)
    rw [decide_eq_true_iff] at h2
    have h3 := lessI_ne (pair_get h h' hi)
    rw [hg h1] at h3
    exact absurd h2 h3
  · exact h'
  · have h1 := List.not_of_lt_findIdx h'
    rw [← hg hi] at h1
    simp at h1
theorem stairs_stair {x y z : Int} (hS : Sides x y z) {hs : List Int} (h : hs ∈ stairsOf x y z) : StkOK x y z hs ∧ HeapOK x y z (pick x y z (stackP y hs)) ∧ (StairP x y z fun c => decide (c ∈ pick x y z (stackP y hs))) ∧ viewL x y z 2 (pick x y z (stackP y hs)) = hs := by
  obtain ⟨e1, e2, e3, h1, h2, h3⟩ := sidesN hS
  unfold stairsOf at h
  rw [mem_allS (by omega)] at h
  obtain ⟨hl, hm⟩ := h
  have hxy : ((x.toNat * y.toNat : Nat) : Int) = x * y := by rw [Int.natCast_mul, e1, e2]
  have hk : StkOK x y z hs := ⟨hS, by omega, fun k hk => (hm k (by omega)).1⟩
  refine ⟨hk, pick_ok hS _, ?_, view_stackH hk⟩
  rw [show StairP x y z (fun c => decide (c ∈ pick x y z (stackP y hs))) ↔ StairP x y z (stackP y hs) from stairP_congr fun c hc => by
    rw [Bool.eq_iff_iff, decide_eq_true_iff, mem_pick hS]; exact ⟨fun h => h.2, fun h => ⟨hc, h⟩⟩]
  rw [stair_step]
  intro c hc hp k hk3 h0
  unfold stackP at hp ⊢
  rw [decide_eq_true_iff] at hp ⊢
  have hcl := col_lt hS hc
  obtain ⟨⟨a1, a2⟩, ⟨b1, b2⟩, c1, c2⟩ := hc
  obtain ⟨A, hA⟩ : ∃ A : Nat, c.a = A := ⟨c.a.toNat, by omega⟩
  obtain ⟨B, hB⟩ : ∃ B : Nat, c.b = B := ⟨c.b.toNat, by omega⟩
  generalize y.toNat = Y at *
  subst e2
  have hi : (c.a * (Y : Int) + c.b).toNat = A * Y + B := by rw [hA, hB, ← Int.natCast_mul, ← Int.natCast_add, Int.toNat_natCast]
  have hBY : B < Y := by omega
  have hin : A * Y + B < x.toNat * Y := by
    rw [hi] at hcl
    rw [← hxy, Int.toNat_natCast] at hcl
    exact hcl
  obtain ⟨q1, q2, q3⟩ := hm (A * Y + B) hin
  rw [hi] at hp
  rcases (show k = 0 ∨ k = 1 ∨ k = 2 by omega) with rfl | rfl | rfl
  · have hA0 : 1 ≤ A := by
      have : (0 : Int) ≤ c.a - 1 := h0
      omega
    obtain ⟨A', rfl⟩ : ∃ A', A = A' + 1 := ⟨A - 1, by omega⟩
    have hj : ((decC c 0).a * (Y : Int) + (decC c 0).b).toNat = A' * Y + B := by
      show ((c.a - 1) * (Y : Int) + c.b).toNat = _
      rw [hA, hB, show (((A' + 1 : Nat) : Int) - 1) = (A' : Int) by omega, ← Int.natCast_mul, ← Int.natCast_add, Int.toNat_natCast]
    have hsub : (A' + 1) * Y + B - Y = A' * Y + B := by rw [Nat.add_mul]; omega
    have := q2 (by rw [Nat.add_mul]; omega)
    rw [hsub] at this
    rw [hj]
    show c.c < _
    omega
  · have hB0 : 1 ≤ B := by
      have : (0 : Int) ≤ c.b - 1 := h0
      omega
    have hj : ((decC c 1).a * (Y : Int) + (decC c 1).b).toNat = A * Y + B - 1 := by
      show (c.a * (Y : Int) + (c.b - 1)).toNat = _
      rw [hA, hB, show (((B : Nat) : Int) - 1) = ((B - 1 : Nat) : Int) by omega, ← Int.natCast_mul, ← Int.natCast_add, Int.toNat_natCast]
      omega
    have hmod : (A * Y + B) % Y = B := by rw [Nat.mul_comm, Nat.mul_add_mod, Nat.mod_eq_of_lt hBY]
    have := q3 (by omega)
    rw [hj]
    show c.c < _
    omega
  · have hj : ((decC c 2).a * (Y : Int) + (decC c 2).b).toNat = A * Y + B := hi
    rw [hj]
    show c.c - 1 < _
    omega
/-- The number of rest lists, without making them. -/
def cntL (y : Nat) (z : Int) : Nat → List Int → Nat
  | 0, _ => 1
  | n + 1, l => ((List.range (mostS y z l + 1).toNat).map fun (h : Nat) => cntL y z n (l ++ [(h : Int)])).sum
theorem cntL_len {y : Nat} {z : Int} : ∀ {n : Nat} {l : List Int}, (allS y z n l).length = cntL y z n l
  | 0, _ => rfl
  | n + 1, l => by
    unfold allS cntL
    rw [List.length_flatMap]
    congr 1
    refine List.map_congr_left fun h _ => cntL_len
theorem few_dec : ((List.range 4).all fun x => (List.range 4).all fun y => (List.range 4).all fun z => decide (1000 < cntSP (x + 1) (y + 1) (z + 1)) || (cntL (y + 1) ((z + 1 : Nat) : Int) ((x + 1) * (y + 1)) [] == cntSP (x + 1) (y + 1) (z + 1))) = true := by decide +kernel
theorem sym_dec : ((List.range 5).all fun x => (List.range 5).all fun y => (List.range 5).all fun z => cntSP z x y == cntSP x y z) = true := by decide +kernel
end Go.Ab

/- The abstract code of some functions (written by a program of mine from the translation, by way of prepF). -/
namespace Go.Ab.C
open Go.Ab
def impl_RankStair : AFn :=
 ⟨1, 22, [.tmp 2, .tmp 3],
 .seq (.ops [(none, .box 1 (.t 0)),
 (none, .mv 2 (.c (.I 0))),
 (none, .mv 3 (.c (.B false)))])
 (.seq (.ops [(none, .loadN 7 4 (.t 1)),
 (none, .call (some 8) F.impl_Heap_box [(.t 7)]),
 (none, .call (some 9) F.impl_box_stairs [(.t 8)]),
 (none, .mv 6 (.t 9)),
 (none, .extract 10 (.t 6) 0),
 (none, .extract 11 (.t 6) 1),
 (none, .mv 4 (.t 10)),
 (none, .mv 5 (.t 11))])
 (.seq (.seq (.ops [(none, .mv 12 (.t 5)),
 (none, .un 13 .not (.t 12)),
 (none, .mv 14 (.t 13)),
 (some (14, false), .loadN 15 4 (.t 1)),
 (some (14, false), .call (some 16) F.impl_isStair [(.t 15)]),
 (some (14, false), .un 17 .not (.t 16)),
 (none, .pick 18 (.t 14) (.c (.B true)) (.t 17))])
 (.cond (.t 18) (.seq (.ops [(none, .mv 2 (.c (.I 0))),
 (none, .mv 3 (.c (.B false)))])
 (.ret))
 (.skip)))
 (.seq (.ops [(none, .mv 19 (.t 4)),
 (none, .mkf 20 F.impl_RankStair_1 [(.t 1)]),
 (none, .call (some 21) F.slices_IndexFunc_SSint_Sint [(.t 19), (.t 20)]),
 (none, .mv 2 (.t 21)),
 (none, .mv 3 (.c (.B true)))])
 (.ret))))⟩
def impl_RankStair_1 : AFn :=
 ⟨2, 8, [.tmp 3],
 .seq (.ops [(none, .mv 3 (.c (.B false)))])
 (.seq (.ops [(none, .mv 4 (.t 0)),
 (none, .loadN 5 4 (.t 1)),
 (none, .call (some 6) F.impl_Heap_heights [(.t 5)]),
 (none, .call (some 7) F.slices_Equal_Sint_int [(.t 4), (.t 6)]),
 (none, .mv 3 (.t 7))])
 (.ret))⟩
def slices_IndexFunc_SSint_Sint : AFn :=
 ⟨2, 19, [.tmp 4],
 .seq (.ops [(none, .mv 4 (.c (.I 0)))])
 (.seq (.seq (.ops [(none, .mv 6 (.t 0)),
 (none, .len 7 (.t 6)),
 (none, .mv 8 (.c (.I 0)))])
 (.block 0 (.loop (.seq (.ops [(none, .bin 9 .lss (.t 8) (.t 7))])
 (.seq (.cond (.t 9) (.skip)
 (.exit 0))
 (.seq (.block 1 (.seq (.ops [(none, .mv 10 (.t 8)),
 (none, .mv 5 (.t 10))])
 (.seq (.ops [(none, .mv 11 (.t 1)),
 (none, .mv 12 (.t 0)),
 (none, .mv 13 (.t 5)),
 (none, .idxS 14 1 (.t 12) (.t 13)),
 (none, .load1 15 (.t 14)),
 (none, .callV (some 16) (.t 11) [(.t 15)])])
 (.cond (.t 16) (.seq (.ops [(none, .mv 17 (.t 5)),
 (none, .mv 4 (.t 17))])
 (.ret))
 (.skip)))))
 (.ops [(none, .bin 18 .add (.t 8) (.c (.I 1))),
 (none, .mv 8 (.t 18))])))))))
 (.seq (.ops [(none, .mv 4 (.c (.I (-1))))])
 (.ret)))⟩
end Go.Ab.C

/- That the program has this code. -/
namespace Go.Ab.K
open Go Go.Ab
theorem impl_RankStair : prepF Go.Proofs.Try.prog F.impl_RankStair = some C.impl_RankStair := by kernel_rfl
theorem impl_RankStair_1 : prepF Go.Proofs.Try.prog F.impl_RankStair_1 = some C.impl_RankStair_1 := by kernel_rfl
theorem slices_IndexFunc_SSint_Sint : prepF Go.Proofs.Try.prog F.slices_IndexFunc_SSint_Sint = some C.slices_IndexFunc_SSint_Sint := by kernel_rfl
end Go.Ab.K

/- The abstract code of some functions (written by a program of mine from the translation, by way of prepF). -/
namespace Go.Ab.C
open Go.Ab
def spec_l5Stair : AFn :=
 ⟨1, 37, [.tmp 2],
 .seq (.ops [(none, .box 1 (.t 0)),
 (none, .mv 2 (.c (.B false)))])
 (.seq (.seq (.ops [(none, .mv 3 (.c (.I 0)))])
 (.block 0 (.loop (.seq (.seq (.ops [(none, .mv 6 (.t 3)),
 (none, .fieldAddr 7 (.t 1) 3),
 (none, .load1 8 (.t 7)),
 (none, .len 9 (.t 8)),
 (none, .bin 10 .lss (.t 6) (.t 9))])
 (.cond (.t 10) (.skip)
 (.exit 0)))
 (.seq (.block 1 (.seq (.ops [(none, .mv 4 (.c (.I 0)))])
 (.block 2 (.loop (.seq (.seq (.ops [(none, .mv 13 (.t 4)),
 (none, .bin 14 .lss (.t 13) (.c (.I 3)))])
 (.cond (.t 14) (.skip)
 (.exit 2)))
 (.seq (.block 3 (.seq (.ops [(none, .fieldAddr 17 (.t 1) 3),
 (none, .load1 18 (.t 17)),
 (none, .mv 19 (.t 3)),
 (none, .idxS 20 3 (.t 18) (.t 19)),
 (none, .loadN 21 3 (.t 20)),
 (none, .alloc 5 [(.I 0), (.I 0), (.I 0)]),
 (none, .store 3 (.t 5) (.t 21))])
 (.seq (.ops [(none, .mv 22 (.t 4)),
 (none, .idxA 23 3 1 (.t 5) (.t 22)),
 (none, .load1 24 (.t 23)),
 (none, .bin 25 .sub (.t 24) (.c (.I 1))),
 (none, .idxA 26 3 1 (.t 5) (.t 22)),
 (none, .store 1 (.t 26) (.t 25))])
 (.seq (.ops [(none, .mv 27 (.t 4)),
 (none, .idxA 28 3 1 (.t 5) (.t 27)),
 (none, .load1 29 (.t 28)),
 (none, .bin 30 .geq (.t 29) (.c (.I 0))),
 (none, .mv 31 (.t 30)),
 (some (31, true), .loadN 32 4 (.t 1)),
 (some (31, true), .loadN 33 3 (.t 5)),
 (some (31, true), .call (some 34) F.spec_l2Has [(.t 32), (.t 33)]),
 (some (31, true), .un 35 .not (.t 34)),
 (none, .pick 36 (.t 31) (.t 35) (.c (.B false)))])
 (.cond (.t 36) (.seq (.ops [(none, .mv 2 (.c (.B false)))])
 (.ret))
 (.skip))))))
 (.ops [(none, .mv 15 (.t 4)),
 (none, .bin 16 .add (.t 15) (.c (.I 1))),
 (none, .mv 4 (.t 16))])))))))
 (.ops [(none, .mv 11 (.t 3)),
 (none, .bin 12 .add (.t 11) (.c (.I 1))),
 (none, .mv 3 (.t 12))]))))))
 (.seq (.ops [(none, .mv 2 (.c (.B true)))])
 (.ret)))⟩
end Go.Ab.C

/- That the program has this code. -/
namespace Go.Ab.K
open Go Go.Ab
theorem spec_l5Stair : prepF Go.Proofs.Try.prog F.spec_l5Stair = some C.spec_l5Stair := by kernel_rfl
end Go.Ab.K

/- Plain words: the least staircase with all cubes of a set, the greatest one within it, hollows. -/
namespace Go.Ab
open Go
set_option linter.unusedSimpArgs false
set_option linter.unusedVariables false

/-- All cells below a cell of a set. -/
noncomputable def dnB (x y z : Int) (p : Cell → Bool) (d : Cell) : Bool := (pick x y z p).any fun c => decide (undC d c)
theorem undC_refl (c : Cell) : undC c c := ⟨Int.le_refl _, Int.le_refl _, Int.le_refl _⟩
theorem undC_trans {a b c : Cell} (h : undC a b) (k : undC b c) : undC a c := ⟨Int.le_trans h.1 k.1, Int.le_trans h.2.1 k.2.1, Int.le_trans h.2.2 k.2.2⟩
theorem decC_und (c : Cell) (k : Nat) : undC (decC c k) c := by
  unfold undC decC
  refine ⟨?_, ?_, ?_⟩ <;> simp only <;> split <;> omega
theorem decC_box {x y z : Int} {c : Cell} {k : Nat} (hc : c.inBox x y z) (hk : k < 3) (h0 : 0 ≤ (decC c k).at (k : Int)) : (decC c k).inBox x y z := by
  obtain ⟨⟨_, _⟩, ⟨_, _⟩, _, _⟩ := hc
  rcases (show k = 0 ∨ k = 1 ∨ k = 2 by omega) with rfl | rfl | rfl <;> simp [decC, Cell.at] at h0 ⊢ <;> unfold Cell.inBox <;> simp <;> omega
/-- The cells of a set all of whose cells below are in the set. -/
noncomputable def upB (x y z : Int) (p : Cell → Bool) (c : Cell) : Bool := (cellsOf x y z).all fun d => !decide (undC d c) || p d
/-- A cell with which the set is still a staircase. -/
noncomputable def hollC (x y z : Int) (p : Cell → Bool) (c : Cell) : Bool := !p c && decide (StairP x y z fun d => p d || decide (d = c))
section
variable {x y z : Int} (hS : Sides x y z)
include hS
theorem dn_iff {p : Cell → Bool} {d : Cell} : dnB x y z p d = true ↔ ∃ c, c.inBox x y z ∧ p c = true ∧ undC d c := by
  unfold dnB
  rw [List.any_eq_true]
  constructor
  · rintro ⟨c, hc, h⟩
    exact ⟨c, ((mem_pick hS).1 hc).1, ((mem_pick hS).1 hc).2, of_decide_eq_true h⟩
  · rintro ⟨c, h1, h2, h3⟩
    exact ⟨c, (mem_pick hS).2 ⟨h1, h2⟩, decide_eq_true h3⟩
theorem dn_self {p : Cell → Bool} {d : Cell} (hd : d.inBox x y z) (h : p d = true) : dnB x y z p d = true := (dn_iff hS).2 ⟨d, hd, h, undC_refl d⟩
theorem dn_stair {p : Cell → Bool} : StairP x y z (dnB x y z p) := fun c _ hp d _ hl => by
  obtain ⟨e, h1, h2, h3⟩ := (dn_iff hS).1 hp
  exact (dn_iff hS).2 ⟨e, h1, h2, undC_trans hl h3⟩
theorem dn_least {p q : Cell → Bool} (hq : StairP x y z q) (h : ∀ c, c.inBox x y z → p c = true → q c = true) {d : Cell} (hd : d.inBox x y z) (k : dnB x y z p d = true) : q d = true := by
  obtain ⟨e, h1, h2, h3⟩ := (dn_iff hS).1 k
  exact hq e h1 (h e h1 h2) d hd h3
theorem dn_dec {p : Cell → Bool} {c : Cell} {k : Nat} (h : dnB x y z p c = true) : dnB x y z p (decC c k) = true := by
  obtain ⟨e, h1, h2, h3⟩ := (dn_iff hS).1 h
  exact (dn_iff hS).2 ⟨e, h1, h2, undC_trans (decC_und c k) h3⟩
theorem up_iff {p : Cell → Bool} {c : Cell} : upB x y z p c = true ↔ ∀ d, d.inBox x y z → undC d c → p d = true := by
  unfold upB
  rw [List.all_eq_true]
  constructor
  · intro h d hd hl
    have := h d ((mem_cellsOf hS).2 hd)
    rw [decide_eq_true hl] at this
    simpa using this
  · intro h d hd
    by_cases hl : undC d c
    · rw [h d ((mem_cellsOf hS).1 hd) hl]; simp
    · simp [hl]
theorem up_stair {p : Cell → Bool} : StairP x y z (upB x y z p) := fun c _ hp d _ hl => (up_iff hS).2 fun e he hle => (up_iff hS).1 hp e he (undC_trans hle hl)
theorem up_sub {p : Cell → Bool} {c : Cell} (hc : c.inBox x y z) (h : upB x y z p c = true) : p c = true := (up_iff hS).1 h c hc (undC_refl c)
/-- A hollow of the greatest staircase within a set is not in the set. -/
theorem up_hollow {p : Cell → Bool} {c : Cell} (hc : c.inBox x y z) (h : hollC x y z (upB x y z p) c = true) : p c = false := by
  unfold hollC at h
  rw [Bool.and_eq_true, Bool.not_eq_true', decide_eq_true_iff] at h
  cases hp : p c with
  | false => rfl
  | true =>
    have : upB x y z p c = true := (up_iff hS).2 fun d hd hl => by
      have := h.2 c hc (by simp) d hd hl
      rw [Bool.or_eq_true, decide_eq_true_iff] at this
      rcases this with h1 | rfl
      · exact up_sub hS hd h1
      · exact hp
    rw [h.1] at this; cases this
/-- A corner of the least staircase with all of a set is in the set. -/
theorem dn_corner {p : Cell → Bool} {c : Cell} (hc : c.inBox x y z) (h : cornC x y z (dnB x y z p) c = true) : p c = true := by
  unfold cornC at h
  rw [Bool.and_eq_true, decide_eq_true_iff] at h
  obtain ⟨e, h1, h2, h3⟩ := (dn_iff hS).1 h.1
  by_cases hec : e = c
  · rw [← hec]; exact h2
  · have := h.2 e h1 (by simp [hec, dn_self hS h1 h2]) c hc h3
    simp at this
end
end Go.Ab

/- Contracts: staircases, corners, lines and orders of the reference. -/
namespace Go.Ab
open Go
set_option linter.unusedSimpArgs false
set_option linter.unusedVariables false
set_option maxRecDepth 20000

theorem dec_at {c : Cell} {k : Nat} (hk : k < 3) : (decC c k).at (k : Int) = c.at (k : Int) - 1 := by
  rcases (show k = 0 ∨ k = 1 ∨ k = 2 by omega) with rfl | rfl | rfl <;> rfl
theorem dec_splice {c : Cell} {k : Nat} (hk : k < 3) : splice [LV.I c.a, LV.I c.b, LV.I c.c] k [LV.I (c.at (k : Int) - 1)] = [LV.I (decC c k).a, LV.I (decC c k).b, LV.I (decC c k).c] := by
  rcases (show k = 0 ∨ k = 1 ∨ k = 2 by omega) with rfl | rfl | rfl <;> rfl
theorem row_k (c : Cell) {j : Nat} (h : j < 3) : [LV.I c.a, .I c.b, .I c.c][j]? = some (.I (c.at (j : Int))) := by
  rcases (show j = 0 ∨ j = 1 ∨ j = 2 by omega) with rfl | rfl | rfl <;> rfl
theorem at_box {x y z : Int} {c : Cell} (hS : Sides x y z) (h : c.inBox x y z) {j : Nat} (hj : j < 3) : 0 ≤ c.at (j : Int) ∧ c.at (j : Int) ≤ 3 := by
  obtain ⟨⟨_, _⟩, ⟨_, _⟩, ⟨_, _⟩⟩ := h
  obtain ⟨⟨_, _⟩, ⟨_, _⟩, ⟨_, _⟩⟩ := hS
  rcases (show j = 0 ∨ j = 1 ∨ j = 2 by omega) with rfl | rfl | rfl
  · show 0 ≤ c.a ∧ c.a ≤ 3; omega
  · show 0 ≤ c.b ∧ c.b ≤ 3; omega
  · show 0 ≤ c.c ∧ c.c ≤ 3; omega
theorem stairM {x y z : Int} {cs : List Cell} (hH : HeapOK x y z cs) : (StairP x y z fun d => decide (d ∈ cs)) ↔ ∀ c ∈ cs, ∀ k : Nat, k < 3 → 0 ≤ c.at (k : Int) - 1 → decC c k ∈ cs := by
  rw [stair_step]
  constructor
  · intro h c hc k hk h0
    exact of_decide_eq_true (h c (hH.mem hc) (decide_eq_true hc) k hk (by rw [dec_at hk]; exact h0))
  · intro h c _ hc k hk h0
    exact decide_eq_true (h c (of_decide_eq_true hc) k hk (by rw [dec_at hk] at h0; exact h0))

theorem h_l5Stair {x y z : Int} {t : Nat} {w : Bool} {cs : List Cell} {M : Mem} (h : Live M t (.row (triL cs) w 3)) (hH : HeapOK x y z cs) :
    CallsTo PG F.spec_l5Stair [.agg [.I x, .I y, .I z, .ref t 0 cs.length]] M (.B (decide (StairP x y z fun d => decide (d ∈ cs)))) M := by
  have hlen := hH.len
  have hS := hH.1
  refine calls_run K.spec_l5Stair rfl ?_
  simp (disch := omega) only [C.spec_l5Stair, ↓SXd, SXu, slBounds, ↓sop, ↓aop, ↓reduceIte, LV.cells, AOp.dst, LV.I, LV.B, LV.U, LV.S, LV.nil, Nat.reduceEqDiff, Nat.reduceAdd, Nat.reduceMul, Nat.reduceSub, Nat.reduceLeDiff, Nat.reduceBEq, Nat.reduceDiv, Nat.reduceMod, Int.reduceToNat, Int.reduceLT, Int.reduceLE, Int.reduceAdd, Int.reduceSub, Int.reduceMul, Int.reduceEq, Int.reduceNeg, reduceCtorEq, resV, resAll, ARes.ev, LV.flat, ite_true, ite_false, exists_eq_left', exists_eq_left, keyOf, implies_true, fillC, capOf]
  refine ev_loop (fun m fr M' => ∃ i : Nat, i + m = cs.length ∧ Pre M M' ∧ Live M' M.length (.row [.I x, .I y, .I z, .ref t 0 cs.length] true 0) ∧ (∀ c ∈ cs.take i, ∀ k : Nat, k < 3 → 0 ≤ c.at (k : Int) - 1 → decC c k ∈ cs) ∧ fr 1 = .ptr M.length 0 ∧ fr 3 = .I i) cs.length
    ⟨0, by omega, Pre.app _ _, Live.new, by simp, rfl, rfl⟩ ?_
  rintro m fr M' ⟨i, hi, hpre, b1, hall, f1, f3⟩
  simp (disch := omega) only [f1, f3, b1.cell, ↓SXd, SXu, slBounds, ↓sop, ↓aop, ↓reduceIte, LV.cells, AOp.dst, LV.I, LV.B, LV.U, LV.S, LV.nil, Nat.reduceEqDiff, Nat.reduceAdd, Nat.reduceMul, Nat.reduceSub, Nat.reduceLeDiff, Nat.reduceBEq, Nat.reduceDiv, Nat.reduceMod, Int.reduceToNat, Int.reduceLT, Int.reduceLE, Int.reduceAdd, Int.reduceSub, Int.reduceMul, Int.reduceEq, Int.reduceNeg, reduceCtorEq, resV, resAll, ARes.ev, LV.flat, ite_true, ite_false, exists_eq_left', exists_eq_left, keyOf, implies_true, fillC, capOf]
  refine condC_dec (fun hlt => ?_) (fun hlt => ?_)
  · have hil : i < cs.length := by omega
    have hts : cs.take (i + 1) = cs.take i ++ [cs.getD i default] := take_snoc' hil
    have hcm := getD_mem' (d := default) hil
    have hcg := fun {N : Mem} (hp : Pre M N) => (h.pre hp).tri0 hil
    generalize cs.getD i default = c at hts hcm hcg
    simp (disch := omega) only [f1, f3, ↓SXd, SXu, slBounds, ↓sop, ↓aop, ↓reduceIte, LV.cells, AOp.dst, LV.I, LV.B, LV.U, LV.S, LV.nil, Nat.reduceEqDiff, Nat.reduceAdd, Nat.reduceMul, Nat.reduceSub, Nat.reduceLeDiff, Nat.reduceBEq, Nat.reduceDiv, Nat.reduceMod, Int.reduceToNat, Int.reduceLT, Int.reduceLE, Int.reduceAdd, Int.reduceSub, Int.reduceMul, Int.reduceEq, Int.reduceNeg, reduceCtorEq, resV, resAll, ARes.ev, LV.flat, ite_true, ite_false, exists_eq_left', exists_eq_left, keyOf, implies_true, fillC, capOf]
    refine ev_loop (fun m2 fr N => ∃ k : Nat, k + m2 = 3 ∧ Pre M N ∧ Live N M.length (.row [.I x, .I y, .I z, .ref t 0 cs.length] true 0) ∧ (∀ j : Nat, j < k → 0 ≤ c.at (j : Int) - 1 → decC c j ∈ cs) ∧ fr 1 = .ptr M.length 0 ∧ fr 3 = .I i ∧ fr 4 = .I k) 3
      ⟨0, by omega, hpre, b1, fun j hj => by omega, f1, f3, rfl⟩ ?_
    clear f1 f3 b1 hpre hlt
    rintro m2 fr N ⟨k, hk, hpre, b1, hall2, f1, f3, f4⟩
    simp (disch := omega) only [f1, f3, f4, ↓SXd, SXu, slBounds, ↓sop, ↓aop, ↓reduceIte, LV.cells, AOp.dst, LV.I, LV.B, LV.U, LV.S, LV.nil, Nat.reduceEqDiff, Nat.reduceAdd, Nat.reduceMul, Nat.reduceSub, Nat.reduceLeDiff, Nat.reduceBEq, Nat.reduceDiv, Nat.reduceMod, Int.reduceToNat, Int.reduceLT, Int.reduceLE, Int.reduceAdd, Int.reduceSub, Int.reduceMul, Int.reduceEq, Int.reduceNeg, reduceCtorEq, resV, resAll, ARes.ev, LV.flat, ite_true, ite_false, exists_eq_left', exists_eq_left, keyOf, implies_true, fillC, capOf]
    refine condC_dec (fun hlt => ?_) (fun hlt => ?_)
    · have hk3 : k < 3 := by omega
      have hcb := at_box hS (hH.mem hcm) hk3
      have hck := row_k c hk3
      have hdk := row_k (decC c k) hk3
      rw [dec_at hk3] at hdk
      have hlt1 : k + 1 ≤ 3 := by omega
      have e0 : splice [LV.I 0, LV.I 0, LV.I 0] 0 [LV.I c.a, LV.I c.b, LV.I c.c] = [LV.I c.a, LV.I c.b, LV.I c.c] := rfl
      have e1 := dec_splice (c := c) hk3
      simp (disch := omega) only [f1, f3, f4, b1.cell, (hcg hpre), Cell.row, e0, e1, hck, hdk, hlt1, Nat.mul_one, Nat.zero_add, List.length_cons, List.length_nil, ↓SXd, SXu, slBounds, ↓sop, ↓aop, ↓reduceIte, LV.cells, AOp.dst, LV.I, LV.B, LV.U, LV.S, LV.nil, Nat.reduceEqDiff, Nat.reduceAdd, Nat.reduceMul, Nat.reduceSub, Nat.reduceLeDiff, Nat.reduceBEq, Nat.reduceDiv, Nat.reduceMod, Int.reduceToNat, Int.reduceLT, Int.reduceLE, Int.reduceAdd, Int.reduceSub, Int.reduceMul, Int.reduceEq, Int.reduceNeg, reduceCtorEq, resV, resAll, ARes.ev, LV.flat, ite_true, ite_false, exists_eq_left', exists_eq_left, keyOf, implies_true, fillC, capOf]
      by_cases h0 : 0 ≤ c.at (k : Int) - 1
      · simp (disch := omega) only [f1, f3, f4, h0, b1.app.cells, ↓SXd, SXu, slBounds, ↓sop, ↓aop, ↓reduceIte, LV.cells, AOp.dst, LV.I, LV.B, LV.U, LV.S, LV.nil, Nat.reduceEqDiff, Nat.reduceAdd, Nat.reduceMul, Nat.reduceSub, Nat.reduceLeDiff, Nat.reduceBEq, Nat.reduceDiv, Nat.reduceMod, Int.reduceToNat, Int.reduceLT, Int.reduceLE, Int.reduceAdd, Int.reduceSub, Int.reduceMul, Int.reduceEq, Int.reduceNeg, reduceCtorEq, resV, resAll, ARes.ev, LV.flat, ite_true, ite_false, exists_eq_left', exists_eq_left, keyOf, implies_true, fillC, capOf]
        refine callK_of (h_l2Has ((h.pre hpre).app.has) (by omega)) ?_
        simp (disch := omega) only [f1, f3, f4, ↓SXd, SXu, slBounds, ↓sop, ↓aop, ↓reduceIte, LV.cells, AOp.dst, LV.I, LV.B, LV.U, LV.S, LV.nil, Nat.reduceEqDiff, Nat.reduceAdd, Nat.reduceMul, Nat.reduceSub, Nat.reduceLeDiff, Nat.reduceBEq, Nat.reduceDiv, Nat.reduceMod, Int.reduceToNat, Int.reduceLT, Int.reduceLE, Int.reduceAdd, Int.reduceSub, Int.reduceMul, Int.reduceEq, Int.reduceNeg, reduceCtorEq, resV, resAll, ARes.ev, LV.flat, ite_true, ite_false, exists_eq_left', exists_eq_left, keyOf, implies_true, fillC, capOf]
        rw [cell_eta]
        by_cases hm : decC c k ∈ cs
        · simp (disch := omega) only [f1, f3, f4, hm, ↓SXd, SXu, slBounds, ↓sop, ↓aop, ↓reduceIte, LV.cells, AOp.dst, LV.I, LV.B, LV.U, LV.S, LV.nil, Nat.reduceEqDiff, Nat.reduceAdd, Nat.reduceMul, Nat.reduceSub, Nat.reduceLeDiff, Nat.reduceBEq, Nat.reduceDiv, Nat.reduceMod, Int.reduceToNat, Int.reduceLT, Int.reduceLE, Int.reduceAdd, Int.reduceSub, Int.reduceMul, Int.reduceEq, Int.reduceNeg, reduceCtorEq, resV, resAll, ARes.ev, LV.flat, ite_true, ite_false, exists_eq_left', exists_eq_left, keyOf, implies_true, fillC, capOf]
          refine ⟨m2 - 1, by omega, k + 1, by omega, hpre.app', b1.app, fun j hj => ?_, f1, f3, eqI (natI _)⟩
          rcases Nat.lt_or_ge j k with hjk | hjk
          · exact hall2 j hjk
          · rw [show j = k by omega]; exact fun _ => hm
        · have hno : ¬ StairP x y z fun d => decide (d ∈ cs) := fun hst => hm ((stairM hH).1 hst c hcm k hk3 h0)
          rw [decide_eq_false hno]
          simp (disch := omega) only [f1, f3, f4, hm, ↓SXd, SXu, slBounds, ↓sop, ↓aop, ↓reduceIte, LV.cells, AOp.dst, LV.I, LV.B, LV.U, LV.S, LV.nil, Nat.reduceEqDiff, Nat.reduceAdd, Nat.reduceMul, Nat.reduceSub, Nat.reduceLeDiff, Nat.reduceBEq, Nat.reduceDiv, Nat.reduceMod, Int.reduceToNat, Int.reduceLT, Int.reduceLE, Int.reduceAdd, Int.reduceSub, Int.reduceMul, Int.reduceEq, Int.reduceNeg, reduceCtorEq, resV, resAll, ARes.ev, LV.flat, ite_true, ite_false, exists_eq_left', exists_eq_left, keyOf, implies_true, fillC, capOf]
          exact cmp_pre hpre.app' rfl
      · simp (disch := omega) only [f1, f3, f4, h0, ↓SXd, SXu, slBounds, ↓sop, ↓aop, ↓reduceIte, LV.cells, AOp.dst, LV.I, LV.B, LV.U, LV.S, LV.nil, Nat.reduceEqDiff, Nat.reduceAdd, Nat.reduceMul, Nat.reduceSub, Nat.reduceLeDiff, Nat.reduceBEq, Nat.reduceDiv, Nat.reduceMod, Int.reduceToNat, Int.reduceLT, Int.reduceLE, Int.reduceAdd, Int.reduceSub, Int.reduceMul, Int.reduceEq, Int.reduceNeg, reduceCtorEq, resV, resAll, ARes.ev, LV.flat, ite_true, ite_false, exists_eq_left', exists_eq_left, keyOf, implies_true, fillC, capOf]
        refine ⟨m2 - 1, by omega, k + 1, by omega, hpre.app', b1.app, fun j hj => ?_, f1, f3, eqI (natI _)⟩
        rcases Nat.lt_or_ge j k with hjk | hjk
        · exact hall2 j hjk
        · rw [show j = k by omega]; exact fun hh => absurd hh h0
    · have : k = 3 := by omega
      subst this
      simp (disch := omega) only [f1, f3, f4, ↓SXd, SXu, slBounds, ↓sop, ↓aop, ↓reduceIte, LV.cells, AOp.dst, LV.I, LV.B, LV.U, LV.S, LV.nil, Nat.reduceEqDiff, Nat.reduceAdd, Nat.reduceMul, Nat.reduceSub, Nat.reduceLeDiff, Nat.reduceBEq, Nat.reduceDiv, Nat.reduceMod, Int.reduceToNat, Int.reduceLT, Int.reduceLE, Int.reduceAdd, Int.reduceSub, Int.reduceMul, Int.reduceEq, Int.reduceNeg, reduceCtorEq, resV, resAll, ARes.ev, LV.flat, ite_true, ite_false, exists_eq_left', exists_eq_left, keyOf, implies_true, fillC, capOf]
      refine ⟨m - 1, by omega, i + 1, by omega, hpre, b1, fun d hd => ?_, f1, eqI (natI _)⟩
      rw [hts] at hd
      rcases List.mem_append.1 hd with hd | hd
      · exact hall d hd
      · rw [List.mem_singleton.1 hd]; exact hall2
  · have : i = cs.length := by omega
    subst this
    rw [List.take_length] at hall
    rw [decide_eq_true ((stairM hH).2 hall)]
    simp (disch := omega) only [f1, f3, ↓SXd, SXu, slBounds, ↓sop, ↓aop, ↓reduceIte, LV.cells, AOp.dst, LV.I, LV.B, LV.U, LV.S, LV.nil, Nat.reduceEqDiff, Nat.reduceAdd, Nat.reduceMul, Nat.reduceSub, Nat.reduceLeDiff, Nat.reduceBEq, Nat.reduceDiv, Nat.reduceMod, Int.reduceToNat, Int.reduceLT, Int.reduceLE, Int.reduceAdd, Int.reduceSub, Int.reduceMul, Int.reduceEq, Int.reduceNeg, reduceCtorEq, resV, resAll, ARes.ev, LV.flat, ite_true, ite_false, exists_eq_left', exists_eq_left, keyOf, implies_true, fillC, capOf]
    exact cmp_pre hpre rfl
/-- The corners of a staircase. -/
noncomputable def cornL (x y z : Int) (cs : List Cell) : List Cell := cs.filter (cornC x y z fun d => decide (d ∈ cs))
theorem corn_pick {x y z : Int} {cs : List Cell} (hH : HeapOK x y z cs) : cornL x y z cs = pick x y z (cornC x y z fun d => decide (d ∈ cs)) := by
  unfold cornL
  conv => lhs; rw [hH.pick]
  rw [filter_pick]
  refine pick_congr hH.1 fun d _ => ?_
  rw [← hH.pick]
  cases hd : cornC x y z (fun d => decide (d ∈ cs)) d with
  | false => simp
  | true => rw [cornC_sub hd]; rfl
noncomputable def orsB (x y z : Int) (cs : List Cell) : Bool := strB x y z cs && decide (cs.length ≤ 9)
noncomputable def orsN (x y z : Int) (cs : List Cell) : Nat := if orsB x y z cs = true then orN x y z cs.length (fun d => decide (d ∈ cs)) else 0
end Go.Ab

/- The rank of a staircase: contracts. -/
namespace Go.Ab
open Go
set_option linter.unusedSimpArgs false
set_option linter.unusedVariables false
set_option maxRecDepth 20000

theorem findIdx_at {L : List (List Int)} {p : List Int → Bool} {i : Nat} (hi : i < L.length) (hp : p (L.getD i []) = true) (hb : ∀ j, j < i → p (L.getD j []) = false) : L.findIdx p = i := by
  have hg : ∀ {j : Nat} (hj : j < L.length), L.getD j [] = L[j] := fun hj => by simp [hj]
  rcases Nat.lt_trichotomy (L.findIdx p) i with h | h | h
  · have h1 : L.findIdx p < L.length := by omega
    have h2 := List.findIdx_getElem (w := h1)
    have h3 := hb _ h
    rw [hg h1, h2] at h3; cases h3
  · exact h
  · have h1 := List.not_of_lt_findIdx h
    rw [hg hi] at hp
    rw [hp] at h1; cases h1
noncomputable def rnkB (x y z : Int) (cs : List Cell) : Bool := strB x y z cs && fewB x y z
noncomputable def rnkV (x y z : Int) (cs : List Cell) : Nat := if rnkB x y z cs = true then (stairsOf x y z).findIdx fun l => decide (l = viewL x y z 2 cs) else 0
theorem rank_lt {x y z : Int} {cs : List Cell} (hV : HeapOK x y z cs ∧ StairP x y z fun c => decide (c ∈ cs)) : (stairsOf x y z).findIdx (fun l => decide (l = viewL x y z 2 cs)) < (stairsOf x y z).length :=
  List.findIdx_lt_length_of_exists ⟨_, stair_mem hV, by simp⟩
theorem TabR.at {N : Mem} {t : Nat} {L : List (List Int)} {av : List Nat} (h : TabR N t L av) {i : Nat} (hi : i < L.length) : ∃ u : Nat, getCell N t i = some (.ref u 0 (L.getD i []).length) ∧ Ints N u 0 (L.getD i []) := by
  obtain ⟨refs, h1, h2, h3, h4⟩ := h
  obtain ⟨u, q1, q2, q3, q4⟩ := h4 i hi
  exact ⟨u, by rw [← q3]; exact h1.cell, q4⟩
theorem stairs_row {x y z : Int} (hS : Sides x y z) {l : List Int} (h : l ∈ stairsOf x y z) : l.length ≤ 16 := by
  obtain ⟨e1, e2, e3, h1, h2, h3⟩ := sidesN hS
  unfold stairsOf at h
  rw [mem_allS (by omega)] at h
  have := Nat.mul_le_mul h1.2 h2.2
  have := h.1
  omega
/-- A search in a table. -/
theorem g_indexS {L : List (List Int)} {u b : Nat} {p : List Int → Bool} {N : Mem} {av : List Nat} (hT : TabR N u L av) (hl : L.length ≤ 1000000000000) {f : FuncId} (hf : ∀ (l : List Int) (v : Nat), l ∈ L → Ints N v 0 l → CallsTo PG f [.ref v 0 l.length, .ptr b 0] N (.B (p l)) N) (hx : L.findIdx p < L.length) :
    CallsTo PG F.slices_IndexFunc_SSint_Sint [.ref u 0 L.length, .clo f [(b, 0)]] N (.I (L.findIdx p : Nat)) N := by
  refine calls_run K.slices_IndexFunc_SSint_Sint rfl ?_
  simp (disch := omega) only [C.slices_IndexFunc_SSint_Sint, ↓SXd, SXu, slBounds, ↓sop, ↓aop, ↓reduceIte, LV.cells, AOp.dst, LV.I, LV.B, LV.U, LV.S, LV.nil, Nat.reduceEqDiff, Nat.reduceAdd, Nat.reduceMul, Nat.reduceSub, Nat.reduceLeDiff, Nat.reduceBEq, Nat.reduceDiv, Nat.reduceMod, Int.reduceToNat, Int.reduceLT, Int.reduceLE, Int.reduceAdd, Int.reduceSub, Int.reduceMul, Int.reduceEq, Int.reduceNeg, reduceCtorEq, resV, resAll, ARes.ev, LV.flat, ite_true, ite_false, exists_eq_left', exists_eq_left, keyOf, implies_true, fillC, capOf]
  refine ev_loop (fun m fr M' => ∃ i : Nat, i + m = L.length ∧ (∀ j, j < i → p (L.getD j []) = false) ∧ M' = N ∧ fr 0 = .ref u 0 L.length ∧ fr 1 = .clo f [(b, 0)] ∧ fr 7 = .I L.length ∧ fr 8 = .I i) L.length
    ⟨0, by omega, fun j hj => by omega, rfl, rfl, rfl, rfl, rfl⟩ ?_
  rintro m fr M' ⟨i, hi, hb, rfl, f0, f1, f7, f8⟩
  have hil : i < L.length := by
    rcases Nat.lt_or_ge i L.length with h | h
    · exact h
    · have h1 := List.findIdx_getElem (w := hx)
      have h2 := hb (L.findIdx p) (by omega)
      rw [show L.getD (L.findIdx p) [] = L[L.findIdx p] by simp [hx], h1] at h2
      cases h2
  obtain ⟨v, hg, hI⟩ := hT.at hil
  simp (disch := omega) only [f0, f1, f7, f8, hg, ↓SXd, SXu, slBounds, ↓sop, ↓aop, ↓reduceIte, LV.cells, AOp.dst, LV.I, LV.B, LV.U, LV.S, LV.nil, Nat.reduceEqDiff, Nat.reduceAdd, Nat.reduceMul, Nat.reduceSub, Nat.reduceLeDiff, Nat.reduceBEq, Nat.reduceDiv, Nat.reduceMod, Int.reduceToNat, Int.reduceLT, Int.reduceLE, Int.reduceAdd, Int.reduceSub, Int.reduceMul, Int.reduceEq, Int.reduceNeg, reduceCtorEq, resV, resAll, ARes.ev, LV.flat, ite_true, ite_false, exists_eq_left', exists_eq_left, keyOf, implies_true, fillC, capOf]
  refine callK_of (hf _ v (getD_mem' hil) hI) ?_
  cases hp : p (L.getD i []) with
  | true =>
    have := findIdx_at hil hp hb
    rw [this]
    simp (disch := omega) only [f0, f1, f7, f8, ↓SXd, SXu, slBounds, ↓sop, ↓aop, ↓reduceIte, LV.cells, AOp.dst, LV.I, LV.B, LV.U, LV.S, LV.nil, Nat.reduceEqDiff, Nat.reduceAdd, Nat.reduceMul, Nat.reduceSub, Nat.reduceLeDiff, Nat.reduceBEq, Nat.reduceDiv, Nat.reduceMod, Int.reduceToNat, Int.reduceLT, Int.reduceLE, Int.reduceAdd, Int.reduceSub, Int.reduceMul, Int.reduceEq, Int.reduceNeg, reduceCtorEq, resV, resAll, ARes.ev, LV.flat, ite_true, ite_false, exists_eq_left', exists_eq_left, keyOf, implies_true, fillC, capOf]
    exact cmp_drop0 rfl
  | false =>
    simp (disch := omega) only [f0, f1, f7, f8, ↓SXd, SXu, slBounds, ↓sop, ↓aop, ↓reduceIte, LV.cells, AOp.dst, LV.I, LV.B, LV.U, LV.S, LV.nil, Nat.reduceEqDiff, Nat.reduceAdd, Nat.reduceMul, Nat.reduceSub, Nat.reduceLeDiff, Nat.reduceBEq, Nat.reduceDiv, Nat.reduceMod, Int.reduceToNat, Int.reduceLT, Int.reduceLE, Int.reduceAdd, Int.reduceSub, Int.reduceMul, Int.reduceEq, Int.reduceNeg, reduceCtorEq, resV, resAll, ARes.ev, LV.flat, ite_true, ite_false, exists_eq_left', exists_eq_left, keyOf, implies_true, fillC, capOf]
    refine ⟨m - 1, by omega, i + 1, by omega, fun j hj => ?_, rfl, f0, f1, f7, eqI (natI _)⟩
    rcases Nat.lt_or_ge j i with h | h
    · exact hb j h
    · rw [show j = i by omega]; exact hp
theorem g_RankStair {x y z : Int} {t : Nat} {w : Bool} {cs : List Cell} {M : Mem} (h : Live M t (.row (triL cs) w 3)) (hn : cs.length ≤ 1000000000) :
    CallsTo PG F.impl_RankStair [.agg [.I x, .I y, .I z, .ref t 0 cs.length]] M (.tup [.I (rnkV x y z cs : Nat), .B (rnkB x y z cs)]) M := by
  refine calls_run K.impl_RankStair rfl ?_
  simp (disch := omega) only [C.impl_RankStair, ↓SXd, SXu, slBounds, ↓sop, ↓aop, ↓reduceIte, LV.cells, AOp.dst, LV.I, LV.B, LV.U, LV.S, LV.nil, Nat.reduceEqDiff, Nat.reduceAdd, Nat.reduceMul, Nat.reduceSub, Nat.reduceLeDiff, Nat.reduceBEq, Nat.reduceDiv, Nat.reduceMod, Int.reduceToNat, Int.reduceLT, Int.reduceLE, Int.reduceAdd, Int.reduceSub, Int.reduceMul, Int.reduceEq, Int.reduceNeg, reduceCtorEq, resV, resAll, ARes.ev, LV.flat, ite_true, ite_false, exists_eq_left', exists_eq_left, keyOf, implies_true, fillC, capOf]
  refine callK_of (g_box) ?_
  simp (disch := omega) only [↓SXd, SXu, slBounds, ↓sop, ↓aop, ↓reduceIte, LV.cells, AOp.dst, LV.I, LV.B, LV.U, LV.S, LV.nil, Nat.reduceEqDiff, Nat.reduceAdd, Nat.reduceMul, Nat.reduceSub, Nat.reduceLeDiff, Nat.reduceBEq, Nat.reduceDiv, Nat.reduceMod, Int.reduceToNat, Int.reduceLT, Int.reduceLE, Int.reduceAdd, Int.reduceSub, Int.reduceMul, Int.reduceEq, Int.reduceNeg, reduceCtorEq, resV, resAll, ARes.ev, LV.flat, ite_true, ite_false, exists_eq_left', exists_eq_left, keyOf, implies_true, fillC, capOf]
  refine callR_of g_stairs ?_
  rintro _ N ⟨hr, hp⟩
  have b1 : Live N M.length (.row [.I x, .I y, .I z, .ref t 0 cs.length] true 0) := Live.new.pre hp
  have hMN : Pre M N := (Pre.app _ _).trans hp
  unfold rnkV rnkB
  rcases hr with ⟨hf, u, rfl, hu, hT⟩ | ⟨hf, rfl⟩
  rotate_left
  · rw [hf, Bool.and_false, if_neg (by simp)]
    simp (disch := omega) only [↓SXd, SXu, slBounds, ↓sop, ↓aop, ↓reduceIte, LV.cells, AOp.dst, LV.I, LV.B, LV.U, LV.S, LV.nil, Nat.reduceEqDiff, Nat.reduceAdd, Nat.reduceMul, Nat.reduceSub, Nat.reduceLeDiff, Nat.reduceBEq, Nat.reduceDiv, Nat.reduceMod, Int.reduceToNat, Int.reduceLT, Int.reduceLE, Int.reduceAdd, Int.reduceSub, Int.reduceMul, Int.reduceEq, Int.reduceNeg, reduceCtorEq, resV, resAll, ARes.ev, LV.flat, ite_true, ite_false, exists_eq_left', exists_eq_left, keyOf, implies_true, fillC, capOf]
    exact cmp_pre hMN rfl
  rw [hf, Bool.and_true]
  simp (disch := omega) only [b1.cells, ↓SXd, SXu, slBounds, ↓sop, ↓aop, ↓reduceIte, LV.cells, AOp.dst, LV.I, LV.B, LV.U, LV.S, LV.nil, Nat.reduceEqDiff, Nat.reduceAdd, Nat.reduceMul, Nat.reduceSub, Nat.reduceLeDiff, Nat.reduceBEq, Nat.reduceDiv, Nat.reduceMod, Int.reduceToNat, Int.reduceLT, Int.reduceLE, Int.reduceAdd, Int.reduceSub, Int.reduceMul, Int.reduceEq, Int.reduceNeg, reduceCtorEq, resV, resAll, ARes.ev, LV.flat, ite_true, ite_false, exists_eq_left', exists_eq_left, keyOf, implies_true, fillC, capOf]
  refine callK_of (g_isStair (h.pre hMN).has hn) ?_
  by_cases hV : HeapOK x y z cs ∧ StairP x y z (fun c => decide (c ∈ cs))
  rotate_left
  · rw [str_no hV, if_neg (by simp)]
    simp (disch := omega) only [↓SXd, SXu, slBounds, ↓sop, ↓aop, ↓reduceIte, LV.cells, AOp.dst, LV.I, LV.B, LV.U, LV.S, LV.nil, Nat.reduceEqDiff, Nat.reduceAdd, Nat.reduceMul, Nat.reduceSub, Nat.reduceLeDiff, Nat.reduceBEq, Nat.reduceDiv, Nat.reduceMod, Int.reduceToNat, Int.reduceLT, Int.reduceLE, Int.reduceAdd, Int.reduceSub, Int.reduceMul, Int.reduceEq, Int.reduceNeg, reduceCtorEq, resV, resAll, ARes.ev, LV.flat, ite_true, ite_false, exists_eq_left', exists_eq_left, keyOf, implies_true, fillC, capOf]
    exact cmp_pre hMN rfl
  rw [str_yes hV, if_pos rfl]
  have hS := hV.1.1
  have hlen := hV.1.len
  have hst := stair_tops hV
  have htl := topsOf_len x y cs
  have hvl := stairs_row hS (stair_mem hV)
  simp (disch := omega) only [↓SXd, SXu, slBounds, ↓sop, ↓aop, ↓reduceIte, LV.cells, AOp.dst, LV.I, LV.B, LV.U, LV.S, LV.nil, Nat.reduceEqDiff, Nat.reduceAdd, Nat.reduceMul, Nat.reduceSub, Nat.reduceLeDiff, Nat.reduceBEq, Nat.reduceDiv, Nat.reduceMod, Int.reduceToNat, Int.reduceLT, Int.reduceLE, Int.reduceAdd, Int.reduceSub, Int.reduceMul, Int.reduceEq, Int.reduceNeg, reduceCtorEq, resV, resAll, ARes.ev, LV.flat, ite_true, ite_false, exists_eq_left', exists_eq_left, keyOf, implies_true, fillC, capOf]
  refine callK_of (g_indexS (p := fun l => decide (l = viewL x y z 2 cs)) hT (stairs_len hS) (fun l v hl hI => ?_) (rank_lt hV)) ?_
  · have hrl := stairs_row hS hl
    refine calls_run K.impl_RankStair_1 rfl ?_
    simp (disch := omega) only [C.impl_RankStair_1, b1.cells, ↓SXd, SXu, slBounds, ↓sop, ↓aop, ↓reduceIte, LV.cells, AOp.dst, LV.I, LV.B, LV.U, LV.S, LV.nil, Nat.reduceEqDiff, Nat.reduceAdd, Nat.reduceMul, Nat.reduceSub, Nat.reduceLeDiff, Nat.reduceBEq, Nat.reduceDiv, Nat.reduceMod, Int.reduceToNat, Int.reduceLT, Int.reduceLE, Int.reduceAdd, Int.reduceSub, Int.reduceMul, Int.reduceEq, Int.reduceNeg, reduceCtorEq, resV, resAll, ARes.ev, LV.flat, ite_true, ite_false, exists_eq_left', exists_eq_left, keyOf, implies_true, fillC, capOf]
    refine callK_of (g_heights (h.pre hMN).has hn hV.1) ?_
    rw [hst]
    rw [hst] at htl
    simp (disch := omega) only [↓SXd, SXu, slBounds, ↓sop, ↓aop, ↓reduceIte, LV.cells, AOp.dst, LV.I, LV.B, LV.U, LV.S, LV.nil, Nat.reduceEqDiff, Nat.reduceAdd, Nat.reduceMul, Nat.reduceSub, Nat.reduceLeDiff, Nat.reduceBEq, Nat.reduceDiv, Nat.reduceMod, Int.reduceToNat, Int.reduceLT, Int.reduceLE, Int.reduceAdd, Int.reduceSub, Int.reduceMul, Int.reduceEq, Int.reduceNeg, reduceCtorEq, resV, resAll, ARes.ev, LV.flat, ite_true, ite_false, exists_eq_left', exists_eq_left, keyOf, implies_true, fillC, capOf]
    have hq := g_equalI (M := N ++ [some (.row (intL (viewL x y z 2 cs)) true 1)]) hI.app (Live.new (b := .row (intL (viewL x y z 2 cs)) true 1)).has (by omega) (by omega)
    rw [htl] at hq
    refine callK_of hq ?_
    simp (disch := omega) only [↓SXd, SXu, slBounds, ↓sop, ↓aop, ↓reduceIte, LV.cells, AOp.dst, LV.I, LV.B, LV.U, LV.S, LV.nil, Nat.reduceEqDiff, Nat.reduceAdd, Nat.reduceMul, Nat.reduceSub, Nat.reduceLeDiff, Nat.reduceBEq, Nat.reduceDiv, Nat.reduceMod, Int.reduceToNat, Int.reduceLT, Int.reduceLE, Int.reduceAdd, Int.reduceSub, Int.reduceMul, Int.reduceEq, Int.reduceNeg, reduceCtorEq, resV, resAll, ARes.ev, LV.flat, ite_true, ite_false, exists_eq_left', exists_eq_left, keyOf, implies_true, fillC, capOf]
    exact cmp_drop rfl
  simp (disch := omega) only [↓SXd, SXu, slBounds, ↓sop, ↓aop, ↓reduceIte, LV.cells, AOp.dst, LV.I, LV.B, LV.U, LV.S, LV.nil, Nat.reduceEqDiff, Nat.reduceAdd, Nat.reduceMul, Nat.reduceSub, Nat.reduceLeDiff, Nat.reduceBEq, Nat.reduceDiv, Nat.reduceMod, Int.reduceToNat, Int.reduceLT, Int.reduceLE, Int.reduceAdd, Int.reduceSub, Int.reduceMul, Int.reduceEq, Int.reduceNeg, reduceCtorEq, resV, resAll, ARes.ev, LV.flat, ite_true, ite_false, exists_eq_left', exists_eq_left, keyOf, implies_true, fillC, capOf]
  exact cmp_pre hMN rfl
end Go.Ab

/- The abstract code of some functions (written by a program of mine from the translation, by way of prepF). -/
namespace Go.Ab.C
open Go.Ab
def impl_LeastStair : AFn :=
 ⟨1, 29, [.cellN 2 4, .tmp 3],
 .seq (.ops [(none, .box 1 (.t 0)),
 (none, .alloc 2 [(.I 0), (.I 0), (.I 0), .nil]),
 (none, .mv 3 (.c (.B false)))])
 (.seq (.seq (.ops [(none, .loadN 7 4 (.t 1)),
 (none, .call (some 8) F.impl_IsHeap [(.t 7)]),
 (none, .un 9 .not (.t 8))])
 (.cond (.t 9) (.seq (.ops [(none, .build 10 [(.I 0), (.I 0), (.I 0), .nil] []),
 (none, .store 4 (.t 2) (.t 10)),
 (none, .mv 3 (.c (.B false)))])
 (.ret))
 (.skip)))
 (.seq (.ops [(none, .mv 4 (.c (.U 0)))])
 (.seq (.seq (.ops [(none, .fieldAddr 11 (.t 1) 3),
 (none, .load1 12 (.t 11)),
 (none, .len 13 (.t 12)),
 (none, .mv 14 (.c (.I 0)))])
 (.block 0 (.loop (.seq (.ops [(none, .bin 15 .lss (.t 14) (.t 13))])
 (.seq (.cond (.t 15) (.skip)
 (.exit 0))
 (.seq (.block 1 (.seq (.ops [(none, .idxS 16 3 (.t 12) (.t 14)),
 (none, .loadN 17 3 (.t 16)),
 (none, .alloc 6 [(.I 0), (.I 0), (.I 0)]),
 (none, .store 3 (.t 6) (.t 17))])
 (.draw [⟨(none, .mv 18 (.t 4)), [], []⟩,
 ⟨(none, .loadN 19 4 (.t 1)), [], []⟩,
 ⟨(none, .loadN 21 3 (.t 6)), [], []⟩,
 ⟨(none, .call (some 20) F.impl_Heap_box [(.t 19)]), [], [0, 2]⟩,
 ⟨(none, .call (some 22) F.impl_box_below [(.t 20), (.t 21)]), [], [0]⟩,
 ⟨(none, .bin 23 .or (.t 18) (.t 22)), [], []⟩,
 ⟨(none, .mv 4 (.t 23)), [], []⟩])))
 (.ops [(none, .bin 24 .add (.t 14) (.c (.I 1))),
 (none, .mv 14 (.t 24))])))))))
 (.seq (.ops [(none, .loadN 25 4 (.t 1)),
 (none, .call (some 26) F.impl_Heap_box [(.t 25)]),
 (none, .mv 27 (.t 4)),
 (none, .call (some 28) F.impl_box_heap [(.t 26), (.t 27)]),
 (none, .store 4 (.t 2) (.t 28)),
 (none, .mv 3 (.c (.B true)))])
 (.ret)))))⟩
def impl_GreatestStair : AFn :=
 ⟨1, 16, [.cellN 2 4, .tmp 3],
 .seq (.ops [(none, .box 1 (.t 0)),
 (none, .alloc 2 [(.I 0), (.I 0), (.I 0), .nil]),
 (none, .mv 3 (.c (.B false)))])
 (.seq (.seq (.ops [(none, .loadN 5 4 (.t 1)),
 (none, .call (some 6) F.impl_IsHeap [(.t 5)]),
 (none, .un 7 .not (.t 6))])
 (.cond (.t 7) (.seq (.ops [(none, .build 8 [(.I 0), (.I 0), (.I 0), .nil] []),
 (none, .store 4 (.t 2) (.t 8)),
 (none, .mv 3 (.c (.B false)))])
 (.ret))
 (.skip)))
 (.seq (.ops [(none, .loadN 9 4 (.t 1)),
 (none, .call (some 10) F.impl_Heap_box [(.t 9)]),
 (none, .alloc 4 [(.I 0), (.I 0), (.I 0)]),
 (none, .store 3 (.t 4) (.t 10))])
 (.seq (.draw [⟨(none, .loadN 11 3 (.t 4)), [], []⟩,
 ⟨(none, .loadN 12 3 (.t 4)), [], []⟩,
 ⟨(none, .mkf 13 F.impl_GreatestStair_1 [(.t 4), (.t 1)]), [], []⟩,
 ⟨(none, .call (some 14) F.impl_box_those [(.t 12), (.t 13)]), [], [0]⟩,
 ⟨(none, .call (some 15) F.impl_box_heap [(.t 11), (.t 14)]), [], []⟩,
 ⟨(none, .store 4 (.t 2) (.t 15)), [], []⟩,
 ⟨(none, .mv 3 (.c (.B true))), [], []⟩])
 (.ret))))⟩
def impl_GreatestStair_1 : AFn :=
 ⟨3, 12, [.tmp 4],
 .seq (.ops [(none, .box 3 (.t 0)),
 (none, .mv 4 (.c (.B false)))])
 (.seq (.draw [⟨(none, .loadN 5 3 (.t 1)), [], []⟩,
 ⟨(none, .loadN 6 3 (.t 3)), [], []⟩,
 ⟨(none, .loadN 8 4 (.t 2)), [], []⟩,
 ⟨(none, .call (some 7) F.impl_box_below [(.t 5), (.t 6)]), [], [2]⟩,
 ⟨(none, .call (some 9) F.impl_Heap_cubes [(.t 8)]), [], []⟩,
 ⟨(none, .bin 10 .andNot (.t 7) (.t 9)), [], []⟩,
 ⟨(none, .bin 11 .eql (.t 10) (.c (.U 0))), [], []⟩,
 ⟨(none, .mv 4 (.t 11)), [], []⟩])
 (.ret))⟩
def spec_GreatestStair : AFn :=
 ⟨1, 45, [.cellN 2 4, .tmp 3],
 .seq (.ops [(none, .box 1 (.t 0)),
 (none, .alloc 2 [(.I 0), (.I 0), (.I 0), .nil]),
 (none, .mv 3 (.c (.B false)))])
 (.seq (.seq (.ops [(none, .loadN 8 4 (.t 1)),
 (none, .call (some 9) F.spec_l2Heap [(.t 8)]),
 (none, .un 10 .not (.t 9))])
 (.cond (.t 10) (.seq (.ops [(none, .build 11 [(.I 0), (.I 0), (.I 0), .nil] []),
 (none, .store 4 (.t 2) (.t 11)),
 (none, .mv 3 (.c (.B false)))])
 (.ret))
 (.skip)))
 (.seq (.ops [(none, .fieldAddr 12 (.t 1) 0),
 (none, .load1 13 (.t 12)),
 (none, .fieldAddr 14 (.t 1) 1),
 (none, .load1 15 (.t 14)),
 (none, .fieldAddr 16 (.t 1) 2),
 (none, .load1 17 (.t 16)),
 (none, .call (some 18) F.spec_l2Empty [(.t 13), (.t 15), (.t 17)]),
 (none, .alloc 4 [(.I 0), (.I 0), (.I 0), .nil]),
 (none, .store 4 (.t 4) (.t 18))])
 (.seq (.ops [(none, .loadN 19 4 (.t 1)),
 (none, .call (some 20) F.spec_l2All [(.t 19)]),
 (none, .mv 5 (.t 20))])
 (.seq (.seq (.ops [(none, .mv 6 (.c (.I 0)))])
 (.block 0 (.loop (.seq (.seq (.ops [(none, .mv 21 (.t 6)),
 (none, .mv 22 (.t 5)),
 (none, .len 23 (.t 22)),
 (none, .bin 24 .lss (.t 21) (.t 23))])
 (.cond (.t 24) (.skip)
 (.exit 0)))
 (.seq (.block 1 (.seq (.draw [⟨(none, .loadN 27 4 (.t 4)), [], []⟩,
 ⟨(none, .mv 28 (.t 5)), [], []⟩,
 ⟨(none, .mv 29 (.t 6)), [], []⟩,
 ⟨(none, .idxS 30 3 (.t 28) (.t 29)), [], []⟩,
 ⟨(none, .loadN 31 3 (.t 30)), [], []⟩,
 ⟨(none, .alloc 7 [(.I 0), (.I 0), (.I 0), .nil]), [], []⟩,
 ⟨(none, .call (some 32) F.spec_l2With [(.t 27), (.t 31)]), [5], []⟩,
 ⟨(none, .store 4 (.t 7) (.t 32)), [], []⟩])
 (.seq (.draw [⟨(none, .loadN 33 4 (.t 1)), [], []⟩,
 ⟨(none, .mv 34 (.t 5)), [], []⟩,
 ⟨(none, .mv 35 (.t 6)), [], []⟩,
 ⟨(none, .idxS 36 3 (.t 34) (.t 35)), [], []⟩,
 ⟨(none, .loadN 37 3 (.t 36)), [], []⟩,
 ⟨(none, .call (some 38) F.spec_l2Has [(.t 33), (.t 37)]), [], []⟩,
 ⟨(none, .mv 39 (.t 38)), [], []⟩,
 ⟨(some (39, true), .loadN 40 4 (.t 7)), [], []⟩,
 ⟨(some (39, true), .call (some 41) F.spec_l5Stair [(.t 40)]), [], []⟩,
 ⟨(none, .pick 42 (.t 39) (.t 41) (.c (.B false))), [], []⟩])
 (.cond (.t 42) (.ops [(none, .loadN 43 4 (.t 7)),
 (none, .store 4 (.t 4) (.t 43))])
 (.skip)))))
 (.ops [(none, .mv 25 (.t 6)),
 (none, .bin 26 .add (.t 25) (.c (.I 1))),
 (none, .mv 6 (.t 26))]))))))
 (.seq (.ops [(none, .loadN 44 4 (.t 4)),
 (none, .store 4 (.t 2) (.t 44)),
 (none, .mv 3 (.c (.B true)))])
 (.ret))))))⟩
def impl_IsStair : AFn :=
 ⟨1, 9, [.tmp 2, .tmp 3],
 .seq (.ops [(none, .box 1 (.t 0)),
 (none, .mv 2 (.c (.B false))),
 (none, .mv 3 (.c (.B false)))])
 (.seq (.seq (.ops [(none, .loadN 4 4 (.t 1)),
 (none, .call (some 5) F.impl_IsHeap [(.t 4)]),
 (none, .un 6 .not (.t 5))])
 (.cond (.t 6) (.seq (.ops [(none, .mv 2 (.c (.B false))),
 (none, .mv 3 (.c (.B false)))])
 (.ret))
 (.skip)))
 (.seq (.ops [(none, .loadN 7 4 (.t 1)),
 (none, .call (some 8) F.impl_isStair [(.t 7)]),
 (none, .mv 2 (.t 8)),
 (none, .mv 3 (.c (.B true)))])
 (.ret)))⟩
def impl_StairHollows : AFn :=
 ⟨1, 18, [.tmp 2, .tmp 3],
 .seq (.ops [(none, .box 1 (.t 0)),
 (none, .mv 2 (.c .nil)),
 (none, .mv 3 (.c (.B false)))])
 (.seq (.seq (.ops [(none, .loadN 6 4 (.t 1)),
 (none, .call (some 7) F.impl_isStair [(.t 6)]),
 (none, .un 8 .not (.t 7))])
 (.cond (.t 8) (.seq (.ops [(none, .mv 2 (.c .nil)),
 (none, .mv 3 (.c (.B false)))])
 (.ret))
 (.skip)))
 (.seq (.draw [⟨(none, .loadN 9 4 (.t 1)), [], []⟩,
 ⟨(none, .loadN 11 4 (.t 1)), [], []⟩,
 ⟨(none, .alloc 4 [(.I 0), (.I 0), (.I 0)]), [], []⟩,
 ⟨(none, .alloc 5 [(.U 0)]), [], []⟩,
 ⟨(none, .call (some 10) F.impl_Heap_box [(.t 9)]), [2, 3], [1]⟩,
 ⟨(none, .call (some 12) F.impl_Heap_cubes [(.t 11)]), [2, 3], []⟩,
 ⟨(none, .store 3 (.t 4) (.t 10)), [], []⟩,
 ⟨(none, .store 1 (.t 5) (.t 12)), [], []⟩])
 (.seq (.draw [⟨(none, .loadN 13 3 (.t 4)), [], []⟩,
 ⟨(none, .loadN 14 3 (.t 4)), [], []⟩,
 ⟨(none, .mkf 15 F.impl_StairHollows_1 [(.t 4), (.t 5)]), [], []⟩,
 ⟨(none, .call (some 16) F.impl_box_those [(.t 14), (.t 15)]), [], [0]⟩,
 ⟨(none, .call (some 17) F.impl_box_list [(.t 13), (.t 16)]), [], []⟩,
 ⟨(none, .mv 2 (.t 17)), [], []⟩,
 ⟨(none, .mv 3 (.c (.B true))), [], []⟩])
 (.ret))))⟩
def impl_StairHollows_1 : AFn :=
 ⟨3, 21, [.tmp 4],
 .seq (.ops [(none, .box 3 (.t 0)),
 (none, .mv 4 (.c (.B false)))])
 (.seq (.ops [(none, .loadN 6 3 (.t 1)),
 (none, .loadN 7 3 (.t 3)),
 (none, .call (some 8) F.impl_box_index [(.t 6), (.t 7)]),
 (none, .bin 9 .shl (.c (.U 1)) (.t 8)),
 (none, .mv 5 (.t 9))])
 (.seq (.ops [(none, .load1 10 (.t 2)),
 (none, .mv 11 (.t 5)),
 (none, .bin 12 .and (.t 10) (.t 11)),
 (none, .bin 13 .eql (.t 12) (.c (.U 0))),
 (none, .mv 14 (.t 13)),
 (some (14, true), .loadN 15 3 (.t 1)),
 (some (14, true), .load1 16 (.t 2)),
 (some (14, true), .mv 17 (.t 5)),
 (some (14, true), .bin 18 .or (.t 16) (.t 17)),
 (some (14, true), .call (some 19) F.impl_box_isStair [(.t 15), (.t 18)]),
 (none, .pick 20 (.t 14) (.t 19) (.c (.B false))),
 (none, .mv 4 (.t 20))])
 (.ret)))⟩
end Go.Ab.C

/- That the program has this code. -/
namespace Go.Ab.K
open Go Go.Ab
theorem impl_LeastStair : prepF Go.Proofs.Try.prog F.impl_LeastStair = some C.impl_LeastStair := by kernel_rfl
theorem impl_GreatestStair : prepF Go.Proofs.Try.prog F.impl_GreatestStair = some C.impl_GreatestStair := by kernel_rfl
theorem impl_GreatestStair_1 : prepF Go.Proofs.Try.prog F.impl_GreatestStair_1 = some C.impl_GreatestStair_1 := by kernel_rfl
theorem spec_GreatestStair : prepF Go.Proofs.Try.prog F.spec_GreatestStair = some C.spec_GreatestStair := by kernel_rfl
theorem impl_IsStair : prepF Go.Proofs.Try.prog F.impl_IsStair = some C.impl_IsStair := by kernel_rfl
theorem impl_StairHollows : prepF Go.Proofs.Try.prog F.impl_StairHollows = some C.impl_StairHollows := by kernel_rfl
theorem impl_StairHollows_1 : prepF Go.Proofs.Try.prog F.impl_StairHollows_1 = some C.impl_StairHollows_1 := by kernel_rfl
end Go.Ab.K

/- The abstract code of some functions (written by a program of mine from the translation, by way of prepF). -/
namespace Go.Ab.C
open Go.Ab
end Go.Ab.C

/- That the program has this code. -/
namespace Go.Ab.K
open Go Go.Ab
end Go.Ab.K

/- The abstract code of some functions (written by a program of mine from the translation, by way of prepF). -/
namespace Go.Ab.C
open Go.Ab
def spec_LeastStair : AFn :=
 ⟨1, 54, [.cellN 2 4, .tmp 3],
 .seq (.ops [(none, .box 1 (.t 0)),
 (none, .alloc 2 [(.I 0), (.I 0), (.I 0), .nil]),
 (none, .mv 3 (.c (.B false)))])
 (.seq (.seq (.ops [(none, .loadN 9 4 (.t 1)),
 (none, .call (some 10) F.spec_l2Heap [(.t 9)]),
 (none, .un 11 .not (.t 10))])
 (.cond (.t 11) (.seq (.ops [(none, .build 12 [(.I 0), (.I 0), (.I 0), .nil] []),
 (none, .store 4 (.t 2) (.t 12)),
 (none, .mv 3 (.c (.B false)))])
 (.ret))
 (.skip)))
 (.seq (.ops [(none, .loadN 13 4 (.t 1)),
 (none, .call (some 14) F.spec_l2Own [(.t 13)]),
 (none, .alloc 4 [(.I 0), (.I 0), (.I 0), .nil]),
 (none, .store 4 (.t 4) (.t 14))])
 (.block 0 (.loop (.block 1 (.seq (.ops [(none, .loadN 15 4 (.t 4)),
 (none, .call (some 16) F.spec_l2Own [(.t 15)]),
 (none, .alloc 5 [(.I 0), (.I 0), (.I 0), .nil]),
 (none, .store 4 (.t 5) (.t 16))])
 (.seq (.seq (.ops [(none, .mv 6 (.c (.I 0)))])
 (.block 2 (.loop (.seq (.seq (.ops [(none, .mv 17 (.t 6)),
 (none, .fieldAddr 18 (.t 4) 3),
 (none, .load1 19 (.t 18)),
 (none, .len 20 (.t 19)),
 (none, .bin 21 .lss (.t 17) (.t 20))])
 (.cond (.t 21) (.skip)
 (.exit 2)))
 (.seq (.block 3 (.seq (.ops [(none, .mv 7 (.c (.I 0)))])
 (.block 4 (.loop (.seq (.seq (.ops [(none, .mv 24 (.t 7)),
 (none, .bin 25 .lss (.t 24) (.c (.I 3)))])
 (.cond (.t 25) (.skip)
 (.exit 4)))
 (.seq (.block 5 (.seq (.ops [(none, .fieldAddr 28 (.t 4) 3),
 (none, .load1 29 (.t 28)),
 (none, .mv 30 (.t 6)),
 (none, .idxS 31 3 (.t 29) (.t 30)),
 (none, .loadN 32 3 (.t 31)),
 (none, .alloc 8 [(.I 0), (.I 0), (.I 0)]),
 (none, .store 3 (.t 8) (.t 32))])
 (.seq (.ops [(none, .mv 33 (.t 7)),
 (none, .idxA 34 3 1 (.t 8) (.t 33)),
 (none, .load1 35 (.t 34)),
 (none, .bin 36 .sub (.t 35) (.c (.I 1))),
 (none, .idxA 37 3 1 (.t 8) (.t 33)),
 (none, .store 1 (.t 37) (.t 36))])
 (.seq (.ops [(none, .mv 38 (.t 7)),
 (none, .idxA 39 3 1 (.t 8) (.t 38)),
 (none, .load1 40 (.t 39)),
 (none, .bin 41 .geq (.t 40) (.c (.I 0)))])
 (.cond (.t 41) (.ops [(none, .loadN 42 4 (.t 5)),
 (none, .loadN 43 3 (.t 8)),
 (none, .call (some 44) F.spec_l2With [(.t 42), (.t 43)]),
 (none, .store 4 (.t 5) (.t 44))])
 (.skip))))))
 (.ops [(none, .mv 26 (.t 7)),
 (none, .bin 27 .add (.t 26) (.c (.I 1))),
 (none, .mv 7 (.t 27))])))))))
 (.ops [(none, .mv 22 (.t 6)),
 (none, .bin 23 .add (.t 22) (.c (.I 1))),
 (none, .mv 6 (.t 23))]))))))
 (.seq (.seq (.ops [(none, .fieldAddr 45 (.t 5) 3),
 (none, .load1 46 (.t 45)),
 (none, .len 47 (.t 46)),
 (none, .fieldAddr 48 (.t 4) 3),
 (none, .load1 49 (.t 48)),
 (none, .len 50 (.t 49)),
 (none, .bin 51 .eql (.t 47) (.t 50))])
 (.cond (.t 51) (.seq (.ops [(none, .loadN 52 4 (.t 4)),
 (none, .store 4 (.t 2) (.t 52)),
 (none, .mv 3 (.c (.B true)))])
 (.ret))
 (.skip)))
 (.ops [(none, .loadN 53 4 (.t 5)),
 (none, .store 4 (.t 4) (.t 53))])))))))))⟩
end Go.Ab.C

/- That the program has this code. -/
namespace Go.Ab.K
open Go Go.Ab
theorem spec_LeastStair : prepF Go.Proofs.Try.prog F.spec_LeastStair = some C.spec_LeastStair := by kernel_rfl
end Go.Ab.K

/- The abstract code of some functions (written by a program of mine from the translation, by way of prepF). -/
namespace Go.Ab.C
open Go.Ab
end Go.Ab.C

/- That the program has this code. -/
namespace Go.Ab.K
open Go Go.Ab
end Go.Ab.K

/- The abstract code of some functions (written by a program of mine from the translation, by way of prepF). -/
namespace Go.Ab.C
open Go.Ab
def impl_StairCorners : AFn :=
 ⟨1, 15, [.tmp 2, .tmp 3],
 .seq (.ops [(none, .box 1 (.t 0)),
 (none, .mv 2 (.c .nil)),
 (none, .mv 3 (.c (.B false)))])
 (.seq (.seq (.ops [(none, .loadN 4 4 (.t 1)),
 (none, .call (some 5) F.impl_isStair [(.t 4)]),
 (none, .un 6 .not (.t 5))])
 (.cond (.t 6) (.seq (.ops [(none, .mv 2 (.c .nil)),
 (none, .mv 3 (.c (.B false)))])
 (.ret))
 (.skip)))
 (.seq (.draw [⟨(none, .loadN 7 4 (.t 1)), [], []⟩,
 ⟨(none, .loadN 9 4 (.t 1)), [], []⟩,
 ⟨(none, .loadN 11 4 (.t 1)), [], []⟩,
 ⟨(none, .call (some 8) F.impl_Heap_box [(.t 7)]), [], [1, 2]⟩,
 ⟨(none, .call (some 10) F.impl_Heap_box [(.t 9)]), [], [2]⟩,
 ⟨(none, .call (some 12) F.impl_Heap_cubes [(.t 11)]), [], []⟩,
 ⟨(none, .call (some 13) F.impl_box_stairCorners [(.t 10), (.t 12)]), [], []⟩,
 ⟨(none, .call (some 14) F.impl_box_list [(.t 8), (.t 13)]), [], []⟩,
 ⟨(none, .mv 2 (.t 14)), [], []⟩,
 ⟨(none, .mv 3 (.c (.B true))), [], []⟩])
 (.ret)))⟩
end Go.Ab.C

/- That the program has this code. -/
namespace Go.Ab.K
open Go Go.Ab
theorem impl_StairCorners : prepF Go.Proofs.Try.prog F.impl_StairCorners = some C.impl_StairCorners := by kernel_rfl
end Go.Ab.K

/- The abstract code of some functions (written by a program of mine from the translation, by way of prepF). -/
namespace Go.Ab.C
open Go.Ab
end Go.Ab.C

/- That the program has this code. -/
namespace Go.Ab.K
open Go Go.Ab
end Go.Ab.K

/- Contracts: turned heaps of the program, lines of staircases, corners, orders. -/
namespace Go.Ab
open Go
set_option linter.unusedSimpArgs false
set_option linter.unusedVariables false
set_option maxRecDepth 20000

end Go.Ab

/- Contracts: staircases, corners, lines and orders of the program. -/
namespace Go.Ab
open Go
set_option linter.unusedSimpArgs false
set_option linter.unusedVariables false
set_option maxRecDepth 20000

/-- What the map says is true. -/
def MemoO (x y z : Int) (L : List (BitVec 64 × Int)) : Prop := (∃ q ∈ L, q.1 = 0#64) ∧ ∀ q ∈ L, ∀ p : Cell → Bool, q.1 = bs x y z p → q.2 = (orN x y z (pick x y z p).length p : Nat)

noncomputable def linV (x y z : Int) (cs : List Cell) : Nat := if strB x y z cs = true then linesN ⟨x, y, z, cs⟩ else 0
theorem g_StairCorners {x y z : Int} {t : Nat} {w : Bool} {cs : List Cell} {M : Mem} (h : Live M t (.row (triL cs) w 3)) (hV : HeapOK x y z cs ∧ StairP x y z fun c => decide (c ∈ cs)) :
    CallsR PG F.impl_StairCorners [.agg [.I x, .I y, .I z, .ref t 0 cs.length]] M fun v N => ∃ u, v = .tup [.ref u 0 (cornL x y z cs).length, .B true] ∧ Live N u (.row (triL (cornL x y z cs)) true 3) ∧ Pre M N := by
  have hlen := hV.1.len
  have hS := hV.1.1
  refine callsR_run K.impl_StairCorners rfl ?_
  simp (disch := omega) only [C.impl_StairCorners, ↓SXd, SXu, slBounds, ↓sop, ↓aop, ↓reduceIte, LV.cells, AOp.dst, LV.I, LV.B, LV.U, LV.S, LV.nil, Nat.reduceEqDiff, Nat.reduceAdd, Nat.reduceMul, Nat.reduceSub, Nat.reduceLeDiff, Nat.reduceBEq, Nat.reduceDiv, Nat.reduceMod, Int.reduceToNat, Int.reduceLT, Int.reduceLE, Int.reduceAdd, Int.reduceSub, Int.reduceMul, Int.reduceEq, Int.reduceNeg, reduceCtorEq, resV, resAll, ARes.ev, LV.flat, ite_true, ite_false, exists_eq_left', exists_eq_left, keyOf, implies_true, fillC, capOf]
  refine callK_of (g_isStair h.app.has (by omega)) ?_
  simp (disch := omega) only [↓SXd, SXu, slBounds, ↓sop, ↓aop, ↓reduceIte, LV.cells, AOp.dst, LV.I, LV.B, LV.U, LV.S, LV.nil, Nat.reduceEqDiff, Nat.reduceAdd, Nat.reduceMul, Nat.reduceSub, Nat.reduceLeDiff, Nat.reduceBEq, Nat.reduceDiv, Nat.reduceMod, Int.reduceToNat, Int.reduceLT, Int.reduceLE, Int.reduceAdd, Int.reduceSub, Int.reduceMul, Int.reduceEq, Int.reduceNeg, reduceCtorEq, resV, resAll, ARes.ev, LV.flat, ite_true, ite_false, exists_eq_left', exists_eq_left, keyOf, implies_true, fillC, capOf]
  rw [str_yes hV, corn_pick hV.1]
  simp (disch := omega) only [↓SXd, SXu, slBounds, ↓sop, ↓aop, ↓reduceIte, LV.cells, AOp.dst, LV.I, LV.B, LV.U, LV.S, LV.nil, Nat.reduceEqDiff, Nat.reduceAdd, Nat.reduceMul, Nat.reduceSub, Nat.reduceLeDiff, Nat.reduceBEq, Nat.reduceDiv, Nat.reduceMod, Int.reduceToNat, Int.reduceLT, Int.reduceLE, Int.reduceAdd, Int.reduceSub, Int.reduceMul, Int.reduceEq, Int.reduceNeg, reduceCtorEq, resV, resAll, ARes.ev, LV.flat, ite_true, ite_false, exists_eq_left', exists_eq_left, keyOf, implies_true, fillC, capOf]
  refine callK_of (g_box) ?_
  simp (disch := omega) only [↓SXd, SXu, slBounds, ↓sop, ↓aop, ↓reduceIte, LV.cells, AOp.dst, LV.I, LV.B, LV.U, LV.S, LV.nil, Nat.reduceEqDiff, Nat.reduceAdd, Nat.reduceMul, Nat.reduceSub, Nat.reduceLeDiff, Nat.reduceBEq, Nat.reduceDiv, Nat.reduceMod, Int.reduceToNat, Int.reduceLT, Int.reduceLE, Int.reduceAdd, Int.reduceSub, Int.reduceMul, Int.reduceEq, Int.reduceNeg, reduceCtorEq, resV, resAll, ARes.ev, LV.flat, ite_true, ite_false, exists_eq_left', exists_eq_left, keyOf, implies_true, fillC, capOf]
  refine callK_of (g_box) ?_
  simp (disch := omega) only [↓SXd, SXu, slBounds, ↓sop, ↓aop, ↓reduceIte, LV.cells, AOp.dst, LV.I, LV.B, LV.U, LV.S, LV.nil, Nat.reduceEqDiff, Nat.reduceAdd, Nat.reduceMul, Nat.reduceSub, Nat.reduceLeDiff, Nat.reduceBEq, Nat.reduceDiv, Nat.reduceMod, Int.reduceToNat, Int.reduceLT, Int.reduceLE, Int.reduceAdd, Int.reduceSub, Int.reduceMul, Int.reduceEq, Int.reduceNeg, reduceCtorEq, resV, resAll, ARes.ev, LV.flat, ite_true, ite_false, exists_eq_left', exists_eq_left, keyOf, implies_true, fillC, capOf]
  refine callK_of (g_cubes (Has.app h.has) (by omega) hS (fun c hc => hV.1.mem hc)) ?_
  simp (disch := omega) only [↓SXd, SXu, slBounds, ↓sop, ↓aop, ↓reduceIte, LV.cells, AOp.dst, LV.I, LV.B, LV.U, LV.S, LV.nil, Nat.reduceEqDiff, Nat.reduceAdd, Nat.reduceMul, Nat.reduceSub, Nat.reduceLeDiff, Nat.reduceBEq, Nat.reduceDiv, Nat.reduceMod, Int.reduceToNat, Int.reduceLT, Int.reduceLE, Int.reduceAdd, Int.reduceSub, Int.reduceMul, Int.reduceEq, Int.reduceNeg, reduceCtorEq, resV, resAll, ARes.ev, LV.flat, ite_true, ite_false, exists_eq_left', exists_eq_left, keyOf, implies_true, fillC, capOf]
  refine callK_of (g_stairCorners hS) ?_
  simp (disch := omega) only [↓SXd, SXu, slBounds, ↓sop, ↓aop, ↓reduceIte, LV.cells, AOp.dst, LV.I, LV.B, LV.U, LV.S, LV.nil, Nat.reduceEqDiff, Nat.reduceAdd, Nat.reduceMul, Nat.reduceSub, Nat.reduceLeDiff, Nat.reduceBEq, Nat.reduceDiv, Nat.reduceMod, Int.reduceToNat, Int.reduceLT, Int.reduceLE, Int.reduceAdd, Int.reduceSub, Int.reduceMul, Int.reduceEq, Int.reduceNeg, reduceCtorEq, resV, resAll, ARes.ev, LV.flat, ite_true, ite_false, exists_eq_left', exists_eq_left, keyOf, implies_true, fillC, capOf]
  refine callK_of (g_list hS) ?_
  simp (disch := omega) only [↓SXd, SXu, slBounds, ↓sop, ↓aop, ↓reduceIte, LV.cells, AOp.dst, LV.I, LV.B, LV.U, LV.S, LV.nil, Nat.reduceEqDiff, Nat.reduceAdd, Nat.reduceMul, Nat.reduceSub, Nat.reduceLeDiff, Nat.reduceBEq, Nat.reduceDiv, Nat.reduceMod, Int.reduceToNat, Int.reduceLT, Int.reduceLE, Int.reduceAdd, Int.reduceSub, Int.reduceMul, Int.reduceEq, Int.reduceNeg, reduceCtorEq, resV, resAll, ARes.ev, LV.flat, ite_true, ite_false, exists_eq_left', exists_eq_left, keyOf, implies_true, fillC, capOf]
  exact ⟨_, rfl, Live.newj (j := 1) rfl, Pre.app _ _⟩
end Go.Ab

/- Contracts: exchanged heaps, lines, hollows, least staircases of the reference. -/
namespace Go.Ab
open Go
set_option linter.unusedSimpArgs false
set_option linter.unusedVariables false
set_option maxRecDepth 20000

end Go.Ab

/- Contracts: hollows and least staircases of the reference. -/
namespace Go.Ab
open Go
set_option linter.unusedSimpArgs false
set_option linter.unusedVariables false
set_option maxRecDepth 20000

/-- The hollows of a staircase. -/
noncomputable def hollL (x y z : Int) (cs : List Cell) : List Cell := pick x y z (hollC x y z fun d => decide (d ∈ cs))
noncomputable def leastOf (x y z : Int) (cs : List Cell) : Hp := ⟨x, y, z, pick x y z (dnB x y z fun d => decide (d ∈ cs))⟩
theorem h_sLeastStair {x y z : Int} {t : Nat} {w : Bool} {cs : List Cell} {M : Mem} (h : Live M t (.row (triL cs) w 3)) (hn : cs.length ≤ 1000000000) :
    CallsR PG F.spec_LeastStair [.agg [.I x, .I y, .I z, .ref t 0 cs.length]] M fun v N => ((HeapOK x y z cs ∧ HeapT M (leastOf x y z cs) v N) ∨ (¬ HeapOK x y z cs ∧ v = .tup [.agg [.I 0, .I 0, .I 0, .nil], .B false])) ∧ Pre M N := by
  refine callsR_run K.spec_LeastStair rfl ?_
  simp (disch := omega) only [C.spec_LeastStair, ↓SXd, SXu, slBounds, ↓sop, ↓aop, ↓reduceIte, LV.cells, AOp.dst, LV.I, LV.B, LV.U, LV.S, LV.nil, Nat.reduceEqDiff, Nat.reduceAdd, Nat.reduceMul, Nat.reduceSub, Nat.reduceLeDiff, Nat.reduceBEq, Nat.reduceDiv, Nat.reduceMod, Int.reduceToNat, Int.reduceLT, Int.reduceLE, Int.reduceAdd, Int.reduceSub, Int.reduceMul, Int.reduceEq, Int.reduceNeg, reduceCtorEq, resV, resAll, ARes.ev, LV.flat, ite_true, ite_false, exists_eq_left', exists_eq_left, keyOf, implies_true, fillC, capOf]
  refine callK_of (h_l2Heap h.app.has hn) ?_
  simp (disch := omega) only [↓SXd, SXu, slBounds, ↓sop, ↓aop, ↓reduceIte, LV.cells, AOp.dst, LV.I, LV.B, LV.U, LV.S, LV.nil, Nat.reduceEqDiff, Nat.reduceAdd, Nat.reduceMul, Nat.reduceSub, Nat.reduceLeDiff, Nat.reduceBEq, Nat.reduceDiv, Nat.reduceMod, Int.reduceToNat, Int.reduceLT, Int.reduceLE, Int.reduceAdd, Int.reduceSub, Int.reduceMul, Int.reduceEq, Int.reduceNeg, reduceCtorEq, resV, resAll, ARes.ev, LV.flat, ite_true, ite_false, exists_eq_left', exists_eq_left, keyOf, implies_true, fillC, capOf]
  by_cases hH : HeapOK x y z cs
  rotate_left
  · simp (disch := omega) only [hH, fillC, splice, ↓SXd, SXu, slBounds, ↓sop, ↓aop, ↓reduceIte, LV.cells, AOp.dst, LV.I, LV.B, LV.U, LV.S, LV.nil, Nat.reduceEqDiff, Nat.reduceAdd, Nat.reduceMul, Nat.reduceSub, Nat.reduceLeDiff, Nat.reduceBEq, Nat.reduceDiv, Nat.reduceMod, Int.reduceToNat, Int.reduceLT, Int.reduceLE, Int.reduceAdd, Int.reduceSub, Int.reduceMul, Int.reduceEq, Int.reduceNeg, reduceCtorEq, resV, resAll, ARes.ev, LV.flat, ite_true, ite_false, exists_eq_left', exists_eq_left, keyOf, implies_true, fillC, capOf]
    exact ⟨.inr ⟨not_false, rfl⟩, Pre.app _ _⟩
  have hS := hH.1
  have hlen := hH.len
  simp (disch := omega) only [hH, ↓SXd, SXu, slBounds, ↓sop, ↓aop, ↓reduceIte, LV.cells, AOp.dst, LV.I, LV.B, LV.U, LV.S, LV.nil, Nat.reduceEqDiff, Nat.reduceAdd, Nat.reduceMul, Nat.reduceSub, Nat.reduceLeDiff, Nat.reduceBEq, Nat.reduceDiv, Nat.reduceMod, Int.reduceToNat, Int.reduceLT, Int.reduceLE, Int.reduceAdd, Int.reduceSub, Int.reduceMul, Int.reduceEq, Int.reduceNeg, reduceCtorEq, resV, resAll, ARes.ev, LV.flat, ite_true, ite_false, exists_eq_left', exists_eq_left, keyOf, implies_true, fillC, capOf]
  refine callK_of (h_l2Own (Has.app h.has) hn) ?_
  simp (disch := omega) only [splice, ↓SXd, SXu, slBounds, ↓sop, ↓aop, ↓reduceIte, LV.cells, AOp.dst, LV.I, LV.B, LV.U, LV.S, LV.nil, Nat.reduceEqDiff, Nat.reduceAdd, Nat.reduceMul, Nat.reduceSub, Nat.reduceLeDiff, Nat.reduceBEq, Nat.reduceDiv, Nat.reduceMod, Int.reduceToNat, Int.reduceLT, Int.reduceLE, Int.reduceAdd, Int.reduceSub, Int.reduceMul, Int.reduceEq, Int.reduceNeg, reduceCtorEq, resV, resAll, ARes.ev, LV.flat, ite_true, ite_false, exists_eq_left', exists_eq_left, keyOf, implies_true, fillC, capOf]
  refine ev_loop (fun m fr M' => ∃ (q : Cell → Bool) (u : Nat), (pick x y z q).length + m = 65 ∧ (∀ d, d.inBox x y z → d ∈ cs → q d = true) ∧ (∀ d, d.inBox x y z → q d = true → dnB x y z (fun d => decide (d ∈ cs)) d = true) ∧ Pre M M' ∧ Live M' (M.length + 1) (.row [.I 0, .I 0, .I 0, .nil] true 0) ∧
    Live M' (M.length + 3) (.row [.I x, .I y, .I z, .ref u 0 (pick x y z q).length] true 0) ∧ Live M' u (.row (triL (pick x y z q)) true 3) ∧ M.length ≤ u ∧
    fr 2 = .ptr (M.length + 1) 0 ∧ fr 4 = .ptr (M.length + 3) 0) (65 - cs.length)
    ⟨fun d => decide (d ∈ cs), M.length + 2, by rw [← hH.pick]; omega, fun d _ hd => decide_eq_true hd, fun d hd hp => dn_self hS hd hp, Pre.app _ _, Live.newj rfl, by rw [← hH.pick]; exact Live.newj (j := 3) rfl, by rw [← hH.pick]; exact Live.newj (j := 2) rfl, by omega, rfl, rfl⟩ ?_
  rintro m fr M' ⟨q, u, hm, hcq, hqd, hpre, b2, b4, bu, hu, f2, f4⟩
  have hql := pick_len hS q
  have hpM := hpre.1
  have hb4l := b4.lt
  simp (disch := omega) only [f2, f4, b4.cells, ↓SXd, SXu, slBounds, ↓sop, ↓aop, ↓reduceIte, LV.cells, AOp.dst, LV.I, LV.B, LV.U, LV.S, LV.nil, Nat.reduceEqDiff, Nat.reduceAdd, Nat.reduceMul, Nat.reduceSub, Nat.reduceLeDiff, Nat.reduceBEq, Nat.reduceDiv, Nat.reduceMod, Int.reduceToNat, Int.reduceLT, Int.reduceLE, Int.reduceAdd, Int.reduceSub, Int.reduceMul, Int.reduceEq, Int.reduceNeg, reduceCtorEq, resV, resAll, ARes.ev, LV.flat, ite_true, ite_false, exists_eq_left', exists_eq_left, keyOf, implies_true, fillC, capOf]
  refine callK_of (h_l2Own bu.has (by omega)) ?_
  simp (disch := omega) only [f2, f4, splice, ↓SXd, SXu, slBounds, ↓sop, ↓aop, ↓reduceIte, LV.cells, AOp.dst, LV.I, LV.B, LV.U, LV.S, LV.nil, Nat.reduceEqDiff, Nat.reduceAdd, Nat.reduceMul, Nat.reduceSub, Nat.reduceLeDiff, Nat.reduceBEq, Nat.reduceDiv, Nat.reduceMod, Int.reduceToNat, Int.reduceLT, Int.reduceLE, Int.reduceAdd, Int.reduceSub, Int.reduceMul, Int.reduceEq, Int.reduceNeg, reduceCtorEq, resV, resAll, ARes.ev, LV.flat, ite_true, ite_false, exists_eq_left', exists_eq_left, keyOf, implies_true, fillC, capOf]
  have b4a := b4.app (L := [some (.row (triL (pick x y z q)) true 3), some (.row [.I x, .I y, .I z, .ref M'.length 0 (pick x y z q).length] true 0)])
  refine ev_loop (fun m2 fr N => ∃ (r : Cell → Bool) (i v : Nat), i + m2 = (pick x y z q).length ∧ (∀ d, d.inBox x y z → q d = true → r d = true) ∧ (∀ d, d.inBox x y z → r d = true → dnB x y z (fun d => decide (d ∈ cs)) d = true) ∧ (∀ c ∈ (pick x y z q).take i, ∀ k : Nat, k < 3 → 0 ≤ c.at (k : Int) - 1 → r (decC c k) = true) ∧
    Pre M' N ∧ Live N (M'.length + 1) (.row [.I x, .I y, .I z, .ref v 0 (pick x y z r).length] true 0) ∧ Live N v (.row (triL (pick x y z r)) true 3) ∧ M'.length ≤ v ∧
    fr 2 = .ptr (M.length + 1) 0 ∧ fr 4 = .ptr (M.length + 3) 0 ∧ fr 5 = .ptr (M'.length + 1) 0 ∧ fr 6 = .I i) (pick x y z q).length
    ⟨q, 0, M'.length, by omega, fun _ _ h => h, hqd, by simp, Pre.app _ _, Live.newj (j := 1) rfl, Live.new, Nat.le_refl _, f2, f4, rfl, rfl⟩ ?_
  clear f2 f4 b4a
  rintro m2 fr N ⟨r, i, v, hi, hqr, hrd, hall, hpN, b5, bv, hv, f2, f4, f5, f6⟩
  have c4 := b4.pre hpN
  have cu := bu.pre hpN
  simp (disch := omega) only [f2, f4, f5, f6, c4.cell, ↓SXd, SXu, slBounds, ↓sop, ↓aop, ↓reduceIte, LV.cells, AOp.dst, LV.I, LV.B, LV.U, LV.S, LV.nil, Nat.reduceEqDiff, Nat.reduceAdd, Nat.reduceMul, Nat.reduceSub, Nat.reduceLeDiff, Nat.reduceBEq, Nat.reduceDiv, Nat.reduceMod, Int.reduceToNat, Int.reduceLT, Int.reduceLE, Int.reduceAdd, Int.reduceSub, Int.reduceMul, Int.reduceEq, Int.reduceNeg, reduceCtorEq, resV, resAll, ARes.ev, LV.flat, ite_true, ite_false, exists_eq_left', exists_eq_left, keyOf, implies_true, fillC, capOf]
  refine condC_dec (fun hlt => ?_) (fun hlt => ?_)
  · have hil : i < (pick x y z q).length := by omega
    have hts : (pick x y z q).take (i + 1) = (pick x y z q).take i ++ [(pick x y z q).getD i default] := take_snoc' hil
    obtain ⟨hcb, hcq'⟩ := (mem_pick hS).1 (getD_mem' (d := default) hil)
    have hcg := fun {Q : Mem} (hp : Pre M' Q) => (bu.pre hp).tri0 hil
    generalize (pick x y z q).getD i default = c at hts hcb hcq' hcg
    simp (disch := omega) only [f2, f4, f5, f6, ↓SXd, SXu, slBounds, ↓sop, ↓aop, ↓reduceIte, LV.cells, AOp.dst, LV.I, LV.B, LV.U, LV.S, LV.nil, Nat.reduceEqDiff, Nat.reduceAdd, Nat.reduceMul, Nat.reduceSub, Nat.reduceLeDiff, Nat.reduceBEq, Nat.reduceDiv, Nat.reduceMod, Int.reduceToNat, Int.reduceLT, Int.reduceLE, Int.reduceAdd, Int.reduceSub, Int.reduceMul, Int.reduceEq, Int.reduceNeg, reduceCtorEq, resV, resAll, ARes.ev, LV.flat, ite_true, ite_false, exists_eq_left', exists_eq_left, keyOf, implies_true, fillC, capOf]
    refine ev_loop (fun m3 fr N => ∃ (r : Cell → Bool) (k v : Nat), k + m3 = 3 ∧ (∀ d, d.inBox x y z → q d = true → r d = true) ∧ (∀ d, d.inBox x y z → r d = true → dnB x y z (fun d => decide (d ∈ cs)) d = true) ∧ (∀ c ∈ (pick x y z q).take i, ∀ k : Nat, k < 3 → 0 ≤ c.at (k : Int) - 1 → r (decC c k) = true) ∧ (∀ j : Nat, j < k → 0 ≤ c.at (j : Int) - 1 → r (decC c j) = true) ∧
      Pre M' N ∧ Live N (M'.length + 1) (.row [.I x, .I y, .I z, .ref v 0 (pick x y z r).length] true 0) ∧ Live N v (.row (triL (pick x y z r)) true 3) ∧ M'.length ≤ v ∧
      fr 2 = .ptr (M.length + 1) 0 ∧ fr 4 = .ptr (M.length + 3) 0 ∧ fr 5 = .ptr (M'.length + 1) 0 ∧ fr 6 = .I i ∧ fr 7 = .I k) 3
      ⟨r, 0, v, rfl, hqr, hrd, hall, fun j hj => by omega, hpN, b5, bv, hv, f2, f4, f5, f6, rfl⟩ ?_
    clear f2 f4 f5 f6 b5 bv hv hall hrd hqr hpN c4 cu
    rintro m3 fr N ⟨r, k, v, hk, hqr, hrd, hall, hall2, hpN, b5, bv, hv, f2, f4, f5, f6, f7⟩
    have c4 := b4.pre hpN
    simp (disch := omega) only [f2, f4, f5, f6, f7, ↓SXd, SXu, slBounds, ↓sop, ↓aop, ↓reduceIte, LV.cells, AOp.dst, LV.I, LV.B, LV.U, LV.S, LV.nil, Nat.reduceEqDiff, Nat.reduceAdd, Nat.reduceMul, Nat.reduceSub, Nat.reduceLeDiff, Nat.reduceBEq, Nat.reduceDiv, Nat.reduceMod, Int.reduceToNat, Int.reduceLT, Int.reduceLE, Int.reduceAdd, Int.reduceSub, Int.reduceMul, Int.reduceEq, Int.reduceNeg, reduceCtorEq, resV, resAll, ARes.ev, LV.flat, ite_true, ite_false, exists_eq_left', exists_eq_left, keyOf, implies_true, fillC, capOf]
    refine condC_dec (fun hlt => ?_) (fun hlt => ?_)
    · have hk3 : k < 3 := by omega
      have hcb3 := at_box hS hcb hk3
      have hck := row_k c hk3
      have hdk := row_k (decC c k) hk3
      rw [dec_at hk3] at hdk
      have hlt1 : k + 1 ≤ 3 := by omega
      have e0 : splice [LV.I 0, LV.I 0, LV.I 0] 0 [LV.I c.a, LV.I c.b, LV.I c.c] = [LV.I c.a, LV.I c.b, LV.I c.c] := rfl
      have e1 := dec_splice (c := c) hk3
      have hb5l := b5.lt
      have hNl := hpN.1
      have hpN1 : Pre M' (N ++ [some (.row [.I (decC c k).a, .I (decC c k).b, .I (decC c k).c] true 0)]) := hpN.trans (Pre.app _ _)
      simp (disch := omega) only [f2, f4, f5, f6, f7, c4.cell, (hcg hpN), Cell.row, e0, e1, hck, hdk, hlt1, Nat.mul_one, Nat.zero_add, List.length_cons, List.length_nil, ↓SXd, SXu, slBounds, ↓sop, ↓aop, ↓reduceIte, LV.cells, AOp.dst, LV.I, LV.B, LV.U, LV.S, LV.nil, Nat.reduceEqDiff, Nat.reduceAdd, Nat.reduceMul, Nat.reduceSub, Nat.reduceLeDiff, Nat.reduceBEq, Nat.reduceDiv, Nat.reduceMod, Int.reduceToNat, Int.reduceLT, Int.reduceLE, Int.reduceAdd, Int.reduceSub, Int.reduceMul, Int.reduceEq, Int.reduceNeg, reduceCtorEq, resV, resAll, ARes.ev, LV.flat, ite_true, ite_false, exists_eq_left', exists_eq_left, keyOf, implies_true, fillC, capOf]
      by_cases h0 : 0 ≤ c.at (k : Int) - 1
      · have hdb := decC_box (c := c) (k := k) hcb hk3 (by rw [dec_at hk3]; exact h0)
        simp (disch := omega) only [f2, f4, f5, f6, f7, h0, b5.app.cells, ↓SXd, SXu, slBounds, ↓sop, ↓aop, ↓reduceIte, LV.cells, AOp.dst, LV.I, LV.B, LV.U, LV.S, LV.nil, Nat.reduceEqDiff, Nat.reduceAdd, Nat.reduceMul, Nat.reduceSub, Nat.reduceLeDiff, Nat.reduceBEq, Nat.reduceDiv, Nat.reduceMod, Int.reduceToNat, Int.reduceLT, Int.reduceLE, Int.reduceAdd, Int.reduceSub, Int.reduceMul, Int.reduceEq, Int.reduceNeg, reduceCtorEq, resV, resAll, ARes.ev, LV.flat, ite_true, ite_false, exists_eq_left', exists_eq_left, keyOf, implies_true, fillC, capOf]
        refine callH_of (h_l2With (c := decC c k) bv.app (pick_ok hS _) hdb) ?_
        intro sn Q4 hsn hp4 hsr
        have hQ4 := hp4.1
        simp only [List.length_append, List.length_cons, List.length_nil] at hsn hQ4
        have hpQ := (hpN.trans (Pre.app _ _)).trans hp4
        rw [show (pick x y z fun d => decide (d ∈ pick x y z r) || decide (d = decC c k)) = pick x y z fun d => r d || decide (d = decC c k) from pick_congr hS fun d hd => by
          congr 1
          rw [Bool.eq_iff_iff, decide_eq_true_iff, mem_pick hS]; exact ⟨fun h => h.2, fun h => ⟨hd, h⟩⟩] at hsr ⊢
        simp (disch := omega) only [f2, f4, f5, f6, f7, ↓SXd, SXu, slBounds, ↓sop, ↓aop, ↓reduceIte, LV.cells, AOp.dst, LV.I, LV.B, LV.U, LV.S, LV.nil, Nat.reduceEqDiff, Nat.reduceAdd, Nat.reduceMul, Nat.reduceSub, Nat.reduceLeDiff, Nat.reduceBEq, Nat.reduceDiv, Nat.reduceMod, Int.reduceToNat, Int.reduceLT, Int.reduceLE, Int.reduceAdd, Int.reduceSub, Int.reduceMul, Int.reduceEq, Int.reduceNeg, reduceCtorEq, resV, resAll, ARes.ev, LV.flat, ite_true, ite_false, exists_eq_left', exists_eq_left, keyOf, implies_true, fillC, capOf]
        refine memK_box (b5.pre ((Pre.app _ _).trans hp4)) (by simp) fun N6 j1 j2 j3 => ?_
        simp (disch := omega) only [f2, f4, f5, f6, f7, ↓SXd, SXu, slBounds, ↓sop, ↓aop, ↓reduceIte, LV.cells, AOp.dst, LV.I, LV.B, LV.U, LV.S, LV.nil, Nat.reduceEqDiff, Nat.reduceAdd, Nat.reduceMul, Nat.reduceSub, Nat.reduceLeDiff, Nat.reduceBEq, Nat.reduceDiv, Nat.reduceMod, Int.reduceToNat, Int.reduceLT, Int.reduceLE, Int.reduceAdd, Int.reduceSub, Int.reduceMul, Int.reduceEq, Int.reduceNeg, reduceCtorEq, resV, resAll, ARes.ev, LV.flat, ite_true, ite_false, exists_eq_left', exists_eq_left, keyOf, implies_true, fillC, capOf]
        refine ⟨m3 - 1, by omega, fun d => r d || decide (d = decC c k), k + 1, sn, by omega, fun d hd h => by show (r d || _) = true; rw [hqr d hd h]; rfl, fun d hd h => ?_, fun e he k' hk' h' => by show (r _ || _) = true; rw [hall e he k' hk' h']; rfl, fun j hj => ?_, pre_step hpQ (by omega) (j := 0) j1 j3, j2, live_step hsr (by omega) j3, by omega, f2, f4, f5, f6, eqI (natI _)⟩
        · rw [Bool.or_eq_true, decide_eq_true_iff] at h
          rcases h with h | rfl
          · exact hrd d hd h
          · exact dn_dec hS (hqd c hcb hcq')
        · rcases Nat.lt_or_ge j k with hjk | hjk
          · exact fun h => by show (r _ || _) = true; rw [hall2 j hjk h]; rfl
          · rw [show j = k by omega]; exact fun _ => by simp
      · simp (disch := omega) only [f2, f4, f5, f6, f7, h0, ↓SXd, SXu, slBounds, ↓sop, ↓aop, ↓reduceIte, LV.cells, AOp.dst, LV.I, LV.B, LV.U, LV.S, LV.nil, Nat.reduceEqDiff, Nat.reduceAdd, Nat.reduceMul, Nat.reduceSub, Nat.reduceLeDiff, Nat.reduceBEq, Nat.reduceDiv, Nat.reduceMod, Int.reduceToNat, Int.reduceLT, Int.reduceLE, Int.reduceAdd, Int.reduceSub, Int.reduceMul, Int.reduceEq, Int.reduceNeg, reduceCtorEq, resV, resAll, ARes.ev, LV.flat, ite_true, ite_false, exists_eq_left', exists_eq_left, keyOf, implies_true, fillC, capOf]
        refine ⟨m3 - 1, by omega, r, k + 1, v, by omega, hqr, hrd, hall, fun j hj => ?_, hpN.app', b5.app, bv.app, hv, f2, f4, f5, f6, eqI (natI _)⟩
        rcases Nat.lt_or_ge j k with hjk | hjk
        · exact hall2 j hjk
        · rw [show j = k by omega]; exact fun hh => absurd hh h0
    · have : k = 3 := by omega
      subst this
      simp (disch := omega) only [f2, f4, f5, f6, f7, ↓SXd, SXu, slBounds, ↓sop, ↓aop, ↓reduceIte, LV.cells, AOp.dst, LV.I, LV.B, LV.U, LV.S, LV.nil, Nat.reduceEqDiff, Nat.reduceAdd, Nat.reduceMul, Nat.reduceSub, Nat.reduceLeDiff, Nat.reduceBEq, Nat.reduceDiv, Nat.reduceMod, Int.reduceToNat, Int.reduceLT, Int.reduceLE, Int.reduceAdd, Int.reduceSub, Int.reduceMul, Int.reduceEq, Int.reduceNeg, reduceCtorEq, resV, resAll, ARes.ev, LV.flat, ite_true, ite_false, exists_eq_left', exists_eq_left, keyOf, implies_true, fillC, capOf]
      refine ⟨m2 - 1, by omega, r, i + 1, v, by omega, hqr, hrd, fun d hd => ?_, hpN, b5, bv, hv, f2, f4, f5, eqI (natI _)⟩
      rw [hts] at hd
      rcases List.mem_append.1 hd with hd | hd
      · exact hall d hd
      · rw [List.mem_singleton.1 hd]; exact hall2
  · have : i = (pick x y z q).length := by omega
    subst this
    rw [List.take_length] at hall
    have hsub : ∀ d ∈ pick x y z q, d ∈ pick x y z r := fun d hd => by
      obtain ⟨h1, h2⟩ := (mem_pick hS).1 hd
      exact (mem_pick hS).2 ⟨h1, hqr d h1 h2⟩
    have hle := nodup_sub (pick_ok hS q).nodup hsub
    have hrl := pick_len hS r
    have hb5l := b5.lt
    simp (disch := omega) only [f2, f4, f5, f6, b5.cell, c4.cell, ↓SXd, SXu, slBounds, ↓sop, ↓aop, ↓reduceIte, LV.cells, AOp.dst, LV.I, LV.B, LV.U, LV.S, LV.nil, Nat.reduceEqDiff, Nat.reduceAdd, Nat.reduceMul, Nat.reduceSub, Nat.reduceLeDiff, Nat.reduceBEq, Nat.reduceDiv, Nat.reduceMod, Int.reduceToNat, Int.reduceLT, Int.reduceLE, Int.reduceAdd, Int.reduceSub, Int.reduceMul, Int.reduceEq, Int.reduceNeg, reduceCtorEq, resV, resAll, ARes.ev, LV.flat, ite_true, ite_false, exists_eq_left', exists_eq_left, keyOf, implies_true, fillC, capOf]
    by_cases heq : ((pick x y z r).length : Int) = (pick x y z q).length
    · have hrq : ∀ d, d.inBox x y z → r d = true → q d = true := fun d hd hr => by
        have := cover hS (pick_ok hS q).nodup hsub (by omega) ((mem_pick hS).2 ⟨hd, hr⟩)
        exact ((mem_pick hS).1 this).2
      have hst : StairP x y z q := stair_step.2 fun c hc hq k hk h0 => hrq _ (decC_box hc hk h0) (hall c ((mem_pick hS).2 ⟨hc, hq⟩) k hk (by rw [dec_at hk] at h0; exact h0))
      have hfin : pick x y z q = pick x y z (dnB x y z fun d => decide (d ∈ cs)) := pick_congr hS fun d hd => by
        rw [Bool.eq_iff_iff]
        exact ⟨hqd d hd, fun h => dn_least hS hst (fun c hc hp => hcq c hc (of_decide_eq_true hp)) hd h⟩
      simp (disch := omega) only [f2, f4, f5, f6, heq, c4.cells, ↓SXd, SXu, slBounds, ↓sop, ↓aop, ↓reduceIte, LV.cells, AOp.dst, LV.I, LV.B, LV.U, LV.S, LV.nil, Nat.reduceEqDiff, Nat.reduceAdd, Nat.reduceMul, Nat.reduceSub, Nat.reduceLeDiff, Nat.reduceBEq, Nat.reduceDiv, Nat.reduceMod, Int.reduceToNat, Int.reduceLT, Int.reduceLE, Int.reduceAdd, Int.reduceSub, Int.reduceMul, Int.reduceEq, Int.reduceNeg, reduceCtorEq, resV, resAll, ARes.ev, LV.flat, ite_true, ite_false, exists_eq_left', exists_eq_left, keyOf, implies_true, fillC, capOf]
      refine memK_box (b2.pre hpN) (by simp) fun N3 k1 k2 k3 => ?_
      simp (disch := omega) only [f2, f4, f5, f6, k2.cells, ↓SXd, SXu, slBounds, ↓sop, ↓aop, ↓reduceIte, LV.cells, AOp.dst, LV.I, LV.B, LV.U, LV.S, LV.nil, Nat.reduceEqDiff, Nat.reduceAdd, Nat.reduceMul, Nat.reduceSub, Nat.reduceLeDiff, Nat.reduceBEq, Nat.reduceDiv, Nat.reduceMod, Int.reduceToNat, Int.reduceLT, Int.reduceLE, Int.reduceAdd, Int.reduceSub, Int.reduceMul, Int.reduceEq, Int.reduceNeg, reduceCtorEq, resV, resAll, ARes.ev, LV.flat, ite_true, ite_false, exists_eq_left', exists_eq_left, keyOf, implies_true, fillC, capOf]
      refine ⟨.inl ⟨u, ?_, ?_, hu⟩, pre_step (hpre.trans hpN) (by omega) (j := 0) k1 k3⟩
      · unfold leastOf; rw [← hfin]
      · unfold leastOf; rw [← hfin]; exact live_step cu (bu.ne_esz b2 (by decide)) k3
    · simp (disch := omega) only [f2, f4, f5, f6, heq, b5.cells, ↓SXd, SXu, slBounds, ↓sop, ↓aop, ↓reduceIte, LV.cells, AOp.dst, LV.I, LV.B, LV.U, LV.S, LV.nil, Nat.reduceEqDiff, Nat.reduceAdd, Nat.reduceMul, Nat.reduceSub, Nat.reduceLeDiff, Nat.reduceBEq, Nat.reduceDiv, Nat.reduceMod, Int.reduceToNat, Int.reduceLT, Int.reduceLE, Int.reduceAdd, Int.reduceSub, Int.reduceMul, Int.reduceEq, Int.reduceNeg, reduceCtorEq, resV, resAll, ARes.ev, LV.flat, ite_true, ite_false, exists_eq_left', exists_eq_left, keyOf, implies_true, fillC, capOf]
      refine memK_box c4 (by simp) fun N3 k1 k2 k3 => ?_
      simp (disch := omega) only [f2, f4, f5, f6, ↓SXd, SXu, slBounds, ↓sop, ↓aop, ↓reduceIte, LV.cells, AOp.dst, LV.I, LV.B, LV.U, LV.S, LV.nil, Nat.reduceEqDiff, Nat.reduceAdd, Nat.reduceMul, Nat.reduceSub, Nat.reduceLeDiff, Nat.reduceBEq, Nat.reduceDiv, Nat.reduceMod, Int.reduceToNat, Int.reduceLT, Int.reduceLE, Int.reduceAdd, Int.reduceSub, Int.reduceMul, Int.reduceEq, Int.reduceNeg, reduceCtorEq, resV, resAll, ARes.ev, LV.flat, ite_true, ite_false, exists_eq_left', exists_eq_left, keyOf, implies_true, fillC, capOf]
      exact ⟨65 - (pick x y z r).length, by omega, r, v, by omega, fun d hd h => hqr d hd (hcq d hd h), hrd, pre_step (hpre.trans hpN) (by omega) (j := 0) k1 k3, live_step (b2.pre hpN) (by omega) k3, k2, live_step bv (by omega) k3, by omega, f2, f4⟩
end Go.Ab

/- The abstract code of some functions (written by a program of mine from the translation, by way of prepF). -/
namespace Go.Ab.C
open Go.Ab
end Go.Ab.C

/- That the program has this code. -/
namespace Go.Ab.K
open Go Go.Ab
end Go.Ab.K

/- Contracts: the shadows that a law draws. -/
namespace Go.Ab
open Go
set_option linter.unusedSimpArgs false
set_option linter.unusedVariables false
set_option maxRecDepth 20000

/-- A heap whose cells lie in a block of their own. -/
def HeapL (v : LV) (N : Mem) : Prop := ∃ (x y z : Int) (cs : List Cell) (u : Nat), v = .agg [.I x, .I y, .I z, .ref u 0 cs.length] ∧ Live N u (.row (triL cs) true 3) ∧ cs.length ≤ 65
theorem CurAt.ne3 {M : Mem} {p t o a u : Nat} {bs : List Nat} {cs : List LV} {w : Bool} (h : CurAt M p t o bs a) (hu : Live M u (.row cs w 3)) : u ≠ p := by
  obtain ⟨⟨_, _, _, hp⟩, _⟩ := h
  exact hu.ne_esz hp (by decide)
/-- A drawn shadow: its lists lie in new blocks. -/
def ShdL (M : Mem) (v : LV) (N : Mem) : Prop := ∃ (x y z : Int) (tp fr sd : List Int) (a b c : Nat), v = .agg [.I x, .I y, .I z, .ref a 0 tp.length, .ref b 0 fr.length, .ref c 0 sd.length] ∧
  Live N a (.row (intL tp) true 1) ∧ Live N b (.row (intL fr) true 1) ∧ Live N c (.row (intL sd) true 1) ∧ M.length ≤ a ∧ M.length ≤ b ∧ M.length ≤ c ∧ tp.length ≤ 17 ∧ fr.length ≤ 17 ∧ sd.length ≤ 17
section
variable {t o : Nat} {bs : List Nat} {M : Mem} (hB : Bytes M t o bs) (h255 : ∀ b ∈ bs, b ≤ 255) (hl : bs.length ≤ 1000000000)
include hB h255 hl
end
end Go.Ab

/- Contracts: staircases that the laws draw. -/
namespace Go.Ab
open Go
set_option linter.unusedSimpArgs false
set_option linter.unusedVariables false
set_option maxRecDepth 20000

section
variable {t o : Nat} {bs : List Nat} {M : Mem} (hB : Bytes M t o bs) (h255 : ∀ b ∈ bs, b ≤ 255) (hl : bs.length ≤ 1000000000)
include hB h255 hl
end
end Go.Ab
