/- Parts of the proof of FnExactIsPackingSaid: Yg Yh Yi LIsPacking. -/
import Derived.Test.YtjndofbhdogblaaA7
import Derived.Test.YtjndofbhdogblaaA5
import Derived.Test.YtjndofbhdogblaaA4
import Derived.Test.YtjndofbhdogblaaA6
set_option linter.all false
/- Plain: packings, as both sides see them. -/
namespace Go.Ab
open Go
set_option linter.unusedSimpArgs false
set_option linter.unusedVariables false

def atL (y z : Int) (xs : List Int) (c : Cell) : Int := xs.getD (idx y z c).toNat 0
/-- The cells with a number. -/
def fib (x y z : Int) (xs : List Int) (k : Nat) : List Cell := pick x y z fun c => decide (atL y z xs c = k)
/-- The free cells without those of the first pieces. -/
def leftP (y z : Int) (cs : List Cell) (xs : List Int) (i : Nat) (c : Cell) : Bool := freeP cs c && !decide (0 ≤ atL y z xs c ∧ atL y z xs c < i)
def negC (c : Cell) : Cell := ⟨-c.a, -c.b, -c.c⟩
/-- Where the program tries a piece. -/
def tryAt (x y z : Int) (L : List (List Cell)) (xs : List Int) (i : Nat) : Cell := shift (negC ((L.getD i []).getD 0 default)) ((fib x y z xs i).getD 0 default)
def StepOK (x y z : Int) (cs : List Cell) (L : List (List Cell)) (xs : List Int) (i : Nat) : Prop :=
  fib x y z xs i ≠ [] ∧ PlacedOK x y z (leftP y z cs xs i) (L.getD i []) (tryAt x y z L xs i) ∧ ∀ d, d.inBox x y z → (d ∈ (L.getD i []).map (shift (tryAt x y z L xs i)) ↔ d ∈ fib x y z xs i)
def ImplPk (x y z : Int) (cs : List Cell) (L : List (List Cell)) (xs : List Int) : Prop :=
  xs.length = vol x y z ∧ (∀ v ∈ xs, -1 ≤ v ∧ v ≤ (L.length : Int) - 1) ∧ (∀ i, i < L.length → StepOK x y z cs L xs i) ∧ ∀ c, c.inBox x y z → leftP y z cs xs L.length c = false
def DiffOK (x y z : Int) (L : List (List Cell)) (xs : List Int) (k : Nat) : Prop :=
  (fib x y z xs k).length = (L.getD k []).length ∧ ∀ i, 1 ≤ i → i < (fib x y z xs k).length → ∀ d : Nat, d < 3 → Cell.at ((fib x y z xs k).getD i default) (d : Int) - Cell.at ((fib x y z xs k).getD 0 default) (d : Int) = Cell.at ((L.getD k []).getD i default) (d : Int) - Cell.at ((L.getD k []).getD 0 default) (d : Int)
def SpecPk (x y z : Int) (cs : List Cell) (L : List (List Cell)) (xs : List Int) : Prop :=
  xs.length = vol x y z ∧ tot L + cs.length = vol x y z ∧ (∀ i, i < vol x y z → (-1 ≤ xs.getD i 0 ∧ xs.getD i 0 ≤ (L.length : Int) - 1) ∧ (xs.getD i 0 < 0 ↔ cellAt y z i ∈ cs)) ∧ ∀ k, k < L.length → DiffOK x y z L xs k

theorem low_ex : ∀ {l : List Cell} {s : Cell}, (lowC s l).a = 0 → 0 < s.a → ∃ c ∈ l, c.a ≤ 0
  | [], s, h, hs => by unfold lowC at h; simp at h; omega
  | c :: l, s, h, hs => by
    by_cases h0 : c.a ≤ 0
    · exact ⟨c, by simp, h0⟩
    · obtain ⟨d, hd, h1⟩ := low_ex (l := l) (s := minC s c) h (by unfold minC; simp only; omega)
      exact ⟨d, by simp [hd], h1⟩
theorem low_exb : ∀ {l : List Cell} {s : Cell}, (lowC s l).b = 0 → 0 < s.b → ∃ c ∈ l, c.b ≤ 0
  | [], s, h, hs => by unfold lowC at h; simp at h; omega
  | c :: l, s, h, hs => by
    by_cases h0 : c.b ≤ 0
    · exact ⟨c, by simp, h0⟩
    · obtain ⟨d, hd, h1⟩ := low_exb (l := l) (s := minC s c) h (by unfold minC; simp only; omega)
      exact ⟨d, by simp [hd], h1⟩
theorem low_exc : ∀ {l : List Cell} {s : Cell}, (lowC s l).c = 0 → 0 < s.c → ∃ c ∈ l, c.c ≤ 0
  | [], s, h, hs => by unfold lowC at h; simp at h; omega
  | c :: l, s, h, hs => by
    by_cases h0 : c.c ≤ 0
    · exact ⟨c, by simp, h0⟩
    · obtain ⟨d, hd, h1⟩ := low_exc (l := l) (s := minC s c) h (by unfold minC; simp only; omega)
      exact ⟨d, by simp [hd], h1⟩
theorem shift_lt {p c d : Cell} (h : c.lt d) : (shift p c).lt (shift p d) := by
  unfold Cell.lt shift at *; simp only; omega
theorem countP_add {α : Type} {l : List α} {p q r : α → Bool} (h : ∀ a ∈ l, (r a = true ↔ p a = true ∨ q a = true) ∧ ¬ (p a = true ∧ q a = true)) : l.countP r = l.countP p + l.countP q := by
  induction l with
  | nil => rfl
  | cons a l ih =>
    have ha := h a (by simp)
    rw [List.countP_cons, List.countP_cons, List.countP_cons, ih fun b hb => h b (by simp [hb])]
    cases hp : p a <;> cases hq : q a <;> cases hr : r a <;> simp_all <;> omega
section
variable {x y z : Int} {cs : List Cell} {L : List (List Cell)} {xs : List Int} (hA : AskOK x y z cs L)
include hA
theorem pk_total (hx : ∀ c, c.inBox x y z → atL y z xs c < L.length) (hneg : ∀ c, c.inBox x y z → (atL y z xs c < 0 ↔ c ∈ cs)) (hf : ∀ k, k < L.length → (fib x y z xs k).length = (L.getD k []).length) : tot L + cs.length = vol x y z := by
  have hS := hA.2.1.1
  have hcl : (cellsOf x y z).length = vol x y z := by simp [cellsOf]
  have key : ∀ m, m ≤ L.length → (cellsOf x y z).countP (fun c => decide (atL y z xs c < m)) = (cellsOf x y z).countP (fun c => decide (atL y z xs c < 0)) + tot (L.take m) := by
    intro m
    induction m with
    | zero => intro _; simp [tot]
    | succ m ih =>
      intro hm
      rw [tot_take_succ (by omega), ← hf m (by omega), ← Nat.add_assoc, ← ih (by omega)]
      unfold fib pick
      rw [← List.countP_eq_length_filter]
      refine countP_add fun c _ => ?_
      simp only [decide_eq_true_eq]
      omega
  have h1 := key L.length (Nat.le_refl _)
  rw [List.take_length] at h1
  have h2 : (cellsOf x y z).countP (fun c => decide (atL y z xs c < L.length)) = vol x y z := by
    rw [List.countP_eq_length.2 (fun c hc => decide_eq_true (hx c ((mem_cellsOf hS).1 hc))), hcl]
  have h3 : (cellsOf x y z).countP (fun c => decide (atL y z xs c < 0)) = cs.length := by
    conv => rhs; rw [hA.2.1.pick]
    unfold pick
    rw [← List.countP_eq_length_filter]
    refine List.countP_congr fun c hc => ?_
    simp only [decide_eq_true_eq]
    exact hneg c ((mem_cellsOf hS).1 hc)
  omega
theorem pk_iff : SpecPk x y z cs L xs ↔ ImplPk x y z cs L xs := by
  have hS := hA.2.1.1
  have hv := vol_cast hS
  have hfm := fun k c => mem_pick hS (p := fun c => decide (atL y z xs c = (k : Nat))) (c := c)
  have hidx : ∀ c, c.inBox x y z → (idx y z c).toNat < vol x y z ∧ cellAt y z ((idx y z c).toNat : Nat) = c := fun c hc => by
    obtain ⟨h1, h2, h3⟩ := idx_in hS hc
    refine ⟨by omega, ?_⟩
    rw [show (((idx y z c).toNat : Nat) : Int) = idx y z c by omega]; exact h3
  constructor
  · rintro ⟨h1, h2, h3, h4⟩
    have hb : ∀ c, c.inBox x y z → (-1 ≤ atL y z xs c ∧ atL y z xs c ≤ (L.length : Int) - 1) ∧ (atL y z xs c < 0 ↔ c ∈ cs) := fun c hc => by
      obtain ⟨h5, h6⟩ := hidx c hc
      have := h3 _ h5
      rw [h6] at this; exact this
    refine ⟨h1, fun v hv' => ?_, fun k hk => ?_, fun c hc => ?_⟩
    · obtain ⟨i, hi, rfl⟩ := List.getElem_of_mem hv'
      have := (h3 i (by omega)).1
      simpa [hi] using this
    · obtain ⟨h5, h6⟩ := h4 k hk
      have hP := hA.1 _ (getD_mem' (d := []) hk)
      generalize hl : L.getD k [] = l at h5 h6 hP
      have hl1 := hP.1.1
      have hmap : fib x y z xs k = l.map (shift (tryAt x y z L xs k)) := by
        apply List.ext_getElem (by rw [List.length_map]; exact h5)
        intro i hi1 hi2
        rw [List.length_map] at hi2
        have e0 : tryAt x y z L xs k = shift (negC (l.getD 0 default)) ((fib x y z xs k).getD 0 default) := by unfold tryAt; rw [hl]
        rw [List.getElem_map]
        show (fib x y z xs k)[i] = shift (tryAt x y z L xs k) l[i]
        have g1 : (fib x y z xs k)[i] = (fib x y z xs k).getD i default := by simp [hi1]
        have g2 : l[i] = l.getD i default := by simp [hi2]
        rw [g1, g2, e0]
        rcases Nat.eq_zero_or_pos i with h0 | h0
        · subst h0
          rw [cell_eq]
          unfold shift negC
          simp only; omega
        · have d0 := h6 i h0 hi1 0 (by omega)
          have d1 := h6 i h0 hi1 1 (by omega)
          have d2 := h6 i h0 hi1 2 (by omega)
          have a0 : ∀ c : Cell, c.at 0 = c.a := fun c => rfl
          have a1 : ∀ c : Cell, c.at 1 = c.b := fun c => rfl
          have a2 : ∀ c : Cell, c.at 2 = c.c := fun c => rfl
          rw [show ((0 : Nat) : Int) = 0 from rfl, a0, a0, a0, a0] at d0
          rw [show ((1 : Nat) : Int) = 1 from rfl, a1, a1, a1, a1] at d1
          rw [show ((2 : Nat) : Int) = 2 from rfl, a2, a2, a2, a2] at d2
          rw [cell_eq]
          unfold shift negC
          simp only; omega
      have hmem : ∀ c ∈ l, shift (tryAt x y z L xs k) c ∈ fib x y z xs k := fun c hc => by rw [hmap]; exact List.mem_map.2 ⟨c, hc, rfl⟩
      have hin : ∀ c ∈ l, c.inBox 4 4 4 := fun c hc => hP.2.1.mem hc
      refine ⟨fun e => by rw [e] at h5; simp at h5; omega, ⟨?_, fun c hc => ?_⟩, fun d _ => by rw [hl, hmap]⟩
      · obtain ⟨_, _, hlow⟩ := hP
        rw [cell_eq] at hlow
        obtain ⟨c0, m0, e0⟩ := low_ex hlow.1 (by simp)
        obtain ⟨c1, m1, e1⟩ := low_exb hlow.2.1 (by simp)
        obtain ⟨c2, m2, e2⟩ := low_exc hlow.2.2 (by simp)
        have q0 := ((hfm k _).1 (hmem c0 m0)).1
        have q1 := ((hfm k _).1 (hmem c1 m1)).1
        have q2 := ((hfm k _).1 (hmem c2 m2)).1
        have i0 := hin c0 m0
        have i1 := hin c1 m1
        have i2 := hin c2 m2
        obtain ⟨hx, hy, hz⟩ := hS
        obtain ⟨⟨_, _⟩, _, _⟩ := q0
        obtain ⟨_, ⟨_, _⟩, _⟩ := q1
        obtain ⟨_, _, ⟨_, _⟩⟩ := q2
        obtain ⟨⟨_, _⟩, _, _⟩ := i0
        obtain ⟨_, ⟨_, _⟩, _⟩ := i1
        obtain ⟨_, _, ⟨_, _⟩⟩ := i2
        generalize tryAt x y z L xs k = T at *
        unfold shift at *
        simp only at *
        unfold At4
        omega
      · rw [hl] at hc
        have := (hfm k _).1 (hmem c hc)
        have he := of_decide_eq_true this.2
        refine ⟨this.1, ?_⟩
        unfold leftP freeP
        rw [he, decide_eq_false (fun hm => by have := (hb _ this.1).2.2 hm; omega), decide_eq_false (by omega)]; rfl
    · have := hb c hc
      unfold leftP freeP
      by_cases hm : c ∈ cs
      · rw [decide_eq_true hm]; rfl
      · have : ¬ atL y z xs c < 0 := fun h => hm (this.2.1 h)
        rw [decide_eq_true (show 0 ≤ atL y z xs c ∧ atL y z xs c < L.length by omega)]; simp
  · rintro ⟨h1, h2, h3, h4⟩
    have hr : ∀ c, c.inBox x y z → -1 ≤ atL y z xs c ∧ atL y z xs c ≤ (L.length : Int) - 1 := fun c hc => by
      obtain ⟨h5, h6⟩ := hidx c hc
      unfold atL
      exact h2 _ (getD_mem' (by omega))
    have hmap : ∀ k, k < L.length → fib x y z xs k = (L.getD k []).map (shift (tryAt x y z L xs k)) := fun k hk => by
      obtain ⟨_, h6, h7⟩ := h3 k hk
      have hP := hA.1 _ (getD_mem' (d := []) hk)
      refine sorted_ext (pick_sorted hS _) ?_ fun c => ?_
      · exact List.pairwise_map.2 (hP.2.1.sorted.imp fun h => shift_lt h)
      · constructor
        · intro hc; exact (h7 c ((hfm k c).1 hc).1).2 hc
        · intro hc
          obtain ⟨d, hd, rfl⟩ := List.mem_map.1 hc
          exact (h7 _ (h6.2 d hd).1).1 hc
    have hneg : ∀ c, c.inBox x y z → (atL y z xs c < 0 ↔ c ∈ cs) := fun c hc => by
      constructor
      · intro hlt
        refine Classical.byContradiction fun hm => ?_
        have := h4 c hc
        unfold leftP freeP at this
        rw [decide_eq_false hm, decide_eq_false (by omega)] at this
        cases this
      · intro hm
        refine Classical.byContradiction fun hge => ?_
        have hrc := hr c hc
        have hk : (atL y z xs c).toNat < L.length := by omega
        have hcf : c ∈ fib x y z xs (atL y z xs c).toNat := (hfm _ c).2 ⟨hc, decide_eq_true (by omega)⟩
        rw [hmap _ hk] at hcf
        obtain ⟨d, hd, e⟩ := List.mem_map.1 hcf
        have := ((h3 _ hk).2.1.2 d hd).2
        rw [e] at this
        unfold leftP freeP at this
        rw [decide_eq_true hm] at this
        cases this
    refine ⟨h1, pk_total hA (xs := xs) (fun c hc => by have := hr c hc; omega) hneg (fun k hk => by rw [hmap k hk, List.length_map]), fun i hi => ?_, fun k hk => ⟨by rw [hmap k hk, List.length_map], fun i hi1 hi2 d hd => ?_⟩⟩
    · have hci := cellAt_in hS (i := (i : Int)) (by omega) (by omega)
      have e : atL y z xs (cellAt y z i) = xs.getD i 0 := by unfold atL; rw [hci.2, Int.toNat_natCast]
      rw [← e]
      exact ⟨hr _ hci.1, hneg _ hci.1⟩
    · rw [hmap k hk] at hi2 ⊢
      rw [List.length_map] at hi2
      have g : ∀ j, j < (L.getD k []).length → ((L.getD k []).map (shift (tryAt x y z L xs k))).getD j default = shift (tryAt x y z L xs k) ((L.getD k []).getD j default) := fun j hj => by
        generalize L.getD k [] = l at hj
        simp [hj]
      rw [g i hi2, g 0 (Nat.lt_of_le_of_lt (Nat.zero_le _) hi2)]
      have a0 : ∀ c : Cell, c.at 0 = c.a := fun c => rfl
      have a1 : ∀ c : Cell, c.at 1 = c.b := fun c => rfl
      have a2 : ∀ c : Cell, c.at 2 = c.c := fun c => rfl
      generalize tryAt x y z L xs k = T
      rcases (show d = 0 ∨ d = 1 ∨ d = 2 by omega) with rfl | rfl | rfl
      · show Cell.at _ 0 - Cell.at _ 0 = Cell.at _ 0 - Cell.at _ 0
        rw [a0, a0, a0, a0]; unfold shift; simp only; omega
      · show Cell.at _ 1 - Cell.at _ 1 = Cell.at _ 1 - Cell.at _ 1
        rw [a1, a1, a1, a1]; unfold shift; simp only; omega
      · show Cell.at _ 2 - Cell.at _ 2 = Cell.at _ 2 - Cell.at _ 2
        rw [a2, a2, a2, a2]; unfold shift; simp only; omega
end
end Go.Ab

/- Contracts: packings, the reference's side. -/
namespace Go.Ab
open Go
set_option linter.unusedSimpArgs false
set_option linter.unusedVariables false
set_option maxRecDepth 20000

noncomputable instance {x y z : Int} {cs : List Cell} {L : List (List Cell)} {xs : List Int} : Decidable (SpecPk x y z cs L xs) := Classical.propDecidable _
theorem ask_tot {x y z : Int} {cs : List Cell} {L : List (List Cell)} (hA : AskOK x y z cs L) : tot L ≤ 40 := by
  have := tot_le (n := 5) (L := L) fun l hl => (hA.1 l hl).1.2
  have := hA.2.2
  omega
theorem h_l9Cells {L : List (List Cell)} {u : Nat} {M : Mem} (hP : Pcs M u L) (hL : L.length ≤ 1000000) (ht : tot L ≤ 1000000) : CallsTo PG F.spec_l9Cells [.ref u 0 L.length] M (.I (tot L : Nat)) M := by
  refine calls_run K.spec_l9Cells rfl ?_
  simp (disch := omega) only [C.spec_l9Cells, ↓SXd, SXu, slBounds, ↓sop, ↓aop, ↓reduceIte, LV.cells, AOp.dst, LV.I, LV.B, LV.U, LV.S, LV.nil, Nat.reduceEqDiff, Nat.reduceAdd, Nat.reduceMul, Nat.reduceSub, Nat.reduceLeDiff, Nat.reduceBEq, Nat.reduceDiv, Nat.reduceMod, Int.reduceToNat, Int.reduceLT, Int.reduceLE, Int.reduceAdd, Int.reduceSub, Int.reduceMul, Int.reduceEq, Int.reduceNeg, reduceCtorEq, resV, resAll, ARes.ev, LV.flat, ite_true, ite_false, exists_eq_left', exists_eq_left, keyOf, implies_true, fillC, capOf]
  refine ev_loop (fun m fr M' => ∃ i : Nat, i + m = L.length ∧ M' = M ∧ fr 0 = .ref u 0 L.length ∧ fr 3 = .I (tot (L.take i) : Nat) ∧ fr 4 = .I i) L.length
    ⟨0, by omega, rfl, rfl, rfl, rfl⟩ ?_
  rintro m fr M' ⟨i, hi, rfl, f0, f3, f4⟩
  simp (disch := omega) only [f0, f3, f4, ↓SXd, SXu, slBounds, ↓sop, ↓aop, ↓reduceIte, LV.cells, AOp.dst, LV.I, LV.B, LV.U, LV.S, LV.nil, Nat.reduceEqDiff, Nat.reduceAdd, Nat.reduceMul, Nat.reduceSub, Nat.reduceLeDiff, Nat.reduceBEq, Nat.reduceDiv, Nat.reduceMod, Int.reduceToNat, Int.reduceLT, Int.reduceLE, Int.reduceAdd, Int.reduceSub, Int.reduceMul, Int.reduceEq, Int.reduceNeg, reduceCtorEq, resV, resAll, ARes.ev, LV.flat, ite_true, ite_false, exists_eq_left', exists_eq_left, keyOf, implies_true, fillC, capOf]
  refine condC_dec (fun hlt => ?_) (fun hlt => ?_)
  · have hil : i < L.length := by omega
    obtain ⟨v, o', hg, hT⟩ := hP.get hil
    have hts := tot_take_succ hil
    have htl := tot_take_le (L := L) (i := i + 1)
    simp (disch := omega) only [f0, f3, f4, hg, Nat.mul_one, Nat.zero_add, ↓SXd, SXu, slBounds, ↓sop, ↓aop, ↓reduceIte, LV.cells, AOp.dst, LV.I, LV.B, LV.U, LV.S, LV.nil, Nat.reduceEqDiff, Nat.reduceAdd, Nat.reduceMul, Nat.reduceSub, Nat.reduceLeDiff, Nat.reduceBEq, Nat.reduceDiv, Nat.reduceMod, Int.reduceToNat, Int.reduceLT, Int.reduceLE, Int.reduceAdd, Int.reduceSub, Int.reduceMul, Int.reduceEq, Int.reduceNeg, reduceCtorEq, resV, resAll, ARes.ev, LV.flat, ite_true, ite_false, exists_eq_left', exists_eq_left, keyOf, implies_true, fillC, capOf]
    exact ⟨m - 1, by omega, i + 1, by omega, rfl, f0, eqI (by omega), eqI (natI _)⟩
  · simp (disch := omega) only [f0, f3, f4, ↓SXd, SXu, slBounds, ↓sop, ↓aop, ↓reduceIte, LV.cells, AOp.dst, LV.I, LV.B, LV.U, LV.S, LV.nil, Nat.reduceEqDiff, Nat.reduceAdd, Nat.reduceMul, Nat.reduceSub, Nat.reduceLeDiff, Nat.reduceBEq, Nat.reduceDiv, Nat.reduceMod, Int.reduceToNat, Int.reduceLT, Int.reduceLE, Int.reduceAdd, Int.reduceSub, Int.reduceMul, Int.reduceEq, Int.reduceNeg, reduceCtorEq, resV, resAll, ARes.ev, LV.flat, ite_true, ite_false, exists_eq_left', exists_eq_left, keyOf, implies_true, fillC, capOf]
    have : i = L.length := by omega
    subst this
    rw [List.take_length]
    exact cmp_drop0 rfl

theorem h_l9Packing {x y z : Int} {t o u q r : Nat} {cs : List Cell} {L : List (List Cell)} {xs : List Int} {M : Mem} (h : Tri M t o cs) (hP : Pcs M u L) (hX : Ints M q r xs) (hA : AskOK x y z cs L) (hxn : xs.length ≤ 1000000000) :
    CallsTo PG F.spec_l9Packing [.agg [.I x, .I y, .I z, .ref t o cs.length], .ref u 0 L.length, .ref q r xs.length] M (.B (decide (SpecPk x y z cs L xs))) M := by
  have hH := hA.2.1
  have hS := hH.1
  have hv := vol_cast hS
  have hcn := hH.len
  have hto := ask_tot hA
  have hL8 := hA.2.2
  have hcl : (cellsOf x y z).length = vol x y z := by simp [cellsOf]
  have ht := h.lt
  have hce : ∀ i, i < vol x y z → (cellsOf x y z).getD i default = cellAt y z i := fun i hi => by simp [cellsOf, hi]
  have hat : ∀ i, i < vol x y z → atL y z xs (cellAt y z i) = xs.getD i 0 := fun i hi => by
    have := (cellAt_in hS (i := (i : Int)) (by omega) (by omega)).2
    unfold atL; rw [this, Int.toNat_natCast]
  have hno : ¬ SpecPk x y z cs L xs → ∀ {N : Mem}, Pre M N → Cmp M N (.val (.bool false)) M (.val (.bool (decide (SpecPk x y z cs L xs)))) := fun hp N hN => by
    rw [decide_eq_false hp]; exact cmp_pre hN rfl
  refine calls_run K.spec_l9Packing rfl ?_
  simp (disch := omega) only [C.spec_l9Packing, ↓SXd, SXu, slBounds, ↓sop, ↓aop, ↓reduceIte, LV.cells, AOp.dst, LV.I, LV.B, LV.U, LV.S, LV.nil, Nat.reduceEqDiff, Nat.reduceAdd, Nat.reduceMul, Nat.reduceSub, Nat.reduceLeDiff, Nat.reduceBEq, Nat.reduceDiv, Nat.reduceMod, Int.reduceToNat, Int.reduceLT, Int.reduceLE, Int.reduceAdd, Int.reduceSub, Int.reduceMul, Int.reduceEq, Int.reduceNeg, reduceCtorEq, resV, resAll, ARes.ev, LV.flat, ite_true, ite_false, exists_eq_left', exists_eq_left, keyOf, implies_true, fillC, capOf]
  refine callK_of (h_l2All hS) ?_
  simp (disch := omega) only [↓SXd, SXu, slBounds, ↓sop, ↓aop, ↓reduceIte, LV.cells, AOp.dst, LV.I, LV.B, LV.U, LV.S, LV.nil, Nat.reduceEqDiff, Nat.reduceAdd, Nat.reduceMul, Nat.reduceSub, Nat.reduceLeDiff, Nat.reduceBEq, Nat.reduceDiv, Nat.reduceMod, Int.reduceToNat, Int.reduceLT, Int.reduceLE, Int.reduceAdd, Int.reduceSub, Int.reduceMul, Int.reduceEq, Int.reduceNeg, reduceCtorEq, resV, resAll, ARes.ev, LV.flat, ite_true, ite_false, exists_eq_left', exists_eq_left, keyOf, implies_true, fillC, capOf]
  by_cases h1 : (xs.length : Int) = (cellsOf x y z).length
  · have h1' : xs.length = vol x y z := by omega
    simp (disch := omega) only [h1, ↓SXd, SXu, slBounds, ↓sop, ↓aop, ↓reduceIte, LV.cells, AOp.dst, LV.I, LV.B, LV.U, LV.S, LV.nil, Nat.reduceEqDiff, Nat.reduceAdd, Nat.reduceMul, Nat.reduceSub, Nat.reduceLeDiff, Nat.reduceBEq, Nat.reduceDiv, Nat.reduceMod, Int.reduceToNat, Int.reduceLT, Int.reduceLE, Int.reduceAdd, Int.reduceSub, Int.reduceMul, Int.reduceEq, Int.reduceNeg, reduceCtorEq, resV, resAll, ARes.ev, LV.flat, ite_true, ite_false, exists_eq_left', exists_eq_left, keyOf, implies_true, fillC, capOf]
    refine callK_of (h_l9Cells hP.app (by omega) (by omega)) ?_
    simp (disch := omega) only [↓SXd, SXu, slBounds, ↓sop, ↓aop, ↓reduceIte, LV.cells, AOp.dst, LV.I, LV.B, LV.U, LV.S, LV.nil, Nat.reduceEqDiff, Nat.reduceAdd, Nat.reduceMul, Nat.reduceSub, Nat.reduceLeDiff, Nat.reduceBEq, Nat.reduceDiv, Nat.reduceMod, Int.reduceToNat, Int.reduceLT, Int.reduceLE, Int.reduceAdd, Int.reduceSub, Int.reduceMul, Int.reduceEq, Int.reduceNeg, reduceCtorEq, resV, resAll, ARes.ev, LV.flat, ite_true, ite_false, exists_eq_left', exists_eq_left, keyOf, implies_true, fillC, capOf]
    by_cases h2 : ((tot L : Nat) : Int) + (cs.length : Nat) = ((cellsOf x y z).length : Nat)
    · have h2' : tot L + cs.length = vol x y z := by omega
      simp (disch := omega) only [h2, ↓SXd, SXu, slBounds, ↓sop, ↓aop, ↓reduceIte, LV.cells, AOp.dst, LV.I, LV.B, LV.U, LV.S, LV.nil, Nat.reduceEqDiff, Nat.reduceAdd, Nat.reduceMul, Nat.reduceSub, Nat.reduceLeDiff, Nat.reduceBEq, Nat.reduceDiv, Nat.reduceMod, Int.reduceToNat, Int.reduceLT, Int.reduceLE, Int.reduceAdd, Int.reduceSub, Int.reduceMul, Int.reduceEq, Int.reduceNeg, reduceCtorEq, resV, resAll, ARes.ev, LV.flat, ite_true, ite_false, exists_eq_left', exists_eq_left, keyOf, implies_true, fillC, capOf]
      refine ev_loop (fun m fr M' => ∃ i : Nat, i + m = (cellsOf x y z).length ∧ M' = M ++ [some (.row [.I x, .I y, .I z, .ref t o cs.length] true 0), some (.row (triL (cellsOf x y z)) true 3)] ∧ (∀ j, j < i → (-1 ≤ xs.getD j 0 ∧ xs.getD j 0 ≤ (L.length : Int) - 1) ∧ (xs.getD j 0 < 0 ↔ cellAt y z j ∈ cs)) ∧
        fr 1 = .ref u 0 L.length ∧ fr 2 = .ref q r xs.length ∧ fr 3 = .ptr M.length 0 ∧ fr 7 = .ref (M.length + 1) 0 (cellsOf x y z).length ∧ fr 8 = .I i) (cellsOf x y z).length
        ⟨0, by omega, rfl, by omega, rfl, rfl, rfl, rfl, rfl⟩ ?_
      rintro m fr M' ⟨i, hi, rfl, hall, f1, f2, f3, f7, f8⟩
      simp (disch := omega) only [f1, f2, f3, f7, f8, ↓SXd, SXu, slBounds, ↓sop, ↓aop, ↓reduceIte, LV.cells, AOp.dst, LV.I, LV.B, LV.U, LV.S, LV.nil, Nat.reduceEqDiff, Nat.reduceAdd, Nat.reduceMul, Nat.reduceSub, Nat.reduceLeDiff, Nat.reduceBEq, Nat.reduceDiv, Nat.reduceMod, Int.reduceToNat, Int.reduceLT, Int.reduceLE, Int.reduceAdd, Int.reduceSub, Int.reduceMul, Int.reduceEq, Int.reduceNeg, reduceCtorEq, resV, resAll, ARes.ev, LV.flat, ite_true, ite_false, exists_eq_left', exists_eq_left, keyOf, implies_true, fillC, capOf]
      refine condC_dec (fun hlt => ?_) (fun hlt => ?_)
      · have hil : i < (cellsOf x y z).length := by omega
        have hx := Ints.get (hX.app (L := [some (.row [.I x, .I y, .I z, .ref t o cs.length] true 0), some (.row (triL (cellsOf x y z)) true 3)])) (k := i) (by omega)
        have hg := Live.tri0 (Live.newj (M := M) (L := [some (.row [.I x, .I y, .I z, .ref t o cs.length] true 0), some (.row (triL (cellsOf x y z)) true 3)]) (j := 1) (b := .row (triL (cellsOf x y z)) true 3) rfl) hil
        rw [hce i (by omega)] at hg
        have hbad : ∀ {P : Prop}, ((-1 ≤ xs.getD i 0 ∧ xs.getD i 0 ≤ (L.length : Int) - 1) ∧ (xs.getD i 0 < 0 ↔ cellAt y z i ∈ cs) → P) → SpecPk x y z cs L xs → P := fun h1 h2 => h1 (h2.2.2.1 i (by omega))
        generalize hxi : xs.getD i 0 = v at hx hbad
        generalize hci : cellAt y z i = c at hg hbad
        simp (disch := omega) only [f1, f2, f3, f7, f8, hx, Nat.mul_one, ↓SXd, SXu, slBounds, ↓sop, ↓aop, ↓reduceIte, LV.cells, AOp.dst, LV.I, LV.B, LV.U, LV.S, LV.nil, Nat.reduceEqDiff, Nat.reduceAdd, Nat.reduceMul, Nat.reduceSub, Nat.reduceLeDiff, Nat.reduceBEq, Nat.reduceDiv, Nat.reduceMod, Int.reduceToNat, Int.reduceLT, Int.reduceLE, Int.reduceAdd, Int.reduceSub, Int.reduceMul, Int.reduceEq, Int.reduceNeg, reduceCtorEq, resV, resAll, ARes.ev, LV.flat, ite_true, ite_false, exists_eq_left', exists_eq_left, keyOf, implies_true, fillC, capOf]
        refine callK_of (h_l1In) ?_
        simp (disch := omega) only [f1, f2, f3, f7, f8, ↓SXd, SXu, slBounds, ↓sop, ↓aop, ↓reduceIte, LV.cells, AOp.dst, LV.I, LV.B, LV.U, LV.S, LV.nil, Nat.reduceEqDiff, Nat.reduceAdd, Nat.reduceMul, Nat.reduceSub, Nat.reduceLeDiff, Nat.reduceBEq, Nat.reduceDiv, Nat.reduceMod, Int.reduceToNat, Int.reduceLT, Int.reduceLE, Int.reduceAdd, Int.reduceSub, Int.reduceMul, Int.reduceEq, Int.reduceNeg, reduceCtorEq, resV, resAll, ARes.ev, LV.flat, ite_true, ite_false, exists_eq_left', exists_eq_left, keyOf, implies_true, fillC, capOf]
        by_cases hr : -1 ≤ v ∧ v ≤ (L.length : Int) - 1
        · rw [decide_eq_true hr]
          simp (disch := omega) only [f1, f2, f3, f7, f8, hx, hg, Cell.row, Nat.mul_one, Nat.zero_add, ↓SXd, SXu, slBounds, ↓sop, ↓aop, ↓reduceIte, LV.cells, AOp.dst, LV.I, LV.B, LV.U, LV.S, LV.nil, Nat.reduceEqDiff, Nat.reduceAdd, Nat.reduceMul, Nat.reduceSub, Nat.reduceLeDiff, Nat.reduceBEq, Nat.reduceDiv, Nat.reduceMod, Int.reduceToNat, Int.reduceLT, Int.reduceLE, Int.reduceAdd, Int.reduceSub, Int.reduceMul, Int.reduceEq, Int.reduceNeg, reduceCtorEq, resV, resAll, ARes.ev, LV.flat, ite_true, ite_false, exists_eq_left', exists_eq_left, keyOf, implies_true, fillC, capOf]
          refine callK_of (h_l2Has h.app (by omega)) ?_
          simp (disch := omega) only [f1, f2, f3, f7, f8, ↓SXd, SXu, slBounds, ↓sop, ↓aop, ↓reduceIte, LV.cells, AOp.dst, LV.I, LV.B, LV.U, LV.S, LV.nil, Nat.reduceEqDiff, Nat.reduceAdd, Nat.reduceMul, Nat.reduceSub, Nat.reduceLeDiff, Nat.reduceBEq, Nat.reduceDiv, Nat.reduceMod, Int.reduceToNat, Int.reduceLT, Int.reduceLE, Int.reduceAdd, Int.reduceSub, Int.reduceMul, Int.reduceEq, Int.reduceNeg, reduceCtorEq, resV, resAll, ARes.ev, LV.flat, ite_true, ite_false, exists_eq_left', exists_eq_left, keyOf, implies_true, fillC, capOf]
          rw [cell_eta]
          by_cases hneg : v < 0
          · by_cases hm : c ∈ cs
            · rw [decide_eq_true hm, decide_eq_true hneg]
              simp (disch := omega) only [f1, f2, f3, f7, f8, ↓SXd, SXu, slBounds, ↓sop, ↓aop, ↓reduceIte, LV.cells, AOp.dst, LV.I, LV.B, LV.U, LV.S, LV.nil, Nat.reduceEqDiff, Nat.reduceAdd, Nat.reduceMul, Nat.reduceSub, Nat.reduceLeDiff, Nat.reduceBEq, Nat.reduceDiv, Nat.reduceMod, Int.reduceToNat, Int.reduceLT, Int.reduceLE, Int.reduceAdd, Int.reduceSub, Int.reduceMul, Int.reduceEq, Int.reduceNeg, reduceCtorEq, resV, resAll, ARes.ev, LV.flat, ite_true, ite_false, exists_eq_left', exists_eq_left, keyOf, implies_true, fillC, capOf]
              exact ⟨m - 1, by omega, i + 1, by omega, rfl, fun j hj => by
                rcases Nat.lt_or_ge j i with h3 | h3
                · exact hall j h3
                · rw [show j = i by omega, hxi, hci]; exact ⟨hr, ⟨fun _ => hm, fun _ => hneg⟩⟩, f1, f2, f3, f7, eqI (natI _)⟩
            · rw [decide_eq_false hm, decide_eq_true hneg, show (true == false) = false from rfl]
              simp (disch := omega) only [f1, f2, f3, f7, f8, ↓SXd, SXu, slBounds, ↓sop, ↓aop, ↓reduceIte, LV.cells, AOp.dst, LV.I, LV.B, LV.U, LV.S, LV.nil, Nat.reduceEqDiff, Nat.reduceAdd, Nat.reduceMul, Nat.reduceSub, Nat.reduceLeDiff, Nat.reduceBEq, Nat.reduceDiv, Nat.reduceMod, Int.reduceToNat, Int.reduceLT, Int.reduceLE, Int.reduceAdd, Int.reduceSub, Int.reduceMul, Int.reduceEq, Int.reduceNeg, reduceCtorEq, resV, resAll, ARes.ev, LV.flat, ite_true, ite_false, exists_eq_left', exists_eq_left, keyOf, implies_true, fillC, capOf]
              exact hno (hbad fun hh => hm (hh.2.1 hneg)) (Pre.app _ _)
          · by_cases hm : c ∈ cs
            · rw [decide_eq_true hm, decide_eq_false hneg, show (false == true) = false from rfl]
              simp (disch := omega) only [f1, f2, f3, f7, f8, ↓SXd, SXu, slBounds, ↓sop, ↓aop, ↓reduceIte, LV.cells, AOp.dst, LV.I, LV.B, LV.U, LV.S, LV.nil, Nat.reduceEqDiff, Nat.reduceAdd, Nat.reduceMul, Nat.reduceSub, Nat.reduceLeDiff, Nat.reduceBEq, Nat.reduceDiv, Nat.reduceMod, Int.reduceToNat, Int.reduceLT, Int.reduceLE, Int.reduceAdd, Int.reduceSub, Int.reduceMul, Int.reduceEq, Int.reduceNeg, reduceCtorEq, resV, resAll, ARes.ev, LV.flat, ite_true, ite_false, exists_eq_left', exists_eq_left, keyOf, implies_true, fillC, capOf]
              exact hno (hbad fun hh => hneg (hh.2.2 hm)) (Pre.app _ _)
            · rw [decide_eq_false hm, decide_eq_false hneg]
              simp (disch := omega) only [f1, f2, f3, f7, f8, ↓SXd, SXu, slBounds, ↓sop, ↓aop, ↓reduceIte, LV.cells, AOp.dst, LV.I, LV.B, LV.U, LV.S, LV.nil, Nat.reduceEqDiff, Nat.reduceAdd, Nat.reduceMul, Nat.reduceSub, Nat.reduceLeDiff, Nat.reduceBEq, Nat.reduceDiv, Nat.reduceMod, Int.reduceToNat, Int.reduceLT, Int.reduceLE, Int.reduceAdd, Int.reduceSub, Int.reduceMul, Int.reduceEq, Int.reduceNeg, reduceCtorEq, resV, resAll, ARes.ev, LV.flat, ite_true, ite_false, exists_eq_left', exists_eq_left, keyOf, implies_true, fillC, capOf]
              exact ⟨m - 1, by omega, i + 1, by omega, rfl, fun j hj => by
                rcases Nat.lt_or_ge j i with h3 | h3
                · exact hall j h3
                · rw [show j = i by omega, hxi, hci]; exact ⟨hr, ⟨fun h => absurd h hneg, fun h => absurd h hm⟩⟩, f1, f2, f3, f7, eqI (natI _)⟩
        · rw [decide_eq_false hr]
          simp (disch := omega) only [f1, f2, f3, f7, f8, ↓SXd, SXu, slBounds, ↓sop, ↓aop, ↓reduceIte, LV.cells, AOp.dst, LV.I, LV.B, LV.U, LV.S, LV.nil, Nat.reduceEqDiff, Nat.reduceAdd, Nat.reduceMul, Nat.reduceSub, Nat.reduceLeDiff, Nat.reduceBEq, Nat.reduceDiv, Nat.reduceMod, Int.reduceToNat, Int.reduceLT, Int.reduceLE, Int.reduceAdd, Int.reduceSub, Int.reduceMul, Int.reduceEq, Int.reduceNeg, reduceCtorEq, resV, resAll, ARes.ev, LV.flat, ite_true, ite_false, exists_eq_left', exists_eq_left, keyOf, implies_true, fillC, capOf]
          exact hno (hbad fun hh => hr hh.1) (Pre.app _ _)
      · simp (disch := omega) only [f1, f2, f3, f7, f8, ↓SXd, SXu, slBounds, ↓sop, ↓aop, ↓reduceIte, LV.cells, AOp.dst, LV.I, LV.B, LV.U, LV.S, LV.nil, Nat.reduceEqDiff, Nat.reduceAdd, Nat.reduceMul, Nat.reduceSub, Nat.reduceLeDiff, Nat.reduceBEq, Nat.reduceDiv, Nat.reduceMod, Int.reduceToNat, Int.reduceLT, Int.reduceLE, Int.reduceAdd, Int.reduceSub, Int.reduceMul, Int.reduceEq, Int.reduceNeg, reduceCtorEq, resV, resAll, ARes.ev, LV.flat, ite_true, ite_false, exists_eq_left', exists_eq_left, keyOf, implies_true, fillC, capOf]
        have hiv : i = vol x y z := by omega
        rw [hiv] at hall
        clear f8
        refine ev_loop (fun m fr M' => ∃ k : Nat, k + m = L.length ∧ Pre M M' ∧ Live M' (M.length + 1) (.row (triL (cellsOf x y z)) true 3) ∧ (∀ j, j < k → DiffOK x y z L xs j) ∧
          fr 1 = .ref u 0 L.length ∧ fr 2 = .ref q r xs.length ∧ fr 7 = .ref (M.length + 1) 0 (cellsOf x y z).length ∧ fr 9 = .I k) L.length
          ⟨0, by omega, Pre.app _ _, Live.newj rfl, by omega, f1, f2, f7, rfl⟩ ?_
        clear f1 f2 f3 f7
        rintro m fr M' ⟨k, hk, hpre, ball, hdif, f1, f2, f7, f9⟩
        simp (disch := omega) only [f1, f2, f7, f9, ↓SXd, SXu, slBounds, ↓sop, ↓aop, ↓reduceIte, LV.cells, AOp.dst, LV.I, LV.B, LV.U, LV.S, LV.nil, Nat.reduceEqDiff, Nat.reduceAdd, Nat.reduceMul, Nat.reduceSub, Nat.reduceLeDiff, Nat.reduceBEq, Nat.reduceDiv, Nat.reduceMod, Int.reduceToNat, Int.reduceLT, Int.reduceLE, Int.reduceAdd, Int.reduceSub, Int.reduceMul, Int.reduceEq, Int.reduceNeg, reduceCtorEq, resV, resAll, ARes.ev, LV.flat, ite_true, ite_false, exists_eq_left', exists_eq_left, keyOf, implies_true, fillC, capOf]
        refine condC_dec (fun hlt2 => ?_) (fun hlt2 => ?_)
        · have hkL : k < L.length := by omega
          have hbal := ball.lt
          simp (disch := omega) only [f1, f2, f7, f9, ↓SXd, SXu, slBounds, ↓sop, ↓aop, ↓reduceIte, LV.cells, AOp.dst, LV.I, LV.B, LV.U, LV.S, LV.nil, Nat.reduceEqDiff, Nat.reduceAdd, Nat.reduceMul, Nat.reduceSub, Nat.reduceLeDiff, Nat.reduceBEq, Nat.reduceDiv, Nat.reduceMod, Int.reduceToNat, Int.reduceLT, Int.reduceLE, Int.reduceAdd, Int.reduceSub, Int.reduceMul, Int.reduceEq, Int.reduceNeg, reduceCtorEq, resV, resAll, ARes.ev, LV.flat, ite_true, ite_false, exists_eq_left', exists_eq_left, keyOf, implies_true, fillC, capOf]
          refine ev_loop (fun m2 fr2 M2 => ∃ i w : Nat, i + m2 = (cellsOf x y z).length ∧ Pre M M2 ∧ Live M2 (M.length + 1) (.row (triL (cellsOf x y z)) true 3) ∧ Live M2 w (.row (triL (((cellsOf x y z).take i).filter fun c => decide (atL y z xs c = k))) true 3) ∧ M.length + 1 < w ∧
            fr2 1 = .ref u 0 L.length ∧ fr2 2 = .ref q r xs.length ∧ fr2 7 = .ref (M.length + 1) 0 (cellsOf x y z).length ∧ fr2 9 = .I k ∧ fr2 10 = .ref w 0 (((cellsOf x y z).take i).filter fun c => decide (atL y z xs c = k)).length ∧ fr2 11 = .I i) (cellsOf x y z).length
            ⟨0, M'.length, by omega, hpre.app', ball.app, Live.new, by omega, f1, f2, f7, f9, rfl, rfl⟩ ?_
          rintro m2 fr2 M2 ⟨i, w, hi, p2, c2, cw, hw, g1, g2, g7, g9, g10, g11⟩
          simp (disch := omega) only [g1, g2, g7, g9, g10, g11, ↓SXd, SXu, slBounds, ↓sop, ↓aop, ↓reduceIte, LV.cells, AOp.dst, LV.I, LV.B, LV.U, LV.S, LV.nil, Nat.reduceEqDiff, Nat.reduceAdd, Nat.reduceMul, Nat.reduceSub, Nat.reduceLeDiff, Nat.reduceBEq, Nat.reduceDiv, Nat.reduceMod, Int.reduceToNat, Int.reduceLT, Int.reduceLE, Int.reduceAdd, Int.reduceSub, Int.reduceMul, Int.reduceEq, Int.reduceNeg, reduceCtorEq, resV, resAll, ARes.ev, LV.flat, ite_true, ite_false, exists_eq_left', exists_eq_left, keyOf, implies_true, fillC, capOf]
          refine condC_dec (fun hlt3 => ?_) (fun hlt3 => ?_)
          · have hil : i < (cellsOf x y z).length := by omega
            have hx := Ints.get (hX.pre p2) (k := i) (by omega)
            have hg := c2.tri0 hil
            have hts : (cellsOf x y z).take (i + 1) = (cellsOf x y z).take i ++ [(cellsOf x y z).getD i default] := by
              rw [List.take_succ, List.getElem?_eq_getElem hil]; simp [hil]
            have hstep : ((cellsOf x y z).take (i + 1)).filter (fun c => decide (atL y z xs c = k)) = ((cellsOf x y z).take i).filter (fun c => decide (atL y z xs c = k)) ++ (if decide (atL y z xs ((cellsOf x y z).getD i default) = k) = true then [(cellsOf x y z).getD i default] else []) := by
              rw [hts, List.filter_append, List.filter_cons, List.filter_nil]
            have hfl := List.length_filter_le (fun c => decide (atL y z xs c = k)) ((cellsOf x y z).take i)
            have htl := List.length_take_le i (cellsOf x y z)
            rw [hce i (by omega)] at hstep hg
            rw [hat i (by omega)] at hstep
            generalize cellAt y z i = c at hstep hg
            generalize xs.getD i 0 = v at hx hstep
            by_cases hvk : v = k
            · rw [if_pos (by simpa using hvk)] at hstep
              simp (disch := omega) only [g1, g2, g7, g9, g10, g11, hx, hvk, hg, Cell.row, splice, Nat.mul_one, ↓SXd, SXu, slBounds, ↓sop, ↓aop, ↓reduceIte, LV.cells, AOp.dst, LV.I, LV.B, LV.U, LV.S, LV.nil, Nat.reduceEqDiff, Nat.reduceAdd, Nat.reduceMul, Nat.reduceSub, Nat.reduceLeDiff, Nat.reduceBEq, Nat.reduceDiv, Nat.reduceMod, Int.reduceToNat, Int.reduceLT, Int.reduceLE, Int.reduceAdd, Int.reduceSub, Int.reduceMul, Int.reduceEq, Int.reduceNeg, reduceCtorEq, resV, resAll, ARes.ev, LV.flat, ite_true, ite_false, exists_eq_left', exists_eq_left, keyOf, implies_true, fillC, capOf]
              refine appendK_cell cw (by omega) fun N e1 e2 e3 => ?_
              simp (disch := omega) only [g1, g2, g7, g9, g10, g11, ↓SXd, SXu, slBounds, ↓sop, ↓aop, ↓reduceIte, LV.cells, AOp.dst, LV.I, LV.B, LV.U, LV.S, LV.nil, Nat.reduceEqDiff, Nat.reduceAdd, Nat.reduceMul, Nat.reduceSub, Nat.reduceLeDiff, Nat.reduceBEq, Nat.reduceDiv, Nat.reduceMod, Int.reduceToNat, Int.reduceLT, Int.reduceLE, Int.reduceAdd, Int.reduceSub, Int.reduceMul, Int.reduceEq, Int.reduceNeg, reduceCtorEq, resV, resAll, ARes.ev, LV.flat, ite_true, ite_false, exists_eq_left', exists_eq_left, keyOf, implies_true, fillC, capOf]
              have hcw := cw.lt
              rw [cell_eta, ← hstep] at e2
              exact ⟨m2 - 1, by omega, i + 1, M2.length + 1, by omega, pre_step p2 (by omega) e1 e3, live_step c2 (by omega) e3, e2, by omega, g1, g2, g7, g9, by rw [hstep, List.length_append, List.length_singleton]; rfl, eqI (natI _)⟩
            · rw [if_neg (by simpa using hvk), List.append_nil] at hstep
              simp (disch := omega) only [g1, g2, g7, g9, g10, g11, hx, hvk, Nat.mul_one, ↓SXd, SXu, slBounds, ↓sop, ↓aop, ↓reduceIte, LV.cells, AOp.dst, LV.I, LV.B, LV.U, LV.S, LV.nil, Nat.reduceEqDiff, Nat.reduceAdd, Nat.reduceMul, Nat.reduceSub, Nat.reduceLeDiff, Nat.reduceBEq, Nat.reduceDiv, Nat.reduceMod, Int.reduceToNat, Int.reduceLT, Int.reduceLE, Int.reduceAdd, Int.reduceSub, Int.reduceMul, Int.reduceEq, Int.reduceNeg, reduceCtorEq, resV, resAll, ARes.ev, LV.flat, ite_true, ite_false, exists_eq_left', exists_eq_left, keyOf, implies_true, fillC, capOf]
              rw [← hstep] at cw g10
              exact ⟨m2 - 1, by omega, i + 1, w, by omega, p2, c2, cw, hw, g1, g2, g7, g9, g10, eqI (natI _)⟩
          · have : i = (cellsOf x y z).length := by omega
            subst this
            rw [List.take_length] at cw g10
            change Live M2 w (.row (triL (fib x y z xs k)) true 3) at cw
            change fr2 10 = .ref w 0 (fib x y z xs k).length at g10
            have hfl : (fib x y z xs k).length ≤ 64 := pick_len hS _
            obtain ⟨v, o', hg, hT⟩ := (hP.pre p2).get hkL
            have hbad : ∀ {P : Prop}, (DiffOK x y z L xs k → P) → SpecPk x y z cs L xs → P := fun h1 h2 => h1 (h2.2.2.2 k hkL)
            have hpl : (L.getD k []).length ≤ 5 := (hA.1 _ (getD_mem' hkL)).1.2
            have hdk : DiffOK x y z L xs k ↔ (fib x y z xs k).length = (L.getD k []).length ∧ ∀ i, 1 ≤ i → i < (fib x y z xs k).length → ∀ d : Nat, d < 3 → Cell.at ((fib x y z xs k).getD i default) (d : Int) - Cell.at ((fib x y z xs k).getD 0 default) (d : Int) = Cell.at ((L.getD k []).getD i default) (d : Int) - Cell.at ((L.getD k []).getD 0 default) (d : Int) := Iff.rfl
            have hfin : ∀ c ∈ fib x y z xs k, c.inBox 4 4 4 := fun c hc => box4 hS ((mem_pick hS).1 hc).1
            have hlin : ∀ c ∈ L.getD k [], c.inBox 4 4 4 := fun c hc => (hA.1 _ (getD_mem' hkL)).2.1.mem hc
            generalize fib x y z xs k = Q at cw g10 hfl hdk hfin
            generalize L.getD k [] = l at hg hT hpl hdk hlin
            simp (disch := omega) only [g1, g2, g7, g9, g10, g11, hg, Nat.mul_one, Nat.zero_add, ↓SXd, SXu, slBounds, ↓sop, ↓aop, ↓reduceIte, LV.cells, AOp.dst, LV.I, LV.B, LV.U, LV.S, LV.nil, Nat.reduceEqDiff, Nat.reduceAdd, Nat.reduceMul, Nat.reduceSub, Nat.reduceLeDiff, Nat.reduceBEq, Nat.reduceDiv, Nat.reduceMod, Int.reduceToNat, Int.reduceLT, Int.reduceLE, Int.reduceAdd, Int.reduceSub, Int.reduceMul, Int.reduceEq, Int.reduceNeg, reduceCtorEq, resV, resAll, ARes.ev, LV.flat, ite_true, ite_false, exists_eq_left', exists_eq_left, keyOf, implies_true, fillC, capOf]
            by_cases hlen : (Q.length : Int) = l.length
            · have hlen' : Q.length = l.length := by omega
              simp (disch := omega) only [g1, g2, g7, g9, g10, g11, hlen, ↓SXd, SXu, slBounds, ↓sop, ↓aop, ↓reduceIte, LV.cells, AOp.dst, LV.I, LV.B, LV.U, LV.S, LV.nil, Nat.reduceEqDiff, Nat.reduceAdd, Nat.reduceMul, Nat.reduceSub, Nat.reduceLeDiff, Nat.reduceBEq, Nat.reduceDiv, Nat.reduceMod, Int.reduceToNat, Int.reduceLT, Int.reduceLE, Int.reduceAdd, Int.reduceSub, Int.reduceMul, Int.reduceEq, Int.reduceNeg, reduceCtorEq, resV, resAll, ARes.ev, LV.flat, ite_true, ite_false, exists_eq_left', exists_eq_left, keyOf, implies_true, fillC, capOf]
              refine ev_loop (fun m3 fr3 M3 => ∃ i : Nat, i + m3 = Q.length + 1 ∧ 1 ≤ i ∧ M3 = M2 ∧ (∀ j, 1 ≤ j → j < i → ∀ d : Nat, d < 3 → Cell.at (Q.getD j default) (d : Int) - Cell.at (Q.getD 0 default) (d : Int) = Cell.at (l.getD j default) (d : Int) - Cell.at (l.getD 0 default) (d : Int)) ∧
                fr3 1 = .ref u 0 L.length ∧ fr3 2 = .ref q r xs.length ∧ fr3 7 = .ref (M.length + 1) 0 (cellsOf x y z).length ∧ fr3 9 = .I k ∧ fr3 10 = .ref w 0 Q.length ∧ fr3 12 = .I i) Q.length
                ⟨1, by omega, by omega, rfl, by omega, g1, g2, g7, g9, g10, rfl⟩ ?_
              rintro m3 fr3 M3 ⟨i, hi3, hi1, rfl, hok, q1, q2, q7, q9, q10, q12⟩
              simp (disch := omega) only [q1, q2, q7, q9, q10, q12, ↓SXd, SXu, slBounds, ↓sop, ↓aop, ↓reduceIte, LV.cells, AOp.dst, LV.I, LV.B, LV.U, LV.S, LV.nil, Nat.reduceEqDiff, Nat.reduceAdd, Nat.reduceMul, Nat.reduceSub, Nat.reduceLeDiff, Nat.reduceBEq, Nat.reduceDiv, Nat.reduceMod, Int.reduceToNat, Int.reduceLT, Int.reduceLE, Int.reduceAdd, Int.reduceSub, Int.reduceMul, Int.reduceEq, Int.reduceNeg, reduceCtorEq, resV, resAll, ARes.ev, LV.flat, ite_true, ite_false, exists_eq_left', exists_eq_left, keyOf, implies_true, fillC, capOf]
              refine condC_dec (fun hlt4 => ?_) (fun hlt4 => ?_)
              · have hiQ : i < Q.length := by omega
                have hQi := hfin _ (getD_mem' (d := default) hiQ)
                have hQ0 := hfin _ (getD_mem' (d := default) (show 0 < Q.length by omega))
                have hli := hlin _ (getD_mem' (d := default) (show i < l.length by omega))
                have hl0 := hlin _ (getD_mem' (d := default) (show 0 < l.length by omega))
                have A := Tri.get_a cw.has hiQ
                have B := Tri.get_b cw.has hiQ
                have C := Tri.get_c cw.has hiQ
                have A0 := Tri.get_a cw.has (k := 0) (by omega)
                have B0 := Tri.get_b cw.has (k := 0) (by omega)
                have C0 := Tri.get_c cw.has (k := 0) (by omega)
                have D := Tri.get_a hT (k := i) (by omega)
                have E := Tri.get_b hT (k := i) (by omega)
                have F' := Tri.get_c hT (k := i) (by omega)
                have D0 := Tri.get_a hT (k := 0) (by omega)
                have E0 := Tri.get_b hT (k := 0) (by omega)
                have F0 := Tri.get_c hT (k := 0) (by omega)
                have hnext : (∀ d : Nat, d < 3 → Cell.at (Q.getD i default) (d : Int) - Cell.at (Q.getD 0 default) (d : Int) = Cell.at (l.getD i default) (d : Int) - Cell.at (l.getD 0 default) (d : Int)) → ∀ j, 1 ≤ j → j < i + 1 → ∀ d : Nat, d < 3 → Cell.at (Q.getD j default) (d : Int) - Cell.at (Q.getD 0 default) (d : Int) = Cell.at (l.getD j default) (d : Int) - Cell.at (l.getD 0 default) (d : Int) := fun h j hj1 hj2 => by
                  rcases Nat.lt_or_ge j i with h3 | h3
                  · exact hok j hj1 h3
                  · rw [show j = i by omega]; exact h
                have hbad2 : ∀ d : Nat, d < 3 → ¬ (Cell.at (Q.getD i default) (d : Int) - Cell.at (Q.getD 0 default) (d : Int) = Cell.at (l.getD i default) (d : Int) - Cell.at (l.getD 0 default) (d : Int)) → ¬ SpecPk x y z cs L xs := fun d hd hne => hbad fun hh => hne ((hdk.1 hh).2 i hi1 hiQ d hd)
                rw [Nat.zero_add] at A B C
                rw [Nat.zero_mul, Nat.add_zero] at A0 B0 C0 D0 E0 F0
                generalize Q.getD i default = ci at hQi A B C hnext hbad2
                generalize Q.getD 0 default = c0 at hQ0 A0 B0 C0 hnext hbad2 hok
                generalize l.getD i default = di at hli D E F' hnext hbad2
                generalize l.getD 0 default = d0 at hl0 D0 E0 F0 hnext hbad2 hok
                obtain ⟨⟨_, _⟩, ⟨_, _⟩, ⟨_, _⟩⟩ := hQi
                obtain ⟨⟨_, _⟩, ⟨_, _⟩, ⟨_, _⟩⟩ := hQ0
                obtain ⟨⟨_, _⟩, ⟨_, _⟩, ⟨_, _⟩⟩ := hli
                obtain ⟨⟨_, _⟩, ⟨_, _⟩, ⟨_, _⟩⟩ := hl0
                simp (disch := omega) only [q1, q2, q7, q9, q10, q12, ↓SXd, SXu, slBounds, ↓sop, ↓aop, ↓reduceIte, LV.cells, AOp.dst, LV.I, LV.B, LV.U, LV.S, LV.nil, Nat.reduceEqDiff, Nat.reduceAdd, Nat.reduceMul, Nat.reduceSub, Nat.reduceLeDiff, Nat.reduceBEq, Nat.reduceDiv, Nat.reduceMod, Int.reduceToNat, Int.reduceLT, Int.reduceLE, Int.reduceAdd, Int.reduceSub, Int.reduceMul, Int.reduceEq, Int.reduceNeg, reduceCtorEq, resV, resAll, ARes.ev, LV.flat, ite_true, ite_false, exists_eq_left', exists_eq_left, keyOf, implies_true, fillC, capOf]
                refine ev_loop (fun m4 fr4 M4 => ∃ d : Nat, d + m4 = 3 ∧ M4 = M3 ∧ (∀ e : Nat, e < d → Cell.at ci (e : Int) - Cell.at c0 (e : Int) = Cell.at di (e : Int) - Cell.at d0 (e : Int)) ∧
                  fr4 1 = .ref u 0 L.length ∧ fr4 2 = .ref q r xs.length ∧ fr4 7 = .ref (M.length + 1) 0 (cellsOf x y z).length ∧ fr4 9 = .I k ∧ fr4 10 = .ref w 0 Q.length ∧ fr4 12 = .I i ∧ fr4 13 = .I d) 3
                  ⟨0, rfl, rfl, by omega, q1, q2, q7, q9, q10, q12, rfl⟩ ?_
                rintro m4 fr4 M4 ⟨d, hd, rfl, hde, r1, r2, r7, r9, r10, r12, r13⟩
                simp (disch := omega) only [r1, r2, r7, r9, r10, r12, r13, ↓SXd, SXu, slBounds, ↓sop, ↓aop, ↓reduceIte, LV.cells, AOp.dst, LV.I, LV.B, LV.U, LV.S, LV.nil, Nat.reduceEqDiff, Nat.reduceAdd, Nat.reduceMul, Nat.reduceSub, Nat.reduceLeDiff, Nat.reduceBEq, Nat.reduceDiv, Nat.reduceMod, Int.reduceToNat, Int.reduceLT, Int.reduceLE, Int.reduceAdd, Int.reduceSub, Int.reduceMul, Int.reduceEq, Int.reduceNeg, reduceCtorEq, resV, resAll, ARes.ev, LV.flat, ite_true, ite_false, exists_eq_left', exists_eq_left, keyOf, implies_true, fillC, capOf]
                refine condC_dec (fun hlt5 => ?_) (fun hlt5 => ?_)
                · have hext : Cell.at ci (d : Int) - Cell.at c0 (d : Int) = Cell.at di (d : Int) - Cell.at d0 (d : Int) → ∀ e : Nat, e < d + 1 → Cell.at ci (e : Int) - Cell.at c0 (e : Int) = Cell.at di (e : Int) - Cell.at d0 (e : Int) := fun h e he => by
                    rcases Nat.lt_or_ge e d with h3 | h3
                    · exact hde e h3
                    · rw [show e = d by omega]; exact h
                  rcases (show d = 0 ∨ d = 1 ∨ d = 2 by omega) with rfl | rfl | rfl
                  · by_cases he : ci.a - c0.a = di.a - d0.a
                    · simp (disch := omega) only [r1, r2, r7, r9, r10, r12, r13, A, A0, hg, D, D0, Nat.add_zero, Nat.mul_one, Nat.zero_add, Nat.zero_mul, he, ↓SXd, SXu, slBounds, ↓sop, ↓aop, ↓reduceIte, LV.cells, AOp.dst, LV.I, LV.B, LV.U, LV.S, LV.nil, Nat.reduceEqDiff, Nat.reduceAdd, Nat.reduceMul, Nat.reduceSub, Nat.reduceLeDiff, Nat.reduceBEq, Nat.reduceDiv, Nat.reduceMod, Int.reduceToNat, Int.reduceLT, Int.reduceLE, Int.reduceAdd, Int.reduceSub, Int.reduceMul, Int.reduceEq, Int.reduceNeg, reduceCtorEq, resV, resAll, ARes.ev, LV.flat, ite_true, ite_false, exists_eq_left', exists_eq_left, keyOf, implies_true, fillC, capOf]
                      exact ⟨m4 - 1, by omega, 1, by omega, rfl, hext he, r1, r2, r7, r9, r10, r12, rfl⟩
                    · simp (disch := omega) only [r1, r2, r7, r9, r10, r12, r13, A, A0, hg, D, D0, Nat.add_zero, Nat.mul_one, Nat.zero_add, Nat.zero_mul, he, ↓SXd, SXu, slBounds, ↓sop, ↓aop, ↓reduceIte, LV.cells, AOp.dst, LV.I, LV.B, LV.U, LV.S, LV.nil, Nat.reduceEqDiff, Nat.reduceAdd, Nat.reduceMul, Nat.reduceSub, Nat.reduceLeDiff, Nat.reduceBEq, Nat.reduceDiv, Nat.reduceMod, Int.reduceToNat, Int.reduceLT, Int.reduceLE, Int.reduceAdd, Int.reduceSub, Int.reduceMul, Int.reduceEq, Int.reduceNeg, reduceCtorEq, resV, resAll, ARes.ev, LV.flat, ite_true, ite_false, exists_eq_left', exists_eq_left, keyOf, implies_true, fillC, capOf]
                      exact hno (hbad2 0 (by omega) he) p2
                  · by_cases he : ci.b - c0.b = di.b - d0.b
                    · simp (disch := omega) only [r1, r2, r7, r9, r10, r12, r13, B, B0, hg, E, E0, Nat.add_zero, Nat.mul_one, Nat.zero_add, Nat.zero_mul, he, ↓SXd, SXu, slBounds, ↓sop, ↓aop, ↓reduceIte, LV.cells, AOp.dst, LV.I, LV.B, LV.U, LV.S, LV.nil, Nat.reduceEqDiff, Nat.reduceAdd, Nat.reduceMul, Nat.reduceSub, Nat.reduceLeDiff, Nat.reduceBEq, Nat.reduceDiv, Nat.reduceMod, Int.reduceToNat, Int.reduceLT, Int.reduceLE, Int.reduceAdd, Int.reduceSub, Int.reduceMul, Int.reduceEq, Int.reduceNeg, reduceCtorEq, resV, resAll, ARes.ev, LV.flat, ite_true, ite_false, exists_eq_left', exists_eq_left, keyOf, implies_true, fillC, capOf]
                      exact ⟨m4 - 1, by omega, 2, by omega, rfl, hext he, r1, r2, r7, r9, r10, r12, rfl⟩
                    · simp (disch := omega) only [r1, r2, r7, r9, r10, r12, r13, B, B0, hg, E, E0, Nat.add_zero, Nat.mul_one, Nat.zero_add, Nat.zero_mul, he, ↓SXd, SXu, slBounds, ↓sop, ↓aop, ↓reduceIte, LV.cells, AOp.dst, LV.I, LV.B, LV.U, LV.S, LV.nil, Nat.reduceEqDiff, Nat.reduceAdd, Nat.reduceMul, Nat.reduceSub, Nat.reduceLeDiff, Nat.reduceBEq, Nat.reduceDiv, Nat.reduceMod, Int.reduceToNat, Int.reduceLT, Int.reduceLE, Int.reduceAdd, Int.reduceSub, Int.reduceMul, Int.reduceEq, Int.reduceNeg, reduceCtorEq, resV, resAll, ARes.ev, LV.flat, ite_true, ite_false, exists_eq_left', exists_eq_left, keyOf, implies_true, fillC, capOf]
                      exact hno (hbad2 1 (by omega) he) p2
                  · by_cases he : ci.c - c0.c = di.c - d0.c
                    · simp (disch := omega) only [r1, r2, r7, r9, r10, r12, r13, C, C0, hg, F', F0, Nat.add_zero, Nat.mul_one, Nat.zero_add, Nat.zero_mul, he, ↓SXd, SXu, slBounds, ↓sop, ↓aop, ↓reduceIte, LV.cells, AOp.dst, LV.I, LV.B, LV.U, LV.S, LV.nil, Nat.reduceEqDiff, Nat.reduceAdd, Nat.reduceMul, Nat.reduceSub, Nat.reduceLeDiff, Nat.reduceBEq, Nat.reduceDiv, Nat.reduceMod, Int.reduceToNat, Int.reduceLT, Int.reduceLE, Int.reduceAdd, Int.reduceSub, Int.reduceMul, Int.reduceEq, Int.reduceNeg, reduceCtorEq, resV, resAll, ARes.ev, LV.flat, ite_true, ite_false, exists_eq_left', exists_eq_left, keyOf, implies_true, fillC, capOf]
                      exact ⟨m4 - 1, by omega, 3, by omega, rfl, hext he, r1, r2, r7, r9, r10, r12, rfl⟩
                    · simp (disch := omega) only [r1, r2, r7, r9, r10, r12, r13, C, C0, hg, F', F0, Nat.add_zero, Nat.mul_one, Nat.zero_add, Nat.zero_mul, he, ↓SXd, SXu, slBounds, ↓sop, ↓aop, ↓reduceIte, LV.cells, AOp.dst, LV.I, LV.B, LV.U, LV.S, LV.nil, Nat.reduceEqDiff, Nat.reduceAdd, Nat.reduceMul, Nat.reduceSub, Nat.reduceLeDiff, Nat.reduceBEq, Nat.reduceDiv, Nat.reduceMod, Int.reduceToNat, Int.reduceLT, Int.reduceLE, Int.reduceAdd, Int.reduceSub, Int.reduceMul, Int.reduceEq, Int.reduceNeg, reduceCtorEq, resV, resAll, ARes.ev, LV.flat, ite_true, ite_false, exists_eq_left', exists_eq_left, keyOf, implies_true, fillC, capOf]
                      exact hno (hbad2 2 (by omega) he) p2
                · have : d = 3 := by omega
                  subst this
                  simp (disch := omega) only [r1, r2, r7, r9, r10, r12, r13, ↓SXd, SXu, slBounds, ↓sop, ↓aop, ↓reduceIte, LV.cells, AOp.dst, LV.I, LV.B, LV.U, LV.S, LV.nil, Nat.reduceEqDiff, Nat.reduceAdd, Nat.reduceMul, Nat.reduceSub, Nat.reduceLeDiff, Nat.reduceBEq, Nat.reduceDiv, Nat.reduceMod, Int.reduceToNat, Int.reduceLT, Int.reduceLE, Int.reduceAdd, Int.reduceSub, Int.reduceMul, Int.reduceEq, Int.reduceNeg, reduceCtorEq, resV, resAll, ARes.ev, LV.flat, ite_true, ite_false, exists_eq_left', exists_eq_left, keyOf, implies_true, fillC, capOf]
                  exact ⟨m3 - 1, by omega, i + 1, by omega, by omega, rfl, hnext hde, r1, r2, r7, r9, r10, eqI (natI _)⟩
              · have hdn : DiffOK x y z L xs k := hdk.2 ⟨hlen', fun j hj1 hj2 => hok j hj1 (by omega)⟩
                simp (disch := omega) only [q1, q2, q7, q9, q10, q12, ↓SXd, SXu, slBounds, ↓sop, ↓aop, ↓reduceIte, LV.cells, AOp.dst, LV.I, LV.B, LV.U, LV.S, LV.nil, Nat.reduceEqDiff, Nat.reduceAdd, Nat.reduceMul, Nat.reduceSub, Nat.reduceLeDiff, Nat.reduceBEq, Nat.reduceDiv, Nat.reduceMod, Int.reduceToNat, Int.reduceLT, Int.reduceLE, Int.reduceAdd, Int.reduceSub, Int.reduceMul, Int.reduceEq, Int.reduceNeg, reduceCtorEq, resV, resAll, ARes.ev, LV.flat, ite_true, ite_false, exists_eq_left', exists_eq_left, keyOf, implies_true, fillC, capOf]
                exact ⟨m - 1, by omega, k + 1, by omega, p2, c2, fun j hj => by
                  rcases Nat.lt_or_ge j k with h3 | h3
                  · exact hdif j h3
                  · rw [show j = k by omega]; exact hdn, q1, q2, q7, eqI (natI _)⟩
            · simp (disch := omega) only [g1, g2, g7, g9, g10, g11, hlen, ↓SXd, SXu, slBounds, ↓sop, ↓aop, ↓reduceIte, LV.cells, AOp.dst, LV.I, LV.B, LV.U, LV.S, LV.nil, Nat.reduceEqDiff, Nat.reduceAdd, Nat.reduceMul, Nat.reduceSub, Nat.reduceLeDiff, Nat.reduceBEq, Nat.reduceDiv, Nat.reduceMod, Int.reduceToNat, Int.reduceLT, Int.reduceLE, Int.reduceAdd, Int.reduceSub, Int.reduceMul, Int.reduceEq, Int.reduceNeg, reduceCtorEq, resV, resAll, ARes.ev, LV.flat, ite_true, ite_false, exists_eq_left', exists_eq_left, keyOf, implies_true, fillC, capOf]
              exact hno (hbad fun hh => hlen (by have := (hdk.1 hh).1; omega)) p2
        · simp (disch := omega) only [f1, f2, f7, f9, ↓SXd, SXu, slBounds, ↓sop, ↓aop, ↓reduceIte, LV.cells, AOp.dst, LV.I, LV.B, LV.U, LV.S, LV.nil, Nat.reduceEqDiff, Nat.reduceAdd, Nat.reduceMul, Nat.reduceSub, Nat.reduceLeDiff, Nat.reduceBEq, Nat.reduceDiv, Nat.reduceMod, Int.reduceToNat, Int.reduceLT, Int.reduceLE, Int.reduceAdd, Int.reduceSub, Int.reduceMul, Int.reduceEq, Int.reduceNeg, reduceCtorEq, resV, resAll, ARes.ev, LV.flat, ite_true, ite_false, exists_eq_left', exists_eq_left, keyOf, implies_true, fillC, capOf]
          rw [decide_eq_true (show SpecPk x y z cs L xs from ⟨h1', h2', hall, fun j hj => hdif j (by omega)⟩)]
          exact cmp_pre hpre rfl
    · simp (disch := omega) only [h2, ↓SXd, SXu, slBounds, ↓sop, ↓aop, ↓reduceIte, LV.cells, AOp.dst, LV.I, LV.B, LV.U, LV.S, LV.nil, Nat.reduceEqDiff, Nat.reduceAdd, Nat.reduceMul, Nat.reduceSub, Nat.reduceLeDiff, Nat.reduceBEq, Nat.reduceDiv, Nat.reduceMod, Int.reduceToNat, Int.reduceLT, Int.reduceLE, Int.reduceAdd, Int.reduceSub, Int.reduceMul, Int.reduceEq, Int.reduceNeg, reduceCtorEq, resV, resAll, ARes.ev, LV.flat, ite_true, ite_false, exists_eq_left', exists_eq_left, keyOf, implies_true, fillC, capOf]
      exact hno (fun hp => h2 (by have := hp.2.1; omega)) (Pre.app _ _)
  · simp (disch := omega) only [h1, ↓SXd, SXu, slBounds, ↓sop, ↓aop, ↓reduceIte, LV.cells, AOp.dst, LV.I, LV.B, LV.U, LV.S, LV.nil, Nat.reduceEqDiff, Nat.reduceAdd, Nat.reduceMul, Nat.reduceSub, Nat.reduceLeDiff, Nat.reduceBEq, Nat.reduceDiv, Nat.reduceMod, Int.reduceToNat, Int.reduceLT, Int.reduceLE, Int.reduceAdd, Int.reduceSub, Int.reduceMul, Int.reduceEq, Int.reduceNeg, reduceCtorEq, resV, resAll, ARes.ev, LV.flat, ite_true, ite_false, exists_eq_left', exists_eq_left, keyOf, implies_true, fillC, capOf]
    exact hno (fun hp => h1 (by have := hp.1; omega)) (Pre.app _ _)
noncomputable def pkP (x y z : Int) (cs : List Cell) (L : List (List Cell)) (xs : List Int) : Bool × Bool := if AskOK x y z cs L then (decide (SpecPk x y z cs L xs), true) else (false, false)
theorem h_sIsPacking {x y z : Int} {t o u q r : Nat} {cs : List Cell} {L : List (List Cell)} {xs : List Int} {M : Mem} (h : Tri M t o cs) (hn : cs.length ≤ 1000000000) (hP : Pcs M u L) (hL : L.length ≤ 1000000000) (hLs : ∀ l ∈ L, l.length ≤ 1000000000) (hX : Ints M q r xs) (hxn : xs.length ≤ 1000000000) :
    CallsR PG F.spec_IsPacking [.agg [.I x, .I y, .I z, .ref t o cs.length], .ref u 0 L.length, .ref q r xs.length] M fun v N => v = .tup [.B (pkP x y z cs L xs).1, .B (pkP x y z cs L xs).2] ∧ Pre M N := by
  refine callsR_run K.spec_IsPacking rfl ?_
  simp (disch := omega) only [C.spec_IsPacking, ↓SXd, SXu, slBounds, ↓sop, ↓aop, ↓reduceIte, LV.cells, AOp.dst, LV.I, LV.B, LV.U, LV.S, LV.nil, Nat.reduceEqDiff, Nat.reduceAdd, Nat.reduceMul, Nat.reduceSub, Nat.reduceLeDiff, Nat.reduceBEq, Nat.reduceDiv, Nat.reduceMod, Int.reduceToNat, Int.reduceLT, Int.reduceLE, Int.reduceAdd, Int.reduceSub, Int.reduceMul, Int.reduceEq, Int.reduceNeg, reduceCtorEq, resV, resAll, ARes.ev, LV.flat, ite_true, ite_false, exists_eq_left', exists_eq_left, keyOf, implies_true, fillC, capOf]
  refine callK_of (h_l9Ask hP.app hL hLs h.app hn) ?_
  simp (disch := omega) only [↓SXd, SXu, slBounds, ↓sop, ↓aop, ↓reduceIte, LV.cells, AOp.dst, LV.I, LV.B, LV.U, LV.S, LV.nil, Nat.reduceEqDiff, Nat.reduceAdd, Nat.reduceMul, Nat.reduceSub, Nat.reduceLeDiff, Nat.reduceBEq, Nat.reduceDiv, Nat.reduceMod, Int.reduceToNat, Int.reduceLT, Int.reduceLE, Int.reduceAdd, Int.reduceSub, Int.reduceMul, Int.reduceEq, Int.reduceNeg, reduceCtorEq, resV, resAll, ARes.ev, LV.flat, ite_true, ite_false, exists_eq_left', exists_eq_left, keyOf, implies_true, fillC, capOf]
  unfold pkP
  by_cases hA : AskOK x y z cs L
  · rw [if_pos hA, decide_eq_true hA]
    simp (disch := omega) only [↓SXd, SXu, slBounds, ↓sop, ↓aop, ↓reduceIte, LV.cells, AOp.dst, LV.I, LV.B, LV.U, LV.S, LV.nil, Nat.reduceEqDiff, Nat.reduceAdd, Nat.reduceMul, Nat.reduceSub, Nat.reduceLeDiff, Nat.reduceBEq, Nat.reduceDiv, Nat.reduceMod, Int.reduceToNat, Int.reduceLT, Int.reduceLE, Int.reduceAdd, Int.reduceSub, Int.reduceMul, Int.reduceEq, Int.reduceNeg, reduceCtorEq, resV, resAll, ARes.ev, LV.flat, ite_true, ite_false, exists_eq_left', exists_eq_left, keyOf, implies_true, fillC, capOf]
    refine callK_of (h_l9Packing h.app hP.app hX.app hA hxn) ?_
    simp (disch := omega) only [↓SXd, SXu, slBounds, ↓sop, ↓aop, ↓reduceIte, LV.cells, AOp.dst, LV.I, LV.B, LV.U, LV.S, LV.nil, Nat.reduceEqDiff, Nat.reduceAdd, Nat.reduceMul, Nat.reduceSub, Nat.reduceLeDiff, Nat.reduceBEq, Nat.reduceDiv, Nat.reduceMod, Int.reduceToNat, Int.reduceLT, Int.reduceLE, Int.reduceAdd, Int.reduceSub, Int.reduceMul, Int.reduceEq, Int.reduceNeg, reduceCtorEq, resV, resAll, ARes.ev, LV.flat, ite_true, ite_false, exists_eq_left', exists_eq_left, keyOf, implies_true, fillC, capOf]
    exact ⟨rfl, Pre.app _ _⟩
  · rw [if_neg hA, decide_eq_false hA]
    simp (disch := omega) only [↓SXd, SXu, slBounds, ↓sop, ↓aop, ↓reduceIte, LV.cells, AOp.dst, LV.I, LV.B, LV.U, LV.S, LV.nil, Nat.reduceEqDiff, Nat.reduceAdd, Nat.reduceMul, Nat.reduceSub, Nat.reduceLeDiff, Nat.reduceBEq, Nat.reduceDiv, Nat.reduceMod, Int.reduceToNat, Int.reduceLT, Int.reduceLE, Int.reduceAdd, Int.reduceSub, Int.reduceMul, Int.reduceEq, Int.reduceNeg, reduceCtorEq, resV, resAll, ARes.ev, LV.flat, ite_true, ite_false, exists_eq_left', exists_eq_left, keyOf, implies_true, fillC, capOf]
    exact ⟨rfl, Pre.app _ _⟩
end Go.Ab

/- Contracts: packings, the program's side. -/
namespace Go.Ab
open Go
set_option linter.unusedSimpArgs false
set_option linter.unusedVariables false
set_option maxRecDepth 20000

theorem g_isPackingH {x y z : Int} {t o u q r : Nat} {cs : List Cell} {L : List (List Cell)} {xs : List Int} {M : Mem} (h : Tri M t o cs) (hP : Pcs M u L) (hX : Ints M q r xs) (hA : AskOK x y z cs L) (hxn : xs.length ≤ 1000000000) :
    CallsTo PG F.impl_Heap_isPacking [.agg [.I x, .I y, .I z, .ref t o cs.length], .ref u 0 L.length, .ref q r xs.length] M (.B (decide (SpecPk x y z cs L xs))) M := by
  have hH := hA.2.1
  have hS := hH.1
  have hv := vol_cast hS
  have hcn := hH.len
  have hL8 := hA.2.2
  have ht := h.lt
  have hiff := pk_iff hA (xs := xs)
  have hno : ¬ ImplPk x y z cs L xs → ∀ {N : Mem}, Pre M N → Cmp M N (.val (.bool false)) M (.val (.bool (decide (SpecPk x y z cs L xs)))) := fun hp N hN => by
    rw [decide_eq_false (fun h => hp (hiff.1 h))]; exact cmp_pre hN rfl
  have hat : ∀ i, i < vol x y z → atL y z xs (cellAt y z i) = xs.getD i 0 := fun i hi => by
    have := (cellAt_in hS (i := (i : Int)) (by omega) (by omega)).2
    unfold atL; rw [this, Int.toNat_natCast]
  refine calls_run K.impl_Heap_isPacking rfl ?_
  simp (disch := omega) only [C.impl_Heap_isPacking, ↓SXd, SXu, slBounds, ↓sop, ↓aop, ↓reduceIte, LV.cells, AOp.dst, LV.I, LV.B, LV.U, LV.S, LV.nil, Nat.reduceEqDiff, Nat.reduceAdd, Nat.reduceMul, Nat.reduceSub, Nat.reduceLeDiff, Nat.reduceBEq, Nat.reduceDiv, Nat.reduceMod, Int.reduceToNat, Int.reduceLT, Int.reduceLE, Int.reduceAdd, Int.reduceSub, Int.reduceMul, Int.reduceEq, Int.reduceNeg, reduceCtorEq, resV, resAll, ARes.ev, LV.flat, ite_true, ite_false, exists_eq_left', exists_eq_left, keyOf, implies_true, fillC, capOf]
  refine callK_of (g_box) ?_
  simp (disch := omega) only [splice, ↓SXd, SXu, slBounds, ↓sop, ↓aop, ↓reduceIte, LV.cells, AOp.dst, LV.I, LV.B, LV.U, LV.S, LV.nil, Nat.reduceEqDiff, Nat.reduceAdd, Nat.reduceMul, Nat.reduceSub, Nat.reduceLeDiff, Nat.reduceBEq, Nat.reduceDiv, Nat.reduceMod, Int.reduceToNat, Int.reduceLT, Int.reduceLE, Int.reduceAdd, Int.reduceSub, Int.reduceMul, Int.reduceEq, Int.reduceNeg, reduceCtorEq, resV, resAll, ARes.ev, LV.flat, ite_true, ite_false, exists_eq_left', exists_eq_left, keyOf, implies_true, fillC, capOf]
  refine callK_of (g_size hS) ?_
  simp (disch := omega) only [↓SXd, SXu, slBounds, ↓sop, ↓aop, ↓reduceIte, LV.cells, AOp.dst, LV.I, LV.B, LV.U, LV.S, LV.nil, Nat.reduceEqDiff, Nat.reduceAdd, Nat.reduceMul, Nat.reduceSub, Nat.reduceLeDiff, Nat.reduceBEq, Nat.reduceDiv, Nat.reduceMod, Int.reduceToNat, Int.reduceLT, Int.reduceLE, Int.reduceAdd, Int.reduceSub, Int.reduceMul, Int.reduceEq, Int.reduceNeg, reduceCtorEq, resV, resAll, ARes.ev, LV.flat, ite_true, ite_false, exists_eq_left', exists_eq_left, keyOf, implies_true, fillC, capOf]
  by_cases h1 : (xs.length : Int) = (vol x y z : Nat)
  · have h1' : xs.length = vol x y z := by omega
    simp (disch := omega) only [h1, ↓SXd, SXu, slBounds, ↓sop, ↓aop, ↓reduceIte, LV.cells, AOp.dst, LV.I, LV.B, LV.U, LV.S, LV.nil, Nat.reduceEqDiff, Nat.reduceAdd, Nat.reduceMul, Nat.reduceSub, Nat.reduceLeDiff, Nat.reduceBEq, Nat.reduceDiv, Nat.reduceMod, Int.reduceToNat, Int.reduceLT, Int.reduceLE, Int.reduceAdd, Int.reduceSub, Int.reduceMul, Int.reduceEq, Int.reduceNeg, reduceCtorEq, resV, resAll, ARes.ev, LV.flat, ite_true, ite_false, exists_eq_left', exists_eq_left, keyOf, implies_true, fillC, capOf]
    rw [← h1']
    refine callK_of (g_allWithinLH (hX.app) hxn) ?_
    by_cases h2 : ∀ v ∈ xs, -1 ≤ v ∧ v ≤ (L.length : Int) - 1
    · rw [decide_eq_true h2]
      simp (disch := omega) only [↓SXd, SXu, slBounds, ↓sop, ↓aop, ↓reduceIte, LV.cells, AOp.dst, LV.I, LV.B, LV.U, LV.S, LV.nil, Nat.reduceEqDiff, Nat.reduceAdd, Nat.reduceMul, Nat.reduceSub, Nat.reduceLeDiff, Nat.reduceBEq, Nat.reduceDiv, Nat.reduceMod, Int.reduceToNat, Int.reduceLT, Int.reduceLE, Int.reduceAdd, Int.reduceSub, Int.reduceMul, Int.reduceEq, Int.reduceNeg, reduceCtorEq, resV, resAll, ARes.ev, LV.flat, ite_true, ite_false, exists_eq_left', exists_eq_left, keyOf, implies_true, fillC, capOf]
      refine callK_of (g_free h.app hH) ?_
      simp (disch := omega) only [↓SXd, SXu, slBounds, ↓sop, ↓aop, ↓reduceIte, LV.cells, AOp.dst, LV.I, LV.B, LV.U, LV.S, LV.nil, Nat.reduceEqDiff, Nat.reduceAdd, Nat.reduceMul, Nat.reduceSub, Nat.reduceLeDiff, Nat.reduceBEq, Nat.reduceDiv, Nat.reduceMod, Int.reduceToNat, Int.reduceLT, Int.reduceLE, Int.reduceAdd, Int.reduceSub, Int.reduceMul, Int.reduceEq, Int.reduceNeg, reduceCtorEq, resV, resAll, ARes.ev, LV.flat, ite_true, ite_false, exists_eq_left', exists_eq_left, keyOf, implies_true, fillC, capOf]
      refine ev_loop (fun m fr M' => ∃ i : Nat, i + m = L.length ∧ Pre M M' ∧ Live M' (M.length + 1) (.row [.I x, .I y, .I z] true 0) ∧ (∀ j, j < i → StepOK x y z cs L xs j) ∧
        fr 1 = .ref u 0 L.length ∧ fr 2 = .ref q r xs.length ∧ fr 7 = .ptr (M.length + 1) 0 ∧ fr 8 = .W (bs x y z (leftP y z cs xs i)) ∧ fr 34 = .ref u 0 L.length ∧ fr 35 = .I L.length ∧ fr 36 = .I i) L.length
        ⟨0, by omega, Pre.app _ _, Live.newj rfl, by omega, rfl, by rw [h1']; rfl, rfl, by
          show LV.W _ = LV.W _
          rw [(bs_eq hS).2 fun c _ => show freeP cs c = leftP y z cs xs 0 c by unfold leftP; rw [decide_eq_false (by omega)]; simp], rfl, rfl, rfl⟩ ?_
      rintro m fr M' ⟨i, hi, hpre, b7, hst, f1, f2, f7, f8, f34, f35, f36⟩
      simp (disch := omega) only [f1, f2, f7, f8, f34, f35, f36, ↓SXd, SXu, slBounds, ↓sop, ↓aop, ↓reduceIte, LV.cells, AOp.dst, LV.I, LV.B, LV.U, LV.S, LV.nil, Nat.reduceEqDiff, Nat.reduceAdd, Nat.reduceMul, Nat.reduceSub, Nat.reduceLeDiff, Nat.reduceBEq, Nat.reduceDiv, Nat.reduceMod, Int.reduceToNat, Int.reduceLT, Int.reduceLE, Int.reduceAdd, Int.reduceSub, Int.reduceMul, Int.reduceEq, Int.reduceNeg, reduceCtorEq, resV, resAll, ARes.ev, LV.flat, ite_true, ite_false, exists_eq_left', exists_eq_left, keyOf, implies_true, fillC, capOf]
      refine condC_dec (fun hlt => ?_) (fun hlt => ?_)
      · have hiL : i < L.length := by omega
        obtain ⟨v, o', hg, hT⟩ := (hP.pre hpre).get hiL
        have hPi := hA.1 _ (getD_mem' (d := []) hiL)
        have hbl := b7.lt
        have hbad : ∀ {P : Prop}, (StepOK x y z cs L xs i → P) → ImplPk x y z cs L xs → P := fun h1 h2 => h1 (h2.2.2.1 i hiL)
        have hpl := hPi.1
        have hlin : ∀ c ∈ L.getD i [], c.inBox 4 4 4 := fun c hc => hPi.2.1.mem hc
        simp (disch := omega) only [f1, f2, f7, f8, f34, f35, f36, hg, Nat.mul_one, Nat.zero_add, ↓SXd, SXu, slBounds, ↓sop, ↓aop, ↓reduceIte, LV.cells, AOp.dst, LV.I, LV.B, LV.U, LV.S, LV.nil, Nat.reduceEqDiff, Nat.reduceAdd, Nat.reduceMul, Nat.reduceSub, Nat.reduceLeDiff, Nat.reduceBEq, Nat.reduceDiv, Nat.reduceMod, Int.reduceToNat, Int.reduceLT, Int.reduceLE, Int.reduceAdd, Int.reduceSub, Int.reduceMul, Int.reduceEq, Int.reduceNeg, reduceCtorEq, resV, resAll, ARes.ev, LV.flat, ite_true, ite_false, exists_eq_left', exists_eq_left, keyOf, implies_true, fillC, capOf]
        refine ev_loop (fun m2 fr2 M2 => ∃ j : Nat, j + m2 = xs.length ∧ M2 = M' ∧
          fr2 1 = .ref u 0 L.length ∧ fr2 2 = .ref q r xs.length ∧ fr2 7 = .ptr (M.length + 1) 0 ∧ fr2 8 = .W (bs x y z (leftP y z cs xs i)) ∧ fr2 9 = .I i ∧ fr2 10 = .ref v o' (L.getD i []).length ∧ fr2 11 = .W (bs x y z fun c => decide ((idx y z c).toNat < j) && decide (atL y z xs c = i)) ∧ fr2 34 = .ref u 0 L.length ∧ fr2 35 = .I L.length ∧ fr2 36 = .I i ∧ fr2 41 = .ref q r xs.length ∧ fr2 42 = .I xs.length ∧ fr2 43 = .I j) xs.length
          ⟨0, by omega, rfl, f1, f2, f7, f8, rfl, rfl, by rw [show (bs x y z fun c => decide ((idx y z c).toNat < 0) && decide (atL y z xs c = i)) = 0#64 from (bs_zero hS).2 fun c _ => by simp]; rfl, f34, f35, f36, rfl, rfl, rfl⟩ ?_
        rintro m2 fr2 M2 ⟨j, hj, rfl, g1, g2, g7, g8, g9, g10, g11, g34, g35, g36, g41, g42, g43⟩
        simp (disch := omega) only [g1, g2, g7, g8, g9, g10, g11, g34, g35, g36, g41, g42, g43, ↓SXd, SXu, slBounds, ↓sop, ↓aop, ↓reduceIte, LV.cells, AOp.dst, LV.I, LV.B, LV.U, LV.S, LV.nil, Nat.reduceEqDiff, Nat.reduceAdd, Nat.reduceMul, Nat.reduceSub, Nat.reduceLeDiff, Nat.reduceBEq, Nat.reduceDiv, Nat.reduceMod, Int.reduceToNat, Int.reduceLT, Int.reduceLE, Int.reduceAdd, Int.reduceSub, Int.reduceMul, Int.reduceEq, Int.reduceNeg, reduceCtorEq, resV, resAll, ARes.ev, LV.flat, ite_true, ite_false, exists_eq_left', exists_eq_left, keyOf, implies_true, fillC, capOf]
        refine condC_dec (fun hlt2 => ?_) (fun hlt2 => ?_)
        · have hjx : j < xs.length := by omega
          have hx := Ints.get (hX.pre hpre) hjx
          have hcj := cellAt_in hS (i := (j : Int)) (by omega) (by omega)
          have hone : 1#64 <<< j = bs x y z fun d => decide (d = cellAt y z j) := by
            have := bs_one hS hcj.1
            rwa [hcj.2, Int.toNat_natCast] at this
          have hatj := hat j (by omega)
          have hidx : ∀ c, c.inBox x y z → ((idx y z c).toNat = j ↔ c = cellAt y z j) := fun c hc => by
            obtain ⟨h5, h6, h7⟩ := idx_in hS hc
            constructor
            · intro e; rw [← h7]; congr 1; omega
            · rintro rfl; rw [hcj.2, Int.toNat_natCast]
          have hstep : ∀ c, c.inBox x y z → (decide ((idx y z c).toNat < j + 1) && decide (atL y z xs c = i)) = ((decide ((idx y z c).toNat < j) && decide (atL y z xs c = i)) || (decide (c = cellAt y z j) && decide (atL y z xs c = i))) := fun c hc => by
            rw [← Bool.and_or_distrib_right]
            congr 1
            rw [Bool.eq_iff_iff, Bool.or_eq_true, decide_eq_true_iff, decide_eq_true_iff, decide_eq_true_iff, ← hidx c hc]; omega
          by_cases hxi : xs.getD j 0 = i
          · simp (disch := omega) only [g1, g2, g7, g8, g9, g10, g11, g34, g35, g36, g41, g42, g43, hx, hxi, hone, Nat.mul_one, ↓SXd, SXu, slBounds, ↓sop, ↓aop, ↓reduceIte, LV.cells, AOp.dst, LV.I, LV.B, LV.U, LV.S, LV.nil, Nat.reduceEqDiff, Nat.reduceAdd, Nat.reduceMul, Nat.reduceSub, Nat.reduceLeDiff, Nat.reduceBEq, Nat.reduceDiv, Nat.reduceMod, Int.reduceToNat, Int.reduceLT, Int.reduceLE, Int.reduceAdd, Int.reduceSub, Int.reduceMul, Int.reduceEq, Int.reduceNeg, reduceCtorEq, resV, resAll, ARes.ev, LV.flat, ite_true, ite_false, exists_eq_left', exists_eq_left, keyOf, implies_true, fillC, capOf]
            rw [bs_or hS]
            exact ⟨m2 - 1, by omega, j + 1, by omega, rfl, g1, g2, g7, g8, g9, g10, by
              show LV.W _ = LV.W _
              rw [(bs_eq hS).2 fun c hc => show ((decide ((idx y z c).toNat < j) && decide (atL y z xs c = i)) || decide (c = cellAt y z j)) = (decide ((idx y z c).toNat < j + 1) && decide (atL y z xs c = i)) by
                rw [hstep c hc]
                by_cases e : c = cellAt y z j
                · rw [e, hatj, hxi]; simp
                · rw [decide_eq_false e]; simp], g34, g35, g36, g41, g42, eqI (natI _)⟩
          · simp (disch := omega) only [g1, g2, g7, g8, g9, g10, g11, g34, g35, g36, g41, g42, g43, hx, hxi, Nat.mul_one, ↓SXd, SXu, slBounds, ↓sop, ↓aop, ↓reduceIte, LV.cells, AOp.dst, LV.I, LV.B, LV.U, LV.S, LV.nil, Nat.reduceEqDiff, Nat.reduceAdd, Nat.reduceMul, Nat.reduceSub, Nat.reduceLeDiff, Nat.reduceBEq, Nat.reduceDiv, Nat.reduceMod, Int.reduceToNat, Int.reduceLT, Int.reduceLE, Int.reduceAdd, Int.reduceSub, Int.reduceMul, Int.reduceEq, Int.reduceNeg, reduceCtorEq, resV, resAll, ARes.ev, LV.flat, ite_true, ite_false, exists_eq_left', exists_eq_left, keyOf, implies_true, fillC, capOf]
            exact ⟨m2 - 1, by omega, j + 1, by omega, rfl, g1, g2, g7, g8, g9, g10, by
              show fr2 11 = LV.W _
              rw [g11, (bs_eq hS).2 fun c hc => show (decide ((idx y z c).toNat < j) && decide (atL y z xs c = i)) = (decide ((idx y z c).toNat < j + 1) && decide (atL y z xs c = i)) by
                rw [hstep c hc]
                by_cases e : c = cellAt y z j
                · rw [e, hatj, decide_eq_false hxi]; simp
                · rw [decide_eq_false e]; simp], g34, g35, g36, g41, g42, eqI (natI _)⟩
        · have : j = xs.length := by omega
          subst this
          rw [(bs_eq hS).2 fun c hc => show (decide ((idx y z c).toNat < xs.length) && decide (atL y z xs c = i)) = decide (atL y z xs c = i) by
            have := idx_in hS hc
            rw [decide_eq_true (show (idx y z c).toNat < xs.length by omega), Bool.true_and]] at g11
          have hfz : bs x y z (fun c => decide (atL y z xs c = i)) = 0#64 ↔ fib x y z xs i = [] := by
            rw [bs_zero hS]
            unfold fib pick
            rw [List.filter_eq_nil_iff]
            exact ⟨fun h c hc => by rw [h c ((mem_cellsOf hS).1 hc)]; simp, fun h c hc => by simpa using h c ((mem_cellsOf hS).2 hc)⟩
          by_cases hz : bs x y z (fun c => decide (atL y z xs c = i)) = 0#64
          · simp (disch := omega) only [g1, g2, g7, g8, g9, g10, g11, g34, g35, g36, hz, ↓SXd, SXu, slBounds, ↓sop, ↓aop, ↓reduceIte, LV.cells, AOp.dst, LV.I, LV.B, LV.U, LV.S, LV.nil, Nat.reduceEqDiff, Nat.reduceAdd, Nat.reduceMul, Nat.reduceSub, Nat.reduceLeDiff, Nat.reduceBEq, Nat.reduceDiv, Nat.reduceMod, Int.reduceToNat, Int.reduceLT, Int.reduceLE, Int.reduceAdd, Int.reduceSub, Int.reduceMul, Int.reduceEq, Int.reduceNeg, reduceCtorEq, resV, resAll, ARes.ev, LV.flat, ite_true, ite_false, exists_eq_left', exists_eq_left, keyOf, implies_true, fillC, capOf]
            exact hno (hbad fun hh => hh.1 (hfz.1 hz)) hpre
          · have hfne : fib x y z xs i ≠ [] := fun e => hz (hfz.2 e)
            have hfl : 0 < (fib x y z xs i).length := List.length_pos_iff.2 hfne
            have hfl64 : (fib x y z xs i).length ≤ 64 := pick_len hS _
            have hf0 := getD_mem' (d := default) hfl
            have hf0b := box4 hS ((mem_pick hS).1 hf0).1
            have hl0 := hlin _ (getD_mem' (d := default) (show 0 < (L.getD i []).length by omega))
            have hT0 := Tri.get hT (k := 0) (by omega)
            have hst3 : StepOK x y z cs L xs i ↔ PlacedOK x y z (leftP y z cs xs i) (L.getD i []) (tryAt x y z L xs i) ∧ ∀ d, d.inBox x y z → (d ∈ (L.getD i []).map (shift (tryAt x y z L xs i)) ↔ d ∈ fib x y z xs i) := ⟨fun h => ⟨h.2.1, h.2.2⟩, fun h => ⟨hfne, h.1, h.2⟩⟩
            have htry : tryAt x y z L xs i = shift (negC ((L.getD i []).getD 0 default)) ((fib x y z xs i).getD 0 default) := rfl
            simp (disch := omega) only [g1, g2, g7, g8, g9, g10, g11, g34, g35, g36, hz, b7.cells, ↓SXd, SXu, slBounds, ↓sop, ↓aop, ↓reduceIte, LV.cells, AOp.dst, LV.I, LV.B, LV.U, LV.S, LV.nil, Nat.reduceEqDiff, Nat.reduceAdd, Nat.reduceMul, Nat.reduceSub, Nat.reduceLeDiff, Nat.reduceBEq, Nat.reduceDiv, Nat.reduceMod, Int.reduceToNat, Int.reduceLT, Int.reduceLE, Int.reduceAdd, Int.reduceSub, Int.reduceMul, Int.reduceEq, Int.reduceNeg, reduceCtorEq, resV, resAll, ARes.ev, LV.flat, ite_true, ite_false, exists_eq_left', exists_eq_left, keyOf, implies_true, fillC, capOf]
            refine callN_of (g_list hS) ?_
            intro w N hw hpN hlN
            change Live N w (.row (triL (fib x y z xs i)) true 3) at hlN
            rw [show pick x y z (fun c => decide (atL y z xs c = i)) = fib x y z xs i from rfl]
            have hgQ := hlN.tri0 (k := 0) hfl
            have hT' := (hT.pre hpN).app (L := [some (.row [.I ((fib x y z xs i).getD 0 default).a, .I ((fib x y z xs i).getD 0 default).b, .I ((fib x y z xs i).getD 0 default).c] true 0)])
            have hTa := Tri.get_a hT' (k := 0) (by omega)
            have hTb := Tri.get_b hT' (k := 0) (by omega)
            have hTc := Tri.get_c hT' (k := 0) (by omega)
            rw [Nat.zero_mul, Nat.add_zero] at hTa hTb hTc
            have b7N := b7.pre hpN
            have hbl7 := b7N.lt
            have hlL : 0 < (L.getD i []).length := by omega
            have hneg : (⟨0 - ((L.getD i []).getD 0 default).a, 0 - ((L.getD i []).getD 0 default).b, 0 - ((L.getD i []).getD 0 default).c⟩ : Cell) = negC ((L.getD i []).getD 0 default) := by unfold negC; rw [Int.zero_sub, Int.zero_sub, Int.zero_sub]
            rw [Nat.zero_mul] at hgQ
            generalize hc0 : (fib x y z xs i).getD 0 default = c0 at hgQ hf0b htry hTa hTb hTc hT'
            generalize hd0 : (L.getD i []).getD 0 default = d0 at hl0 hTa hTb hTc hneg htry
            obtain ⟨⟨_, _⟩, ⟨_, _⟩, ⟨_, _⟩⟩ := id hf0b
            obtain ⟨⟨_, _⟩, ⟨_, _⟩, ⟨_, _⟩⟩ := id hl0
            simp (disch := omega) only [g1, g2, g7, g8, g9, g10, g11, g34, g35, g36, hgQ, Cell.row, splice, b7N.app.cells, hTa, hTb, hTc, Nat.zero_mul, Nat.add_zero, ↓SXd, SXu, slBounds, ↓sop, ↓aop, ↓reduceIte, LV.cells, AOp.dst, LV.I, LV.B, LV.U, LV.S, LV.nil, Nat.reduceEqDiff, Nat.reduceAdd, Nat.reduceMul, Nat.reduceSub, Nat.reduceLeDiff, Nat.reduceBEq, Nat.reduceDiv, Nat.reduceMod, Int.reduceToNat, Int.reduceLT, Int.reduceLE, Int.reduceAdd, Int.reduceSub, Int.reduceMul, Int.reduceEq, Int.reduceNeg, reduceCtorEq, resV, resAll, ARes.ev, LV.flat, ite_true, ite_false, exists_eq_left', exists_eq_left, keyOf, implies_true, fillC, capOf]
            refine callK_of (g_added (c := c0) (p := ⟨0 - d0.a, 0 - d0.b, 0 - d0.c⟩) ⟨by omega, by omega, by omega⟩ ⟨by show _ ∧ _; simp only; omega, by show _ ∧ _; simp only; omega, by show _ ∧ _; simp only; omega⟩) ?_
            rw [hneg, ← htry]
            simp (disch := omega) only [g1, g2, g7, g8, g9, g10, g11, g34, g35, g36, ↓SXd, SXu, slBounds, ↓sop, ↓aop, ↓reduceIte, LV.cells, AOp.dst, LV.I, LV.B, LV.U, LV.S, LV.nil, Nat.reduceEqDiff, Nat.reduceAdd, Nat.reduceMul, Nat.reduceSub, Nat.reduceLeDiff, Nat.reduceBEq, Nat.reduceDiv, Nat.reduceMod, Int.reduceToNat, Int.reduceLT, Int.reduceLE, Int.reduceAdd, Int.reduceSub, Int.reduceMul, Int.reduceEq, Int.reduceNeg, reduceCtorEq, resV, resAll, ARes.ev, LV.flat, ite_true, ite_false, exists_eq_left', exists_eq_left, keyOf, implies_true, fillC, capOf]
            refine callK_of (g_placed hS hT' (by omega) hlin) ?_
            have hpN' : Pre M (N ++ [some (.row [.I c0.a, .I c0.b, .I c0.c] true 0)]) := (hpre.trans hpN).app'
            by_cases hpo : PlacedOK x y z (leftP y z cs xs i) (L.getD i []) (tryAt x y z L xs i)
            · rw [if_pos hpo, decide_eq_true hpo]
              by_cases heq : bs x y z (fun d => decide (d ∈ (L.getD i []).map (shift (tryAt x y z L xs i)))) = bs x y z fun c => decide (atL y z xs c = i)
              · have hsi : StepOK x y z cs L xs i := hst3.2 ⟨hpo, fun d hd => by
                  have := (bs_eq hS).1 heq d hd
                  rw [decide_eq_decide] at this
                  rw [this]; unfold fib; rw [mem_pick hS, decide_eq_true_iff]; exact ⟨fun h => ⟨hd, h⟩, fun h => h.2⟩⟩
                rw [heq]
                simp (disch := omega) only [g1, g2, g7, g8, g9, g10, g11, g34, g35, g36, ↓SXd, SXu, slBounds, ↓sop, ↓aop, ↓reduceIte, LV.cells, AOp.dst, LV.I, LV.B, LV.U, LV.S, LV.nil, Nat.reduceEqDiff, Nat.reduceAdd, Nat.reduceMul, Nat.reduceSub, Nat.reduceLeDiff, Nat.reduceBEq, Nat.reduceDiv, Nat.reduceMod, Int.reduceToNat, Int.reduceLT, Int.reduceLE, Int.reduceAdd, Int.reduceSub, Int.reduceMul, Int.reduceEq, Int.reduceNeg, reduceCtorEq, resV, resAll, ARes.ev, LV.flat, ite_true, ite_false, exists_eq_left', exists_eq_left, keyOf, implies_true, fillC, capOf]
                rw [bs_diff hS]
                exact ⟨m - 1, by omega, i + 1, by omega, hpN', b7N.app, fun j hj => by
                  rcases Nat.lt_or_ge j i with h3 | h3
                  · exact hst j h3
                  · rw [show j = i by omega]; exact hsi, g1, g2, g7, by
                  show LV.W _ = LV.W _
                  rw [(bs_eq hS).2 fun c hc => show (leftP y z cs xs i c && !decide (atL y z xs c = i)) = leftP y z cs xs (i + 1) c by
                    unfold leftP
                    rw [Bool.and_assoc]
                    congr 1
                    rw [Bool.eq_iff_iff]
                    simp only [Bool.and_eq_true, Bool.not_eq_true', decide_eq_false_iff_not]
                    omega], g34, g35, eqI (natI _)⟩
              · simp (disch := omega) only [g1, g2, g7, g8, g9, g10, g11, g34, g35, g36, heq, ↓SXd, SXu, slBounds, ↓sop, ↓aop, ↓reduceIte, LV.cells, AOp.dst, LV.I, LV.B, LV.U, LV.S, LV.nil, Nat.reduceEqDiff, Nat.reduceAdd, Nat.reduceMul, Nat.reduceSub, Nat.reduceLeDiff, Nat.reduceBEq, Nat.reduceDiv, Nat.reduceMod, Int.reduceToNat, Int.reduceLT, Int.reduceLE, Int.reduceAdd, Int.reduceSub, Int.reduceMul, Int.reduceEq, Int.reduceNeg, reduceCtorEq, resV, resAll, ARes.ev, LV.flat, ite_true, ite_false, exists_eq_left', exists_eq_left, keyOf, implies_true, fillC, capOf]
                exact hno (hbad fun hh => heq ((bs_eq hS).2 fun d hd => by
                  have := (hst3.1 hh).2 d hd
                  rw [decide_eq_decide, this]; unfold fib; rw [mem_pick hS, decide_eq_true_iff]; exact ⟨fun h => h.2, fun h => ⟨hd, h⟩⟩)) hpN'
            · rw [if_neg hpo, decide_eq_false hpo]
              simp (disch := omega) only [g1, g2, g7, g8, g9, g10, g11, g34, g35, g36, ↓SXd, SXu, slBounds, ↓sop, ↓aop, ↓reduceIte, LV.cells, AOp.dst, LV.I, LV.B, LV.U, LV.S, LV.nil, Nat.reduceEqDiff, Nat.reduceAdd, Nat.reduceMul, Nat.reduceSub, Nat.reduceLeDiff, Nat.reduceBEq, Nat.reduceDiv, Nat.reduceMod, Int.reduceToNat, Int.reduceLT, Int.reduceLE, Int.reduceAdd, Int.reduceSub, Int.reduceMul, Int.reduceEq, Int.reduceNeg, reduceCtorEq, resV, resAll, ARes.ev, LV.flat, ite_true, ite_false, exists_eq_left', exists_eq_left, keyOf, implies_true, fillC, capOf]
              exact hno (hbad fun hh => hpo (hst3.1 hh).1) hpN'
      · have : i = L.length := by omega
        subst this
        by_cases hz : bs x y z (leftP y z cs xs L.length) = 0#64
        · simp (disch := omega) only [f1, f2, f7, f8, f34, f35, f36, hz, ↓SXd, SXu, slBounds, ↓sop, ↓aop, ↓reduceIte, LV.cells, AOp.dst, LV.I, LV.B, LV.U, LV.S, LV.nil, Nat.reduceEqDiff, Nat.reduceAdd, Nat.reduceMul, Nat.reduceSub, Nat.reduceLeDiff, Nat.reduceBEq, Nat.reduceDiv, Nat.reduceMod, Int.reduceToNat, Int.reduceLT, Int.reduceLE, Int.reduceAdd, Int.reduceSub, Int.reduceMul, Int.reduceEq, Int.reduceNeg, reduceCtorEq, resV, resAll, ARes.ev, LV.flat, ite_true, ite_false, exists_eq_left', exists_eq_left, keyOf, implies_true, fillC, capOf]
          rw [decide_eq_true (hiff.2 ⟨h1', h2, fun j hj => hst j hj, (bs_zero hS).1 hz⟩)]
          exact cmp_pre hpre rfl
        · simp (disch := omega) only [f1, f2, f7, f8, f34, f35, f36, hz, ↓SXd, SXu, slBounds, ↓sop, ↓aop, ↓reduceIte, LV.cells, AOp.dst, LV.I, LV.B, LV.U, LV.S, LV.nil, Nat.reduceEqDiff, Nat.reduceAdd, Nat.reduceMul, Nat.reduceSub, Nat.reduceLeDiff, Nat.reduceBEq, Nat.reduceDiv, Nat.reduceMod, Int.reduceToNat, Int.reduceLT, Int.reduceLE, Int.reduceAdd, Int.reduceSub, Int.reduceMul, Int.reduceEq, Int.reduceNeg, reduceCtorEq, resV, resAll, ARes.ev, LV.flat, ite_true, ite_false, exists_eq_left', exists_eq_left, keyOf, implies_true, fillC, capOf]
          exact hno (fun hh => hz ((bs_zero hS).2 hh.2.2.2)) hpre
    · rw [decide_eq_false h2]
      simp (disch := omega) only [↓SXd, SXu, slBounds, ↓sop, ↓aop, ↓reduceIte, LV.cells, AOp.dst, LV.I, LV.B, LV.U, LV.S, LV.nil, Nat.reduceEqDiff, Nat.reduceAdd, Nat.reduceMul, Nat.reduceSub, Nat.reduceLeDiff, Nat.reduceBEq, Nat.reduceDiv, Nat.reduceMod, Int.reduceToNat, Int.reduceLT, Int.reduceLE, Int.reduceAdd, Int.reduceSub, Int.reduceMul, Int.reduceEq, Int.reduceNeg, reduceCtorEq, resV, resAll, ARes.ev, LV.flat, ite_true, ite_false, exists_eq_left', exists_eq_left, keyOf, implies_true, fillC, capOf]
      exact hno (fun hp => h2 hp.2.1) (Pre.app _ _)
  · simp (disch := omega) only [h1, ↓SXd, SXu, slBounds, ↓sop, ↓aop, ↓reduceIte, LV.cells, AOp.dst, LV.I, LV.B, LV.U, LV.S, LV.nil, Nat.reduceEqDiff, Nat.reduceAdd, Nat.reduceMul, Nat.reduceSub, Nat.reduceLeDiff, Nat.reduceBEq, Nat.reduceDiv, Nat.reduceMod, Int.reduceToNat, Int.reduceLT, Int.reduceLE, Int.reduceAdd, Int.reduceSub, Int.reduceMul, Int.reduceEq, Int.reduceNeg, reduceCtorEq, resV, resAll, ARes.ev, LV.flat, ite_true, ite_false, exists_eq_left', exists_eq_left, keyOf, implies_true, fillC, capOf]
    exact hno (fun hp => h1 (by have := hp.1; omega)) (Pre.app _ _)
theorem g_sIsPacking {x y z : Int} {t o u q r : Nat} {cs : List Cell} {L : List (List Cell)} {xs : List Int} {M : Mem} (h : Tri M t o cs) (hn : cs.length ≤ 1000000000) (hP : Pcs M u L) (hL : L.length ≤ 1000000000) (hLs : ∀ l ∈ L, l.length ≤ 1000000000) (hX : Ints M q r xs) (hxn : xs.length ≤ 1000000000) :
    CallsR PG F.impl_IsPacking [.agg [.I x, .I y, .I z, .ref t o cs.length], .ref u 0 L.length, .ref q r xs.length] M fun v N => v = .tup [.B (pkP x y z cs L xs).1, .B (pkP x y z cs L xs).2] ∧ Pre M N := by
  refine callsR_run K.impl_IsPacking rfl ?_
  simp (disch := omega) only [C.impl_IsPacking, ↓SXd, SXu, slBounds, ↓sop, ↓aop, ↓reduceIte, LV.cells, AOp.dst, LV.I, LV.B, LV.U, LV.S, LV.nil, Nat.reduceEqDiff, Nat.reduceAdd, Nat.reduceMul, Nat.reduceSub, Nat.reduceLeDiff, Nat.reduceBEq, Nat.reduceDiv, Nat.reduceMod, Int.reduceToNat, Int.reduceLT, Int.reduceLE, Int.reduceAdd, Int.reduceSub, Int.reduceMul, Int.reduceEq, Int.reduceNeg, reduceCtorEq, resV, resAll, ARes.ev, LV.flat, ite_true, ite_false, exists_eq_left', exists_eq_left, keyOf, implies_true, fillC, capOf]
  refine callK_of (g_arePacked hP.app hL hLs h.app hn) ?_
  simp (disch := omega) only [↓SXd, SXu, slBounds, ↓sop, ↓aop, ↓reduceIte, LV.cells, AOp.dst, LV.I, LV.B, LV.U, LV.S, LV.nil, Nat.reduceEqDiff, Nat.reduceAdd, Nat.reduceMul, Nat.reduceSub, Nat.reduceLeDiff, Nat.reduceBEq, Nat.reduceDiv, Nat.reduceMod, Int.reduceToNat, Int.reduceLT, Int.reduceLE, Int.reduceAdd, Int.reduceSub, Int.reduceMul, Int.reduceEq, Int.reduceNeg, reduceCtorEq, resV, resAll, ARes.ev, LV.flat, ite_true, ite_false, exists_eq_left', exists_eq_left, keyOf, implies_true, fillC, capOf]
  unfold pkP
  by_cases hA : AskOK x y z cs L
  · rw [if_pos hA, decide_eq_true hA]
    simp (disch := omega) only [↓SXd, SXu, slBounds, ↓sop, ↓aop, ↓reduceIte, LV.cells, AOp.dst, LV.I, LV.B, LV.U, LV.S, LV.nil, Nat.reduceEqDiff, Nat.reduceAdd, Nat.reduceMul, Nat.reduceSub, Nat.reduceLeDiff, Nat.reduceBEq, Nat.reduceDiv, Nat.reduceMod, Int.reduceToNat, Int.reduceLT, Int.reduceLE, Int.reduceAdd, Int.reduceSub, Int.reduceMul, Int.reduceEq, Int.reduceNeg, reduceCtorEq, resV, resAll, ARes.ev, LV.flat, ite_true, ite_false, exists_eq_left', exists_eq_left, keyOf, implies_true, fillC, capOf]
    refine callK_of (g_isPackingH h.app hP.app hX.app hA hxn) ?_
    simp (disch := omega) only [↓SXd, SXu, slBounds, ↓sop, ↓aop, ↓reduceIte, LV.cells, AOp.dst, LV.I, LV.B, LV.U, LV.S, LV.nil, Nat.reduceEqDiff, Nat.reduceAdd, Nat.reduceMul, Nat.reduceSub, Nat.reduceLeDiff, Nat.reduceBEq, Nat.reduceDiv, Nat.reduceMod, Int.reduceToNat, Int.reduceLT, Int.reduceLE, Int.reduceAdd, Int.reduceSub, Int.reduceMul, Int.reduceEq, Int.reduceNeg, reduceCtorEq, resV, resAll, ARes.ev, LV.flat, ite_true, ite_false, exists_eq_left', exists_eq_left, keyOf, implies_true, fillC, capOf]
    exact ⟨rfl, Pre.app _ _⟩
  · rw [if_neg hA, decide_eq_false hA]
    simp (disch := omega) only [↓SXd, SXu, slBounds, ↓sop, ↓aop, ↓reduceIte, LV.cells, AOp.dst, LV.I, LV.B, LV.U, LV.S, LV.nil, Nat.reduceEqDiff, Nat.reduceAdd, Nat.reduceMul, Nat.reduceSub, Nat.reduceLeDiff, Nat.reduceBEq, Nat.reduceDiv, Nat.reduceMod, Int.reduceToNat, Int.reduceLT, Int.reduceLE, Int.reduceAdd, Int.reduceSub, Int.reduceMul, Int.reduceEq, Int.reduceNeg, reduceCtorEq, resV, resAll, ARes.ev, LV.flat, ite_true, ite_false, exists_eq_left', exists_eq_left, keyOf, implies_true, fillC, capOf]
    exact ⟨rfl, Pre.app _ _⟩
end Go.Ab

/- The law of IsPacking. -/
namespace Go.Ab
open Go
set_option linter.unusedSimpArgs false
set_option linter.unusedVariables false
set_option maxRecDepth 20000

theorem l_IsPacking {x y z : Int} {t o u q : Nat} {cs : List Cell} {L : List (List Cell)} {xs : List Int} {M : Mem} (h : Tri M t o cs) (hn0 : cs.length ≤ 9223372036854775807) (hP : Pcs M u L) (hP0 : L.length ≤ 9223372036854775807 ∧ ∀ l ∈ L, l.length ≤ 9223372036854775807) (hX : Ints M q 0 xs) (hx0 : xs.length ≤ 9223372036854775807) :
    CallsR PG F.laws_FnExactIsPacking [.agg [.I x, .I y, .I z, .ref t o cs.length], .ref u 0 L.length, .ref q 0 xs.length] M fun v _ => v = .B true := by
  have ht := h.lt
  have hu := hP.lt
  have hql := hX.lt
  have hP00 := hP0.1
  refine callsR_run K.laws_FnExactIsPacking rfl ?_
  simp (disch := omega) only [C.laws_FnExactIsPacking, ↓SXd, SXu, slBounds, ↓sop, ↓aop, ↓reduceIte, LV.cells, AOp.dst, LV.I, LV.B, LV.U, LV.S, LV.nil, Nat.reduceEqDiff, Nat.reduceAdd, Nat.reduceMul, Nat.reduceSub, Nat.reduceLeDiff, Nat.reduceBEq, Nat.reduceDiv, Nat.reduceMod, Int.reduceToNat, Int.reduceLT, Int.reduceLE, Int.reduceAdd, Int.reduceSub, Int.reduceMul, Int.reduceEq, Int.reduceNeg, reduceCtorEq, resV, resAll, ARes.ev, LV.flat, ite_true, ite_false, exists_eq_left', exists_eq_left, keyOf, implies_true, fillC, capOf]
  by_cases hxl : (xs.length : Int) > 1048576
  · simp (disch := omega) only [hxl, ↓SXd, SXu, slBounds, ↓sop, ↓aop, ↓reduceIte, LV.cells, AOp.dst, LV.I, LV.B, LV.U, LV.S, LV.nil, Nat.reduceEqDiff, Nat.reduceAdd, Nat.reduceMul, Nat.reduceSub, Nat.reduceLeDiff, Nat.reduceBEq, Nat.reduceDiv, Nat.reduceMod, Int.reduceToNat, Int.reduceLT, Int.reduceLE, Int.reduceAdd, Int.reduceSub, Int.reduceMul, Int.reduceEq, Int.reduceNeg, reduceCtorEq, resV, resAll, ARes.ev, LV.flat, ite_true, ite_false, exists_eq_left', exists_eq_left, keyOf, implies_true, fillC, capOf]
    rfl
  simp (disch := omega) only [hxl, ↓SXd, SXu, slBounds, ↓sop, ↓aop, ↓reduceIte, LV.cells, AOp.dst, LV.I, LV.B, LV.U, LV.S, LV.nil, Nat.reduceEqDiff, Nat.reduceAdd, Nat.reduceMul, Nat.reduceSub, Nat.reduceLeDiff, Nat.reduceBEq, Nat.reduceDiv, Nat.reduceMod, Int.reduceToNat, Int.reduceLT, Int.reduceLE, Int.reduceAdd, Int.reduceSub, Int.reduceMul, Int.reduceEq, Int.reduceNeg, reduceCtorEq, resV, resAll, ARes.ev, LV.flat, ite_true, ite_false, exists_eq_left', exists_eq_left, keyOf, implies_true, fillC, capOf]
  refine callK_of (h_szHeap (by omega) (by omega) (by omega)) ?_
  simp (disch := omega) only [↓SXd, SXu, slBounds, ↓sop, ↓aop, ↓reduceIte, LV.cells, AOp.dst, LV.I, LV.B, LV.U, LV.S, LV.nil, Nat.reduceEqDiff, Nat.reduceAdd, Nat.reduceMul, Nat.reduceSub, Nat.reduceLeDiff, Nat.reduceBEq, Nat.reduceDiv, Nat.reduceMod, Int.reduceToNat, Int.reduceLT, Int.reduceLE, Int.reduceAdd, Int.reduceSub, Int.reduceMul, Int.reduceEq, Int.reduceNeg, reduceCtorEq, resV, resAll, ARes.ev, LV.flat, ite_true, ite_false, exists_eq_left', exists_eq_left, keyOf, implies_true, fillC, capOf]
  by_cases hl : (1048576 : Int) < (cs.length : Nat)
  · rw [if_pos hl]
    simp (disch := omega) only [Int.reduceLT, ↓SXd, SXu, slBounds, ↓sop, ↓aop, ↓reduceIte, LV.cells, AOp.dst, LV.I, LV.B, LV.U, LV.S, LV.nil, Nat.reduceEqDiff, Nat.reduceAdd, Nat.reduceMul, Nat.reduceSub, Nat.reduceLeDiff, Nat.reduceBEq, Nat.reduceDiv, Nat.reduceMod, Int.reduceToNat, Int.reduceLT, Int.reduceLE, Int.reduceAdd, Int.reduceSub, Int.reduceMul, Int.reduceEq, Int.reduceNeg, reduceCtorEq, resV, resAll, ARes.ev, LV.flat, ite_true, ite_false, exists_eq_left', exists_eq_left, keyOf, implies_true, fillC, capOf]
    rfl
  rw [if_neg hl]
  simp (disch := omega) only [↓SXd, SXu, slBounds, ↓sop, ↓aop, ↓reduceIte, LV.cells, AOp.dst, LV.I, LV.B, LV.U, LV.S, LV.nil, Nat.reduceEqDiff, Nat.reduceAdd, Nat.reduceMul, Nat.reduceSub, Nat.reduceLeDiff, Nat.reduceBEq, Nat.reduceDiv, Nat.reduceMod, Int.reduceToNat, Int.reduceLT, Int.reduceLE, Int.reduceAdd, Int.reduceSub, Int.reduceMul, Int.reduceEq, Int.reduceNeg, reduceCtorEq, resV, resAll, ARes.ev, LV.flat, ite_true, ite_false, exists_eq_left', exists_eq_left, keyOf, implies_true, fillC, capOf]
  refine callK_of (h_szIntA3SS hP.app (by omega) (by omega) hP0) ?_
  simp (disch := omega) only [↓SXd, SXu, slBounds, ↓sop, ↓aop, ↓reduceIte, LV.cells, AOp.dst, LV.I, LV.B, LV.U, LV.S, LV.nil, Nat.reduceEqDiff, Nat.reduceAdd, Nat.reduceMul, Nat.reduceSub, Nat.reduceLeDiff, Nat.reduceBEq, Nat.reduceDiv, Nat.reduceMod, Int.reduceToNat, Int.reduceLT, Int.reduceLE, Int.reduceAdd, Int.reduceSub, Int.reduceMul, Int.reduceEq, Int.reduceNeg, reduceCtorEq, resV, resAll, ARes.ev, LV.flat, ite_true, ite_false, exists_eq_left', exists_eq_left, keyOf, implies_true, fillC, capOf]
  by_cases hl2 : (1048576 : Int) - (cs.length : Nat) < (L.length : Nat) + (tot L : Nat)
  · rw [if_pos hl2]
    simp (disch := omega) only [Int.reduceLT, ↓SXd, SXu, slBounds, ↓sop, ↓aop, ↓reduceIte, LV.cells, AOp.dst, LV.I, LV.B, LV.U, LV.S, LV.nil, Nat.reduceEqDiff, Nat.reduceAdd, Nat.reduceMul, Nat.reduceSub, Nat.reduceLeDiff, Nat.reduceBEq, Nat.reduceDiv, Nat.reduceMod, Int.reduceToNat, Int.reduceLT, Int.reduceLE, Int.reduceAdd, Int.reduceSub, Int.reduceMul, Int.reduceEq, Int.reduceNeg, reduceCtorEq, resV, resAll, ARes.ev, LV.flat, ite_true, ite_false, exists_eq_left', exists_eq_left, keyOf, implies_true, fillC, capOf]
    rfl
  rw [if_neg hl2]
  have hl3 : ¬ ((1048576 : Int) - (cs.length : Nat) - (L.length : Nat) - (tot L : Nat) < 0) := by omega
  have hn : cs.length ≤ 1000000000 := by omega
  have hxn : xs.length ≤ 1000000000 := by omega
  have hL : L.length ≤ 1000000000 := by omega
  have hLs : ∀ l ∈ L, l.length ≤ 1000000000 := fun l hl => by have := tot_le_mem hl; omega
  simp (disch := omega) only [hl3, ↓SXd, SXu, slBounds, ↓sop, ↓aop, ↓reduceIte, LV.cells, AOp.dst, LV.I, LV.B, LV.U, LV.S, LV.nil, Nat.reduceEqDiff, Nat.reduceAdd, Nat.reduceMul, Nat.reduceSub, Nat.reduceLeDiff, Nat.reduceBEq, Nat.reduceDiv, Nat.reduceMod, Int.reduceToNat, Int.reduceLT, Int.reduceLE, Int.reduceAdd, Int.reduceSub, Int.reduceMul, Int.reduceEq, Int.reduceNeg, reduceCtorEq, resV, resAll, ARes.ev, LV.flat, ite_true, ite_false, exists_eq_left', exists_eq_left, keyOf, implies_true, fillC, capOf]
  refine callK_of (h_toHeap h.app hn) ?_
  simp (disch := omega) only [↓SXd, SXu, slBounds, ↓sop, ↓aop, ↓reduceIte, LV.cells, AOp.dst, LV.I, LV.B, LV.U, LV.S, LV.nil, Nat.reduceEqDiff, Nat.reduceAdd, Nat.reduceMul, Nat.reduceSub, Nat.reduceLeDiff, Nat.reduceBEq, Nat.reduceDiv, Nat.reduceMod, Int.reduceToNat, Int.reduceLT, Int.reduceLE, Int.reduceAdd, Int.reduceSub, Int.reduceMul, Int.reduceEq, Int.reduceNeg, reduceCtorEq, resV, resAll, ARes.ev, LV.flat, ite_true, ite_false, exists_eq_left', exists_eq_left, keyOf, implies_true, fillC, capOf]
  refine callR_of (h_toIntA3SS hP.app (by omega)) ?_
  rintro _ N1 ⟨u1, rfl, hp1, hpr1⟩
  have hc1 : Live N1 (M.length + 1) (.row (triL cs) true 3) := (Live.newj rfl).pre hpr1
  have b1 : Live N1 M.length (.row [.I x, .I y, .I z, .ref t o cs.length] true 0) := Live.new.pre hpr1
  have hM1 : Pre M N1 := (Pre.app _ _).trans hpr1
  simp (disch := omega) only [↓SXd, SXu, slBounds, ↓sop, ↓aop, ↓reduceIte, LV.cells, AOp.dst, LV.I, LV.B, LV.U, LV.S, LV.nil, Nat.reduceEqDiff, Nat.reduceAdd, Nat.reduceMul, Nat.reduceSub, Nat.reduceLeDiff, Nat.reduceBEq, Nat.reduceDiv, Nat.reduceMod, Int.reduceToNat, Int.reduceLT, Int.reduceLE, Int.reduceAdd, Int.reduceSub, Int.reduceMul, Int.reduceEq, Int.reduceNeg, reduceCtorEq, resV, resAll, ARes.ev, LV.flat, ite_true, ite_false, exists_eq_left', exists_eq_left, keyOf, implies_true, fillC, capOf]
  refine callK_of (h_toIntS (hX.pre hM1) hxn) ?_
  simp (disch := omega) only [↓SXd, SXu, slBounds, ↓sop, ↓aop, ↓reduceIte, LV.cells, AOp.dst, LV.I, LV.B, LV.U, LV.S, LV.nil, Nat.reduceEqDiff, Nat.reduceAdd, Nat.reduceMul, Nat.reduceSub, Nat.reduceLeDiff, Nat.reduceBEq, Nat.reduceDiv, Nat.reduceMod, Int.reduceToNat, Int.reduceLT, Int.reduceLE, Int.reduceAdd, Int.reduceSub, Int.reduceMul, Int.reduceEq, Int.reduceNeg, reduceCtorEq, resV, resAll, ARes.ev, LV.flat, ite_true, ite_false, exists_eq_left', exists_eq_left, keyOf, implies_true, fillC, capOf]
  refine callR_of (h_sIsPacking hc1.app.has hn hp1.pcs.app hL hLs (Live.new (b := .row (intL xs) true 1)).has hxn) ?_
  rintro _ N2 ⟨rfl, hpr2⟩
  have b2 := b1.app.pre hpr2
  have hM2 := (hM1.app').trans hpr2
  simp (disch := omega) only [b2.cells, ↓SXd, SXu, slBounds, ↓sop, ↓aop, ↓reduceIte, LV.cells, AOp.dst, LV.I, LV.B, LV.U, LV.S, LV.nil, Nat.reduceEqDiff, Nat.reduceAdd, Nat.reduceMul, Nat.reduceSub, Nat.reduceLeDiff, Nat.reduceBEq, Nat.reduceDiv, Nat.reduceMod, Int.reduceToNat, Int.reduceLT, Int.reduceLE, Int.reduceAdd, Int.reduceSub, Int.reduceMul, Int.reduceEq, Int.reduceNeg, reduceCtorEq, resV, resAll, ARes.ev, LV.flat, ite_true, ite_false, exists_eq_left', exists_eq_left, keyOf, implies_true, fillC, capOf]
  refine callK_of (h_toHeap (h.pre hM2) hn) ?_
  simp (disch := omega) only [↓SXd, SXu, slBounds, ↓sop, ↓aop, ↓reduceIte, LV.cells, AOp.dst, LV.I, LV.B, LV.U, LV.S, LV.nil, Nat.reduceEqDiff, Nat.reduceAdd, Nat.reduceMul, Nat.reduceSub, Nat.reduceLeDiff, Nat.reduceBEq, Nat.reduceDiv, Nat.reduceMod, Int.reduceToNat, Int.reduceLT, Int.reduceLE, Int.reduceAdd, Int.reduceSub, Int.reduceMul, Int.reduceEq, Int.reduceNeg, reduceCtorEq, resV, resAll, ARes.ev, LV.flat, ite_true, ite_false, exists_eq_left', exists_eq_left, keyOf, implies_true, fillC, capOf]
  refine callR_of (h_toIntA3SS (hP.pre (hM2.trans (Pre.app _ _))) (by omega)) ?_
  rintro _ N3 ⟨u3, rfl, hp3, hpr3⟩
  have hc3 : Live N3 N2.length (.row (triL cs) true 3) := Live.new.pre hpr3
  have x3 : Live N3 (N2.length + 1) (.row [.I x, .I y, .I z, .ref N2.length 0 cs.length] true 0) := (Live.newj rfl).pre hpr3
  have b3 := b2.pre ((Pre.app _ _).trans hpr3)
  have hM3 := hM2.trans ((Pre.app _ _).trans hpr3)
  simp (disch := omega) only [↓SXd, SXu, slBounds, ↓sop, ↓aop, ↓reduceIte, LV.cells, AOp.dst, LV.I, LV.B, LV.U, LV.S, LV.nil, Nat.reduceEqDiff, Nat.reduceAdd, Nat.reduceMul, Nat.reduceSub, Nat.reduceLeDiff, Nat.reduceBEq, Nat.reduceDiv, Nat.reduceMod, Int.reduceToNat, Int.reduceLT, Int.reduceLE, Int.reduceAdd, Int.reduceSub, Int.reduceMul, Int.reduceEq, Int.reduceNeg, reduceCtorEq, resV, resAll, ARes.ev, LV.flat, ite_true, ite_false, exists_eq_left', exists_eq_left, keyOf, implies_true, fillC, capOf]
  refine callK_of (h_toIntS (hX.pre hM3) hxn) ?_
  simp (disch := omega) only [x3.app.cells, ↓SXd, SXu, slBounds, ↓sop, ↓aop, ↓reduceIte, LV.cells, AOp.dst, LV.I, LV.B, LV.U, LV.S, LV.nil, Nat.reduceEqDiff, Nat.reduceAdd, Nat.reduceMul, Nat.reduceSub, Nat.reduceLeDiff, Nat.reduceBEq, Nat.reduceDiv, Nat.reduceMod, Int.reduceToNat, Int.reduceLT, Int.reduceLE, Int.reduceAdd, Int.reduceSub, Int.reduceMul, Int.reduceEq, Int.reduceNeg, reduceCtorEq, resV, resAll, ARes.ev, LV.flat, ite_true, ite_false, exists_eq_left', exists_eq_left, keyOf, implies_true, fillC, capOf]
  refine callR_of (g_sIsPacking hc3.app.has hn hp3.pcs.app hL hLs (Live.new (b := .row (intL xs) true 1)).has hxn) ?_
  rintro _ N4 ⟨rfl, hpr4⟩
  have b4 := b3.app.pre hpr4
  have x4 := x3.app.pre hpr4
  have hc4 := hc3.app.pre hpr4
  have hp4 := (hp3.pre (Pre.app _ _)).pre hpr4
  have hi4 : Live N4 N3.length (.row (intL xs) true 1) := Live.new.pre hpr4
  have hM4 := (hM3.app').trans hpr4
  simp (disch := omega) only [b4.cells, x4.cells, ↓SXd, SXu, slBounds, ↓sop, ↓aop, ↓reduceIte, LV.cells, AOp.dst, LV.I, LV.B, LV.U, LV.S, LV.nil, Nat.reduceEqDiff, Nat.reduceAdd, Nat.reduceMul, Nat.reduceSub, Nat.reduceLeDiff, Nat.reduceBEq, Nat.reduceDiv, Nat.reduceMod, Int.reduceToNat, Int.reduceLT, Int.reduceLE, Int.reduceAdd, Int.reduceSub, Int.reduceMul, Int.reduceEq, Int.reduceNeg, reduceCtorEq, resV, resAll, ARes.ev, LV.flat, ite_true, ite_false, exists_eq_left', exists_eq_left, keyOf, implies_true, fillC, capOf]
  refine callK_of (h_toHeap (h.pre hM4) hn) ?_
  simp (disch := omega) only [x4.cells, b4.cells, ↓SXd, SXu, slBounds, ↓sop, ↓aop, ↓reduceIte, LV.cells, AOp.dst, LV.I, LV.B, LV.U, LV.S, LV.nil, Nat.reduceEqDiff, Nat.reduceAdd, Nat.reduceMul, Nat.reduceSub, Nat.reduceLeDiff, Nat.reduceBEq, Nat.reduceDiv, Nat.reduceMod, Int.reduceToNat, Int.reduceLT, Int.reduceLE, Int.reduceAdd, Int.reduceSub, Int.reduceMul, Int.reduceEq, Int.reduceNeg, reduceCtorEq, resV, resAll, ARes.ev, LV.flat, ite_true, ite_false, exists_eq_left', exists_eq_left, keyOf, implies_true, fillC, capOf]
  have he := h_eqHeap (x := x) (y := y) (z := z) (x' := x) (y' := y) (z' := z) (M := N4 ++ [some (.row (triL cs) true 3)]) hc4.app.has (Live.newj (M := N4) (L := [some (.row (triL cs) true 3)]) (j := 0) rfl).has hn hn
  rw [decide_eq_true (by simp)] at he
  refine callK_of he ?_
  simp (disch := omega) only [↓SXd, SXu, slBounds, ↓sop, ↓aop, ↓reduceIte, LV.cells, AOp.dst, LV.I, LV.B, LV.U, LV.S, LV.nil, Nat.reduceEqDiff, Nat.reduceAdd, Nat.reduceMul, Nat.reduceSub, Nat.reduceLeDiff, Nat.reduceBEq, Nat.reduceDiv, Nat.reduceMod, Int.reduceToNat, Int.reduceLT, Int.reduceLE, Int.reduceAdd, Int.reduceSub, Int.reduceMul, Int.reduceEq, Int.reduceNeg, reduceCtorEq, resV, resAll, ARes.ev, LV.flat, ite_true, ite_false, exists_eq_left', exists_eq_left, keyOf, implies_true, fillC, capOf]
  refine callR_of (h_toIntA3SS (hP.pre (hM4.trans (Pre.app _ _))) (by omega)) ?_
  rintro _ N5 ⟨u5, rfl, hp5, hpr5⟩
  simp (disch := omega) only [↓SXd, SXu, slBounds, ↓sop, ↓aop, ↓reduceIte, LV.cells, AOp.dst, LV.I, LV.B, LV.U, LV.S, LV.nil, Nat.reduceEqDiff, Nat.reduceAdd, Nat.reduceMul, Nat.reduceSub, Nat.reduceLeDiff, Nat.reduceBEq, Nat.reduceDiv, Nat.reduceMod, Int.reduceToNat, Int.reduceLT, Int.reduceLE, Int.reduceAdd, Int.reduceSub, Int.reduceMul, Int.reduceEq, Int.reduceNeg, reduceCtorEq, resV, resAll, ARes.ev, LV.flat, ite_true, ite_false, exists_eq_left', exists_eq_left, keyOf, implies_true, fillC, capOf]
  refine callK_of (h_eqCss (hp4.pre ((Pre.app _ _).trans hpr5)).slcc.v hp5.slcc.v (by omega) (by omega)) ?_
  simp (disch := omega) only [↓SXd, SXu, slBounds, ↓sop, ↓aop, ↓reduceIte, LV.cells, AOp.dst, LV.I, LV.B, LV.U, LV.S, LV.nil, Nat.reduceEqDiff, Nat.reduceAdd, Nat.reduceMul, Nat.reduceSub, Nat.reduceLeDiff, Nat.reduceBEq, Nat.reduceDiv, Nat.reduceMod, Int.reduceToNat, Int.reduceLT, Int.reduceLE, Int.reduceAdd, Int.reduceSub, Int.reduceMul, Int.reduceEq, Int.reduceNeg, reduceCtorEq, resV, resAll, ARes.ev, LV.flat, ite_true, ite_false, exists_eq_left', exists_eq_left, keyOf, implies_true, fillC, capOf]
  refine callK_of (h_toIntS (hX.pre ((hM4.trans (Pre.app _ _)).trans hpr5)) hxn) ?_
  simp (disch := omega) only [↓SXd, SXu, slBounds, ↓sop, ↓aop, ↓reduceIte, LV.cells, AOp.dst, LV.I, LV.B, LV.U, LV.S, LV.nil, Nat.reduceEqDiff, Nat.reduceAdd, Nat.reduceMul, Nat.reduceSub, Nat.reduceLeDiff, Nat.reduceBEq, Nat.reduceDiv, Nat.reduceMod, Int.reduceToNat, Int.reduceLT, Int.reduceLE, Int.reduceAdd, Int.reduceSub, Int.reduceMul, Int.reduceEq, Int.reduceNeg, reduceCtorEq, resV, resAll, ARes.ev, LV.flat, ite_true, ite_false, exists_eq_left', exists_eq_left, keyOf, implies_true, fillC, capOf]
  have hj := h_eqIntS (l := xs) (l' := xs) (M := N5 ++ [some (.row (intL xs) true 1)]) (.inr ⟨_, _, rfl, ((hi4.pre ((Pre.app _ _).trans hpr5)).app).has⟩) (.inr ⟨_, _, rfl, (Live.new (b := .row (intL xs) true 1)).has⟩) hxn hxn
  rw [decide_eq_true rfl] at hj
  refine callK_of hj ?_
  simp (disch := omega) only [↓SXd, SXu, slBounds, ↓sop, ↓aop, ↓reduceIte, LV.cells, AOp.dst, LV.I, LV.B, LV.U, LV.S, LV.nil, Nat.reduceEqDiff, Nat.reduceAdd, Nat.reduceMul, Nat.reduceSub, Nat.reduceLeDiff, Nat.reduceBEq, Nat.reduceDiv, Nat.reduceMod, Int.reduceToNat, Int.reduceLT, Int.reduceLE, Int.reduceAdd, Int.reduceSub, Int.reduceMul, Int.reduceEq, Int.reduceNeg, reduceCtorEq, resV, resAll, ARes.ev, LV.flat, ite_true, ite_false, exists_eq_left', exists_eq_left, keyOf, implies_true, fillC, capOf]
  rfl
end Go.Ab
