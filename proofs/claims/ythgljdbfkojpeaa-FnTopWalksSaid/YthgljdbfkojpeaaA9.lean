/- Parts of the proof of FnTopWalksSaid: Gf Yg Yh Zb C_Yi K_Yi Yi Zc C_Wb K_Wb C_Ug K_Ug Ug Va Wa C_Uk K_Uk C_Uj K_Uj C_Ui K_Ui C_Uh K_Uh Uh Ui Uj Uk C_Vb K_Vb Vb Wb Zd C_Ek K_Ek Ek El Em C_Hf K_Hf C_He K_He Sg C_Hd K_Hd. -/
import Derived.Test.YthgljdbfkojpeaaA8
import Derived.Test.YthgljdbfkojpeaaA4
import Derived.Test.YthgljdbfkojpeaaA3
import Derived.Test.YthgljdbfkojpeaaProg
import Derived.KernelRfl
import Derived.Test.YthgljdbfkojpeaaA2
set_option linter.all false
/- Contracts: the laws' helpers on lists of lists of cells. -/
namespace Go.Ab
open Go
set_option linter.unusedSimpArgs false
set_option linter.unusedVariables false

/-- A list of lists of cells that may be read. -/
def CssV (N : Mem) (v : LV) (L : List (List Cell)) : Prop := (v = .nil ∧ L = []) ∨ ∃ (t : Nat) (refs : List LV), v = .ref t 0 L.length ∧ Live N t (.row refs true 1) ∧ refs.length = L.length ∧ ∀ i, i < L.length → ∃ r, refs[i]? = some r ∧ CellsV N r (L.getD i [])
/-- A list of lists of cells that is one's own, and behind M. -/
def SlCC (M N : Mem) (v : LV) (L : List (List Cell)) : Prop := (v = .nil ∧ L = []) ∨ ∃ (t : Nat) (refs : List LV), v = .ref t 0 L.length ∧ M.length ≤ t ∧ Live N t (.row refs true 1) ∧ refs.length = L.length ∧
  (∀ i, i < L.length → ∃ r, refs[i]? = some r ∧ SlC N r (L.getD i []) ∧ Newer M r) ∧ ∀ (i j : Nat) (r s : LV), i ≠ j → refs[i]? = some r → refs[j]? = some s → Apart r s
theorem CssV.lenV {N : Mem} {v : LV} {L : List (List Cell)} (h : CssV N v L) : lenV v = some (L.length : Int) := by
  rcases h with ⟨rfl, rfl⟩ | ⟨t, refs, rfl, _⟩ <;> rfl
theorem SlCC.v {M N : Mem} {v : LV} {L : List (List Cell)} (h : SlCC M N v L) : CssV N v L := by
  rcases h with h | ⟨t, refs, h1, h2, h3, h4, h5, _⟩
  · exact .inl h
  · exact .inr ⟨t, refs, h1, h3, h4, fun i hi => by obtain ⟨r, k1, k2, _⟩ := h5 i hi; exact ⟨r, k1, k2.v⟩⟩
theorem CssV.pre {M N : Mem} {v : LV} {L : List (List Cell)} (h : CssV M v L) (hp : Pre M N) : CssV N v L := by
  rcases h with h | ⟨t, refs, h1, h3, h4, h5⟩
  · exact .inl h
  · exact .inr ⟨t, refs, h1, h3.pre hp, h4, fun i hi => by obtain ⟨r, k1, k2⟩ := h5 i hi; exact ⟨r, k1, k2.pre hp⟩⟩
/-- What is not behind M may have changed. -/
theorem SlCC.keep {M N N' : Mem} {v : LV} {L : List (List Cell)} (h : SlCC M N v L) (hp : ∀ u, M.length ≤ u → u < N.length → N'[u]? = N[u]?) : SlCC M N' v L := by
  have hl : ∀ {u : Nat} {b : Blk}, Live N u b → M.length ≤ u → Live N' u b := fun {u b} hL hu => by unfold Live; rw [hp u hu hL.lt]; exact hL
  rcases h with h | ⟨t, refs, h1, h2, h3, h4, h5, h6⟩
  · exact .inl h
  · refine .inr ⟨t, refs, h1, h2, hl h3 h2, h4, fun i hi => ?_, h6⟩
    obtain ⟨r, k1, k2, k3⟩ := h5 i hi
    refine ⟨r, k1, ?_, k3⟩
    rcases k2 with k2 | ⟨t', ex, q1, q2⟩
    · exact .inl k2
    · refine .inr ⟨t', ex, q1, hl q2 (Nat.not_lt.1 fun h => ?_)⟩
      rw [q1] at k3
      exact (k3 t' h) rfl
theorem SlCC.pre {M N N' : Mem} {v : LV} {L : List (List Cell)} (h : SlCC M N v L) (hp : Pre N N') : SlCC M N' v L := h.keep fun u _ hu => hp.2 u hu
theorem SlCC.mono {M M' N : Mem} {v : LV} {L : List (List Cell)} (h : SlCC M' N v L) (hp : Pre M M') : SlCC M N v L := by
  rcases h with h | ⟨t, refs, h1, h2, h3, h4, h5, h6⟩
  · exact .inl h
  · exact .inr ⟨t, refs, h1, Nat.le_trans hp.1 h2, h3, h4, fun i hi => by obtain ⟨r, k1, k2, k3⟩ := h5 i hi; exact ⟨r, k1, k2, k3.mono hp⟩, h6⟩
theorem SlCC.nil {M N : Mem} : SlCC M N .nil [] := .inl ⟨rfl, rfl⟩
theorem Css.ge {N : Mem} {hi : Nat} : ∀ {lo : Nat} {rs : List LV} {ls : List (List Cell)}, Css N lo hi rs ls → ∀ s ∈ rs, ∃ u n, s = .ref u 0 n ∧ lo ≤ u
  | _, [], _, _, s, hs => by cases hs
  | _, _ :: _, [], h, _, _ => h.elim
  | lo, r :: rs, l :: ls, ⟨u, h1, h2, h3, h4, h5⟩, s, hs => by
    rcases List.mem_cons.1 hs with rfl | hs
    · exact ⟨u, _, h3, h1⟩
    · obtain ⟨w, n, k1, k2⟩ := h5.ge s hs
      exact ⟨w, n, k1, by omega⟩
theorem Css.pair {N : Mem} {hi : Nat} : ∀ {lo : Nat} {rs : List LV} {ls : List (List Cell)}, Css N lo hi rs ls → rs.Pairwise Apart
  | _, [], _, _ => List.Pairwise.nil
  | _, _ :: _, [], h => h.elim
  | lo, r :: rs, l :: ls, ⟨u, h1, h2, h3, h4, h5⟩ => List.pairwise_cons.2 ⟨fun s hs t o n e => by
      obtain ⟨w, m, k1, k2⟩ := h5.ge s hs
      rw [k1] at e; cases e
      rw [h3]; show t ≠ u; omega, h5.pair⟩
theorem SlCC.of {M N : Mem} {u lo hi : Nat} {refs : List LV} {L : List (List Cell)} (hu : M.length ≤ u) (hlo : M.length ≤ lo) (h : Live N u (.row refs true 1)) (hc : Css N lo hi refs L) : SlCC M N (.ref u 0 refs.length) L := by
  have hpw := hc.pair
  rw [List.pairwise_iff_getElem] at hpw
  refine .inr ⟨u, refs, by rw [hc.len], hu, h, hc.len, fun i hi => ?_, fun i j r s hij hr hs => ?_⟩
  · obtain ⟨w, k1, k2, k3, k4⟩ := hc.get hi
    exact ⟨_, k3, SlC.of k4, Newer.of (by omega)⟩
  · obtain ⟨h1, rfl⟩ := List.getElem?_eq_some_iff.1 hr
    obtain ⟨h2, rfl⟩ := List.getElem?_eq_some_iff.1 hs
    rcases Nat.lt_or_ge i j with h3 | h3
    · exact hpw i j h1 h2 h3
    · exact (hpw j i h2 h1 (by omega)).symm

def tot : List (List Cell) → Nat
  | [] => 0
  | l :: ls => l.length + tot ls
/-- Of which the first i lists are marked. -/
def marksT (k : Int) (L : List (List Cell)) (i : Nat) : List (List Cell) := (List.range L.length).map fun j => if j < i then marks3 (k + 3 * (tot (L.take j) : Nat)) (L.getD j []).length else L.getD j []
/-- A list of lists of cells, or none, and whether there is one. -/
def CssRes (M : Mem) (r : Option (List (List Cell))) (v : LV) (N : Mem) : Prop := ∃ w, v = .tup [w, .B r.isSome] ∧ SlCC M N w (r.getD []) ∧ Pre M N
end Go.Ab

/- Plain: packings, as both sides see them. -/
namespace Go.Ab
open Go
set_option linter.unusedSimpArgs false
set_option linter.unusedVariables false

def atL (y z : Int) (xs : List Int) (c : Cell) : Int := xs.getD (idx y z c).toNat 0
/-- The cells with a number. -/
def fib (x y z : Int) (xs : List Int) (k : Nat) : List Cell := pick x y z fun c => decide (atL y z xs c = k)
/-- The free cells without those of the first pieces. -/
def leftP (y z : Int) (cs : List Cell) (xs : List Int) (i : Nat) (c : Cell) : Bool := freeP cs c && !decide (0 ≤ atL y z xs c ∧ atL y z xs c < i)
def negC (c : Cell) : Cell := ⟨-c.a, -c.b, -c.c⟩
/-- Where the program tries a piece. -/
def tryAt (x y z : Int) (L : List (List Cell)) (xs : List Int) (i : Nat) : Cell := shift (negC ((L.getD i []).getD 0 default)) ((fib x y z xs i).getD 0 default)
def StepOK (x y z : Int) (cs : List Cell) (L : List (List Cell)) (xs : List Int) (i : Nat) : Prop :=
  fib x y z xs i ≠ [] ∧ PlacedOK x y z (leftP y z cs xs i) (L.getD i []) (tryAt x y z L xs i) ∧ ∀ d, d.inBox x y z → (d ∈ (L.getD i []).map (shift (tryAt x y z L xs i)) ↔ d ∈ fib x y z xs i)
def ImplPk (x y z : Int) (cs : List Cell) (L : List (List Cell)) (xs : List Int) : Prop :=
  xs.length = vol x y z ∧ (∀ v ∈ xs, -1 ≤ v ∧ v ≤ (L.length : Int) - 1) ∧ (∀ i, i < L.length → StepOK x y z cs L xs i) ∧ ∀ c, c.inBox x y z → leftP y z cs xs L.length c = false
def DiffOK (x y z : Int) (L : List (List Cell)) (xs : List Int) (k : Nat) : Prop :=
  (fib x y z xs k).length = (L.getD k []).length ∧ ∀ i, 1 ≤ i → i < (fib x y z xs k).length → ∀ d : Nat, d < 3 → Cell.at ((fib x y z xs k).getD i default) (d : Int) - Cell.at ((fib x y z xs k).getD 0 default) (d : Int) = Cell.at ((L.getD k []).getD i default) (d : Int) - Cell.at ((L.getD k []).getD 0 default) (d : Int)
def SpecPk (x y z : Int) (cs : List Cell) (L : List (List Cell)) (xs : List Int) : Prop :=
  xs.length = vol x y z ∧ tot L + cs.length = vol x y z ∧ (∀ i, i < vol x y z → (-1 ≤ xs.getD i 0 ∧ xs.getD i 0 ≤ (L.length : Int) - 1) ∧ (xs.getD i 0 < 0 ↔ cellAt y z i ∈ cs)) ∧ ∀ k, k < L.length → DiffOK x y z L xs k

section
variable {x y z : Int} {cs : List Cell} {L : List (List Cell)} {xs : List Int} (hA : AskOK x y z cs L)
include hA
end
end Go.Ab

/- Contracts: packings, the reference's side. -/
namespace Go.Ab
open Go
set_option linter.unusedSimpArgs false
set_option linter.unusedVariables false
set_option maxRecDepth 20000

noncomputable instance {x y z : Int} {cs : List Cell} {L : List (List Cell)} {xs : List Int} : Decidable (SpecPk x y z cs L xs) := Classical.propDecidable _
noncomputable def pkP (x y z : Int) (cs : List Cell) (L : List (List Cell)) (xs : List Int) : Bool × Bool := if AskOK x y z cs L then (decide (SpecPk x y z cs L xs), true) else (false, false)
end Go.Ab

/- Contracts: FaultPlanes, the reference's side. -/
namespace Go.Ab
open Go
set_option linter.unusedSimpArgs false
set_option linter.unusedVariables false
set_option maxRecDepth 20000

/-- Cell i lies before plane k, cell j not, and both are of one piece. -/
def CrossAt (y z : Int) (xs : List Int) (d k i j : Nat) : Prop := 0 ≤ xs.getD i 0 ∧ xs.getD j 0 = xs.getD i 0 ∧ (cellAt y z i).at (d : Int) < k ∧ (k : Int) ≤ (cellAt y z j).at (d : Int)
def Crossed (x y z : Int) (xs : List Int) (d k : Nat) : Prop := ∃ i, i < vol x y z ∧ ∃ j, j < vol x y z ∧ CrossAt y z xs d k i j
noncomputable instance {x y z : Int} {xs : List Int} {d k : Nat} : Decidable (Crossed x y z xs d k) := Classical.propDecidable _
noncomputable def plK (x y z : Int) (xs : List Int) (d : Nat) : Nat → List Int
  | 0 => []
  | k + 1 => plK x y z xs d k ++ (if 1 ≤ k ∧ ¬ Crossed x y z xs d k then [(d : Int), (k : Int)] else [])
noncomputable def plD (x y z : Int) (xs : List Int) : Nat → List Int
  | 0 => []
  | d + 1 => plD x y z xs d ++ plK x y z xs d (sideOf x y z (d : Int)).toNat
noncomputable def planesN (x y z : Int) (cs : List Cell) (L : List (List Cell)) (xs : List Int) : Option (List Int) := if AskOK x y z cs L ∧ SpecPk x y z cs L xs then some (plD x y z xs 3) else none
/-- A list of pairs of numbers, or none, and whether there is one. -/
def PairsRes (M : Mem) (r : Option (List Int)) (v : LV) (N : Mem) : Prop := ∃ w n, v = .tup [w, .B r.isSome] ∧ SlF N w n (r.getD []) ∧ n ≤ 100 ∧ Newer M w ∧ Pre M N

end Go.Ab

/- The abstract code of some functions (written by a program of mine from the translation, by way of prepF). -/
namespace Go.Ab.C
open Go.Ab
end Go.Ab.C

/- That the program has this code. -/
namespace Go.Ab.K
open Go Go.Ab
end Go.Ab.K

/- Contracts: packings, the program's side. -/
namespace Go.Ab
open Go
set_option linter.unusedSimpArgs false
set_option linter.unusedVariables false
set_option maxRecDepth 20000

end Go.Ab

/- Contracts: FaultPlanes, the program's side. -/
namespace Go.Ab
open Go
set_option linter.unusedSimpArgs false
set_option linter.unusedVariables false
set_option maxRecDepth 20000

end Go.Ab

/- The abstract code of some functions (written by a program of mine from the translation, by way of prepF). -/
namespace Go.Ab.C
open Go.Ab
end Go.Ab.C

/- That the program has this code. -/
namespace Go.Ab.K
open Go Go.Ab
end Go.Ab.K

/- The abstract code of some functions (written by a program of mine from the translation, by way of prepF). -/
namespace Go.Ab.C
open Go.Ab
end Go.Ab.C

/- That the program has this code. -/
namespace Go.Ab.K
open Go Go.Ab
end Go.Ab.K

/- Contracts: views, the program's side. -/
namespace Go.Ab
open Go
set_option linter.unusedSimpArgs false
set_option linter.unusedVariables false

/-- One more cube in a view. -/
def viewStep (y z : Int) (d : Nat) (v : List Int) (c : Cell) : List Int := v.set (lineOf y z c d).toNat (v.getD (lineOf y z c d).toNat 0 + 1)
def viewL (x y z : Int) (d : Nat) (cs : List Cell) : List Int := cs.foldl (viewStep y z d) (List.replicate (linesOf x y z d).toNat 0)
theorem foldl_len {y z : Int} {d : Nat} : ∀ {cs : List Cell} {v : List Int}, (cs.foldl (viewStep y z d) v).length = v.length
  | [], _ => rfl
  | c :: cs, v => by rw [List.foldl_cons, foldl_len]; simp [viewStep]
theorem viewL_len {x y z : Int} {d : Nat} {cs : List Cell} : (viewL x y z d cs).length = (linesOf x y z d).toNat := by unfold viewL; rw [foldl_len]; simp
theorem fold_bound {y z : Int} {d : Nat} : ∀ {cs : List Cell} {v : List Int} {n : Int}, (∀ j, 0 ≤ v.getD j 0 ∧ v.getD j 0 ≤ n) → ∀ j, 0 ≤ (cs.foldl (viewStep y z d) v).getD j 0 ∧ (cs.foldl (viewStep y z d) v).getD j 0 ≤ n + cs.length
  | [], v, n, h, j => by have := h j; simp only [List.foldl_nil, List.length_nil]; omega
  | c :: cs, v, n, h, j => by
    rw [List.foldl_cons]
    have := fold_bound (y := y) (z := z) (d := d) (cs := cs) (v := viewStep y z d v c) (n := n + 1) (fun i => by
      have h1 := h i
      have h2 := h (lineOf y z c d).toNat
      unfold viewStep
      rw [List.getD_eq_getElem?_getD, List.getElem?_set]
      split
      · split
        · simp only [Option.getD_some]; omega
        · simp; omega
      · rw [← List.getD_eq_getElem?_getD]; omega) j
    simp only [List.length_cons]; omega
theorem take_foldl {y z : Int} {d i : Nat} {cs : List Cell} {v : List Int} (h : i < cs.length) : (cs.take (i + 1)).foldl (viewStep y z d) v = viewStep y z d ((cs.take i).foldl (viewStep y z d) v) (cs.getD i default) := by
  rw [List.take_succ, List.getElem?_eq_getElem h, Option.toList_some, List.foldl_append]
  have e : cs.getD i default = cs[i] := by simp [h]
  rw [e]; rfl

end Go.Ab

/- Plain: how often a line of a box is met by cells of a list; cells that are alone in a line. -/
namespace Go.Ab
open Go
set_option linter.unusedSimpArgs false
set_option linter.unusedVariables false

def onLine (y z : Int) (d : Nat) (i : Nat) (c : Cell) : Bool := decide ((lineOf y z c d).toNat = i)
/-- A cell alone, among cells, in one of its lines of the first k directions. -/
def aloneK (y z : Int) (cs : List Cell) : Nat → Cell → Bool
  | 0, _ => false
  | k + 1, c => aloneK y z cs k c || decide (cs.countP (onLine y z k (lineOf y z c k).toNat) = 1)
/-- The lit lines of a shadow. -/
def litL (xs : List Int) (n : Nat) : List Nat := (List.range n).filter fun i => decide (xs.getD i 0 = 1)
def litTo (tp fr sd : List Int) (d i : Nat) : List (Nat × Nat) := ((List.range d).flatMap fun e => (litL (shdList e tp fr sd) (shdList e tp fr sd).length).map fun j => (e, j)) ++ (litL (shdList d tp fr sd) i).map fun j => (d, j)
def lits (tp fr sd : List Int) : List (Nat × Nat) := litTo tp fr sd 3 0
/-- The cells of p in a line. -/
def inLine (y z : Int) (p : Cell → Bool) (q : Nat × Nat) (c : Cell) : Bool := p c && onLine y z q.1 q.2 c
/-- The lines as sets. -/
def lineSets (x y z : Int) (p : Cell → Bool) (L : List (Nat × Nat)) : List LV := L.map fun q => .W (bs x y z (inLine y z p q))
/-- Among the first k lit lines one has the cell, and no other allowed one. -/
def mustTo (x y z : Int) (p : Cell → Bool) (L : List (Nat × Nat)) (c : Cell) : Bool := decide (∃ q ∈ L, (pick x y z (inLine y z p q)).length = 1 ∧ inLine y z p q c = true)
end Go.Ab

/- Plain: lit lines without a cube, as the reference lists them. -/
namespace Go.Ab
open Go
set_option linter.unusedSimpArgs false
set_option linter.unusedVariables false

def offL (tp fr : List Int) (d : Nat) : Nat := if d = 2 then 0 else if d = 1 then tp.length else tp.length + fr.length
/-- The place of a cell's line among all lines. -/
def gl (y z : Int) (tp fr : List Int) (d : Nat) (c : Cell) : Nat := offL tp fr d + (lineOf y z c d).toNat
def darkStep (y z : Int) (tp fr : List Int) (v : List Bool) (c : Cell) : List Bool := ((v.set (gl y z tp fr 2 c) false).set (gl y z tp fr 1 c) false).set (gl y z tp fr 0 c) false
def darkL (y z : Int) (tp fr sd : List Int) (cs : List Cell) : List Bool := cs.foldl (darkStep y z tp fr) ((tp ++ fr ++ sd).map fun n => decide (n = 1))
/-- Cells meet all lit lines. -/
def Meets (y z : Int) (L : List (Nat × Nat)) (cs : List Cell) : Prop := ∀ q ∈ L, ∃ c ∈ cs, onLine y z q.1 q.2 c = true
instance (y z : Int) (L : List (Nat × Nat)) (cs : List Cell) : Decidable (Meets y z L cs) := by unfold Meets; exact inferInstance
end Go.Ab

/- The abstract code of some functions (written by a program of mine from the translation, by way of prepF). -/
namespace Go.Ab.C
open Go.Ab
end Go.Ab.C

/- That the program has this code. -/
namespace Go.Ab.K
open Go Go.Ab
end Go.Ab.K

/- The abstract code of some functions (written by a program of mine from the translation, by way of prepF). -/
namespace Go.Ab.C
open Go.Ab
end Go.Ab.C

/- That the program has this code. -/
namespace Go.Ab.K
open Go Go.Ab
end Go.Ab.K

/- The abstract code of some functions (written by a program of mine from the translation, by way of prepF). -/
namespace Go.Ab.C
open Go.Ab
end Go.Ab.C

/- That the program has this code. -/
namespace Go.Ab.K
open Go Go.Ab
end Go.Ab.K

/- The abstract code of some functions (written by a program of mine from the translation, by way of prepF). -/
namespace Go.Ab.C
open Go.Ab
def spec_l2Others : AFn :=
  ⟨1, 9, [.tmp 2, .tmp 3],
    .seq (.ops [(none, .mv 2 (.c (.I 0))),
       (none, .mv 3 (.c (.I 0)))])
    (.seq (.seq (.ops [(none, .mv 4 (.t 0))])
      (.block 0 (.seq (.ops [(none, .bin 6 .eql (.t 4) (.c (.I 0))),
           (none, .mv 5 (.t 6))])
        (.cond (.t 5) (.seq (.ops [(none, .mv 2 (.c (.I 1))),
             (none, .mv 3 (.c (.I 2)))])
          (.ret))
         (.seq (.ops [(none, .bin 8 .eql (.t 4) (.c (.I 1))),
             (none, .mv 7 (.t 8))])
          (.cond (.t 7) (.seq (.ops [(none, .mv 2 (.c (.I 0))),
               (none, .mv 3 (.c (.I 2)))])
            (.ret))
           (.skip)))))))
     (.seq (.ops [(none, .mv 2 (.c (.I 0))),
         (none, .mv 3 (.c (.I 1)))])
      (.ret)))⟩
def spec_l2View : AFn :=
  ⟨2, 54, [.tmp 4],
    .seq (.ops [(none, .box 2 (.t 0)),
       (none, .mv 4 (.c .nil))])
    (.seq (.ops [(none, .mv 10 (.t 1)),
        (none, .call (some 11) F.spec_l2Others [(.t 10)]),
        (none, .mv 9 (.t 11)),
        (none, .extract 12 (.t 9) 0),
        (none, .extract 13 (.t 9) 1),
        (none, .mv 5 (.t 12)),
        (none, .mv 6 (.t 13))])
     (.seq (.draw [⟨(none, .loadN 14 4 (.t 2)), [], []⟩,
         ⟨(none, .mv 15 (.t 5)), [], []⟩,
         ⟨(none, .loadN 17 4 (.t 2)), [], []⟩,
         ⟨(none, .mv 18 (.t 6)), [], []⟩,
         ⟨(none, .call (some 16) F.spec_l2Long [(.t 14), (.t 15)]), [], [2, 3]⟩,
         ⟨(none, .call (some 19) F.spec_l2Long [(.t 17), (.t 18)]), [], []⟩,
         ⟨(none, .bin 20 .mul (.t 16) (.t 19)), [], []⟩,
         ⟨(none, .mksl 21 1 8 [(.I 0)] (.t 20) (.t 20)), [], []⟩,
         ⟨(none, .mv 7 (.t 21)), [], []⟩])
      (.seq (.seq (.ops [(none, .mv 8 (.c (.I 0)))])
        (.block 0 (.loop (.seq (.seq (.ops [(none, .mv 22 (.t 8)),
               (none, .fieldAddr 23 (.t 2) 3),
               (none, .load1 24 (.t 23)),
               (none, .len 25 (.t 24)),
               (none, .bin 26 .lss (.t 22) (.t 25))])
            (.cond (.t 26) (.skip)
             (.exit 0)))
           (.seq (.block 1 (.draw [⟨(none, .mv 29 (.t 7)), [], []⟩,
                ⟨(none, .fieldAddr 30 (.t 2) 3), [], []⟩,
                ⟨(none, .load1 31 (.t 30)), [], []⟩,
                ⟨(none, .mv 32 (.t 8)), [], []⟩,
                ⟨(none, .mv 33 (.t 5)), [], []⟩,
                ⟨(none, .idxS 34 3 (.t 31) (.t 32)), [], []⟩,
                ⟨(none, .idxA 35 3 1 (.t 34) (.t 33)), [], []⟩,
                ⟨(none, .load1 36 (.t 35)), [], []⟩,
                ⟨(none, .loadN 37 4 (.t 2)), [], []⟩,
                ⟨(none, .mv 38 (.t 6)), [], []⟩,
                ⟨(none, .fieldAddr 41 (.t 2) 3), [], []⟩,
                ⟨(none, .load1 42 (.t 41)), [], []⟩,
                ⟨(none, .mv 43 (.t 8)), [], []⟩,
                ⟨(none, .mv 44 (.t 6)), [], []⟩,
                ⟨(none, .idxS 45 3 (.t 42) (.t 43)), [], []⟩,
                ⟨(none, .idxA 46 3 1 (.t 45) (.t 44)), [], []⟩,
                ⟨(none, .load1 47 (.t 46)), [], []⟩,
                ⟨(none, .call (some 39) F.spec_l2Long [(.t 37), (.t 38)]), [], [0, 1, 2, 3, 4, 5, 6, 7, 10, 11, 12, 13, 14, 15, 16]⟩,
                ⟨(none, .bin 40 .mul (.t 36) (.t 39)), [], []⟩,
                ⟨(none, .bin 48 .add (.t 40) (.t 47)), [], []⟩,
                ⟨(none, .idxS 49 1 (.t 29) (.t 48)), [], []⟩,
                ⟨(none, .load1 50 (.t 49)), [], []⟩,
                ⟨(none, .bin 51 .add (.t 50) (.c (.I 1))), [], []⟩,
                ⟨(none, .idxS 52 1 (.t 29) (.t 48)), [], []⟩,
                ⟨(none, .store 1 (.t 52) (.t 51)), [], []⟩]))
            (.ops [(none, .mv 27 (.t 8)),
               (none, .bin 28 .add (.t 27) (.c (.I 1))),
               (none, .mv 8 (.t 28))]))))))
       (.seq (.ops [(none, .mv 53 (.t 7)),
           (none, .mv 4 (.t 53))])
        (.ret)))))⟩
end Go.Ab.C

/- That the program has this code. -/
namespace Go.Ab.K
open Go Go.Ab
theorem spec_l2Others : prepF Go.Proofs.Try.prog F.spec_l2Others = some C.spec_l2Others := by kernel_rfl
theorem spec_l2View : prepF Go.Proofs.Try.prog F.spec_l2View = some C.spec_l2View := by kernel_rfl
end Go.Ab.K

/- Contracts: views, the reference's side. -/
namespace Go.Ab
open Go
set_option linter.unusedSimpArgs false
set_option linter.unusedVariables false
set_option maxRecDepth 20000

theorem h_l2Others {d : Nat} {M : Mem} (hd : d < 3) : CallsTo PG F.spec_l2Others [.I d] M (.tup [.I (if d = 0 then 1 else 0), .I (if d = 2 then 1 else 2)]) M := by
  refine calls_run K.spec_l2Others rfl ?_
  rcases (show d = 0 ∨ d = 1 ∨ d = 2 by omega) with rfl | rfl | rfl
  all_goals
    simp (disch := omega) only [C.spec_l2Others, ↓SXd, SXu, slBounds, ↓sop, ↓aop, ↓reduceIte, LV.cells, AOp.dst, LV.I, LV.B, LV.U, LV.S, LV.nil, Nat.reduceEqDiff, Nat.reduceAdd, Nat.reduceMul, Nat.reduceSub, Nat.reduceLeDiff, Nat.reduceBEq, Nat.reduceDiv, Nat.reduceMod, Int.reduceToNat, Int.reduceLT, Int.reduceLE, Int.reduceAdd, Int.reduceSub, Int.reduceMul, Int.reduceEq, Int.reduceNeg, reduceCtorEq, resV, resAll, ARes.ev, LV.flat, ite_true, ite_false, exists_eq_left', exists_eq_left, keyOf, implies_true, fillC, capOf]
    exact cmp_drop0 rfl
theorem h_l2View {x y z : Int} {d t o : Nat} {cs : List Cell} {M : Mem} (h : Tri M t o cs) (hH : HeapOK x y z cs) (hd : d < 3) : CallsTo PG F.spec_l2View [.agg [.I x, .I y, .I z, .ref t o cs.length], .I d] M (.ref M.length 0 (viewL x y z d cs).length) (M ++ [some (.row (intL (viewL x y z d cs)) true 1)]) := by
  have hS := hH.1
  have hlp : 1 ≤ linesOf x y z d ∧ linesOf x y z d ≤ 16 := by
    have := prod_le hS
    rcases (show d = 0 ∨ d = 1 ∨ d = 2 by omega) with rfl | rfl | rfl
    · exact this.2.2
    · exact this.2.1
    · exact this.1
  have hlen := hH.len
  have ht := h.lt
  have hz : ∀ j, 0 ≤ (List.replicate (linesOf x y z d).toNat (0 : Int)).getD j 0 ∧ (List.replicate (linesOf x y z d).toNat (0 : Int)).getD j 0 ≤ 0 := fun j => by
    rw [List.getD_eq_getElem?_getD, List.getElem?_replicate]; split <;> simp
  have hvl := viewL_len (x := x) (y := y) (z := z) (d := d) (cs := cs)
  have hda : Dir (if d = 0 then 1 else 0) := by unfold Dir; split <;> omega
  have hdb : Dir (if d = 2 then 1 else 2) := by unfold Dir; split <;> omega
  have hprod : sideOf x y z (if d = 0 then 1 else 0) * sideOf x y z (if d = 2 then 1 else 2) = linesOf x y z d := by
    rcases (show d = 0 ∨ d = 1 ∨ d = 2 by omega) with rfl | rfl | rfl <;> rfl
  have hline : ∀ c : Cell, c.at (if d = 0 then 1 else 0) * sideOf x y z (if d = 2 then 1 else 2) + c.at (if d = 2 then 1 else 2) = lineOf y z c d := fun c => by
    rcases (show d = 0 ∨ d = 1 ∨ d = 2 by omega) with rfl | rfl | rfl <;> rfl
  have hrA : 0 ≤ (if d = 0 then (1 : Int) else 0) ∧ (if d = 0 then (1 : Int) else 0) < 3 := by split <;> omega
  have hrB : 0 ≤ (if d = 2 then (1 : Int) else 2) ∧ (if d = 2 then (1 : Int) else 2) < 3 := by split <;> omega
  refine calls_run K.spec_l2View rfl ?_
  simp (disch := omega) only [C.spec_l2View, ↓SXd, SXu, slBounds, ↓sop, ↓aop, ↓reduceIte, LV.cells, AOp.dst, LV.I, LV.B, LV.U, LV.S, LV.nil, Nat.reduceEqDiff, Nat.reduceAdd, Nat.reduceMul, Nat.reduceSub, Nat.reduceLeDiff, Nat.reduceBEq, Nat.reduceDiv, Nat.reduceMod, Int.reduceToNat, Int.reduceLT, Int.reduceLE, Int.reduceAdd, Int.reduceSub, Int.reduceMul, Int.reduceEq, Int.reduceNeg, reduceCtorEq, resV, resAll, ARes.ev, LV.flat, ite_true, ite_false, exists_eq_left', exists_eq_left, keyOf, implies_true, fillC, capOf]
  refine callK_of (h_l2Others hd) ?_
  simp (disch := omega) only [↓SXd, SXu, slBounds, ↓sop, ↓aop, ↓reduceIte, LV.cells, AOp.dst, LV.I, LV.B, LV.U, LV.S, LV.nil, Nat.reduceEqDiff, Nat.reduceAdd, Nat.reduceMul, Nat.reduceSub, Nat.reduceLeDiff, Nat.reduceBEq, Nat.reduceDiv, Nat.reduceMod, Int.reduceToNat, Int.reduceLT, Int.reduceLE, Int.reduceAdd, Int.reduceSub, Int.reduceMul, Int.reduceEq, Int.reduceNeg, reduceCtorEq, resV, resAll, ARes.ev, LV.flat, ite_true, ite_false, exists_eq_left', exists_eq_left, keyOf, implies_true, fillC, capOf]
  generalize (if d = 0 then (1 : Int) else 0) = A at hda hprod hline hrA ⊢
  generalize (if d = 2 then (1 : Int) else 2) = B at hdb hprod hline hrB ⊢
  obtain ⟨rA1, rA2⟩ := hrA
  obtain ⟨rB1, rB2⟩ := hrB
  refine callK_of (h_l2Long hda) ?_
  simp (disch := omega) only [↓SXd, SXu, slBounds, ↓sop, ↓aop, ↓reduceIte, LV.cells, AOp.dst, LV.I, LV.B, LV.U, LV.S, LV.nil, Nat.reduceEqDiff, Nat.reduceAdd, Nat.reduceMul, Nat.reduceSub, Nat.reduceLeDiff, Nat.reduceBEq, Nat.reduceDiv, Nat.reduceMod, Int.reduceToNat, Int.reduceLT, Int.reduceLE, Int.reduceAdd, Int.reduceSub, Int.reduceMul, Int.reduceEq, Int.reduceNeg, reduceCtorEq, resV, resAll, ARes.ev, LV.flat, ite_true, ite_false, exists_eq_left', exists_eq_left, keyOf, implies_true, fillC, capOf]
  refine callK_of (h_l2Long hdb) ?_
  simp (disch := omega) only [hprod, made_int, ↓SXd, SXu, slBounds, ↓sop, ↓aop, ↓reduceIte, LV.cells, AOp.dst, LV.I, LV.B, LV.U, LV.S, LV.nil, Nat.reduceEqDiff, Nat.reduceAdd, Nat.reduceMul, Nat.reduceSub, Nat.reduceLeDiff, Nat.reduceBEq, Nat.reduceDiv, Nat.reduceMod, Int.reduceToNat, Int.reduceLT, Int.reduceLE, Int.reduceAdd, Int.reduceSub, Int.reduceMul, Int.reduceEq, Int.reduceNeg, reduceCtorEq, resV, resAll, ARes.ev, LV.flat, ite_true, ite_false, exists_eq_left', exists_eq_left, keyOf, implies_true, fillC, capOf]
  refine ev_loop (fun m fr M' => ∃ i : Nat, i + m = cs.length ∧ Pre M M' ∧ Live M' M.length (.row [.I x, .I y, .I z, .ref t o cs.length] true 0) ∧ Live M' (M.length + 1) (.row (intL ((cs.take i).foldl (viewStep y z d) (List.replicate (linesOf x y z d).toNat 0))) true 1) ∧
    fr 2 = .ptr M.length 0 ∧ fr 5 = .I A ∧ fr 6 = .I B ∧ fr 7 = .ref (M.length + 1) 0 (linesOf x y z d).toNat ∧ fr 8 = .I i) cs.length
    ⟨0, by omega, Pre.app _ _, Live.new, Live.newj rfl, rfl, rfl, rfl, rfl, rfl⟩ ?_
  rintro m fr M' ⟨i, hi, hpre, b2, bo, f2, f5, f6, f7, f8⟩
  simp (disch := omega) only [f2, f5, f6, f7, f8, b2.cell, ↓SXd, SXu, slBounds, ↓sop, ↓aop, ↓reduceIte, LV.cells, AOp.dst, LV.I, LV.B, LV.U, LV.S, LV.nil, Nat.reduceEqDiff, Nat.reduceAdd, Nat.reduceMul, Nat.reduceSub, Nat.reduceLeDiff, Nat.reduceBEq, Nat.reduceDiv, Nat.reduceMod, Int.reduceToNat, Int.reduceLT, Int.reduceLE, Int.reduceAdd, Int.reduceSub, Int.reduceMul, Int.reduceEq, Int.reduceNeg, reduceCtorEq, resV, resAll, ARes.ev, LV.flat, ite_true, ite_false, exists_eq_left', exists_eq_left, keyOf, implies_true, fillC, capOf]
  refine condC_dec (fun hlt => ?_) (fun hlt => ?_)
  · have hil : i < cs.length := by omega
    have hc := hH.mem (getD_mem' (d := default) hil)
    have gA := Tri.gets_at (h.pre hpre) hil hda
    have gB := Tri.gets_at (h.pre hpre) hil hdb
    have htf := take_foldl (y := y) (z := z) (d := d) (v := List.replicate (linesOf x y z d).toNat 0) hil
    have hbd := fold_bound (y := y) (z := z) (d := d) (cs := cs.take i) hz
    have hfl := foldl_len (y := y) (z := z) (d := d) (cs := cs.take i) (v := List.replicate (linesOf x y z d).toNat 0)
    have htl := List.length_take_le i cs
    rw [List.length_replicate] at hfl
    generalize cs.getD i default = c at gA gB hc htf
    generalize (cs.take i).foldl (viewStep y z d) (List.replicate (linesOf x y z d).toNat 0) = v at bo htf hbd hfl
    obtain ⟨l1, l2⟩ := lineOf_in hS hc hd
    obtain ⟨v1, v2⟩ := hbd (lineOf y z c d).toNat
    have hlt2 : (lineOf y z c d).toNat < v.length := by omega
    have hlc := hline c
    have aA := at_in hc A
    have aB := at_in hc B
    have sB := sideOf_in hS B
    have sA := sideOf_in hS A
    have hmul : 0 ≤ c.at A * sideOf x y z B ∧ c.at A * sideOf x y z B ≤ 16 := by
      rcases (show sideOf x y z B = 1 ∨ sideOf x y z B = 2 ∨ sideOf x y z B = 3 ∨ sideOf x y z B = 4 by omega) with e | e | e | e <;> rw [e] <;> omega
    have hcell := bo.cell (o := (lineOf y z c d).toNat)
    rw [intL_get hlt2] at hcell
    simp (disch := omega) only [f2, f5, f6, f7, f8, b2.cell, b2.cells, gA, gB, Nat.mul_one, Nat.zero_add, ↓SXd, SXu, slBounds, ↓sop, ↓aop, ↓reduceIte, LV.cells, AOp.dst, LV.I, LV.B, LV.U, LV.S, LV.nil, Nat.reduceEqDiff, Nat.reduceAdd, Nat.reduceMul, Nat.reduceSub, Nat.reduceLeDiff, Nat.reduceBEq, Nat.reduceDiv, Nat.reduceMod, Int.reduceToNat, Int.reduceLT, Int.reduceLE, Int.reduceAdd, Int.reduceSub, Int.reduceMul, Int.reduceEq, Int.reduceNeg, reduceCtorEq, resV, resAll, ARes.ev, LV.flat, ite_true, ite_false, exists_eq_left', exists_eq_left, keyOf, implies_true, fillC, capOf]
    refine callK_of (h_l2Long hdb) ?_
    simp (disch := omega) only [f2, f5, f6, f7, f8, hlc, hcell, Nat.mul_one, Nat.zero_add, ↓SXd, SXu, slBounds, ↓sop, ↓aop, ↓reduceIte, LV.cells, AOp.dst, LV.I, LV.B, LV.U, LV.S, LV.nil, Nat.reduceEqDiff, Nat.reduceAdd, Nat.reduceMul, Nat.reduceSub, Nat.reduceLeDiff, Nat.reduceBEq, Nat.reduceDiv, Nat.reduceMod, Int.reduceToNat, Int.reduceLT, Int.reduceLE, Int.reduceAdd, Int.reduceSub, Int.reduceMul, Int.reduceEq, Int.reduceNeg, reduceCtorEq, resV, resAll, ARes.ev, LV.flat, ite_true, ite_false, exists_eq_left', exists_eq_left, keyOf, implies_true, fillC, capOf]
    refine memK_int bo hlt2 fun N k1 k2 k3 => ?_
    simp (disch := omega) only [f2, f5, f6, f7, f8, ↓SXd, SXu, slBounds, ↓sop, ↓aop, ↓reduceIte, LV.cells, AOp.dst, LV.I, LV.B, LV.U, LV.S, LV.nil, Nat.reduceEqDiff, Nat.reduceAdd, Nat.reduceMul, Nat.reduceSub, Nat.reduceLeDiff, Nat.reduceBEq, Nat.reduceDiv, Nat.reduceMod, Int.reduceToNat, Int.reduceLT, Int.reduceLE, Int.reduceAdd, Int.reduceSub, Int.reduceMul, Int.reduceEq, Int.reduceNeg, reduceCtorEq, resV, resAll, ARes.ev, LV.flat, ite_true, ite_false, exists_eq_left', exists_eq_left, keyOf, implies_true, fillC, capOf]
    rw [show v.set (lineOf y z c d).toNat (v.getD (lineOf y z c d).toNat 0 + 1) = viewStep y z d v c from rfl, ← htf] at k2
    exact ⟨m - 1, by omega, i + 1, by omega, pre_step hpre (by omega) (j := 0) k1 k3, live_step b2 (by omega) k3, k2, f2, f5, f6, f7, eqI (natI _)⟩
  · simp (disch := omega) only [f2, f5, f6, f7, f8, ↓SXd, SXu, slBounds, ↓sop, ↓aop, ↓reduceIte, LV.cells, AOp.dst, LV.I, LV.B, LV.U, LV.S, LV.nil, Nat.reduceEqDiff, Nat.reduceAdd, Nat.reduceMul, Nat.reduceSub, Nat.reduceLeDiff, Nat.reduceBEq, Nat.reduceDiv, Nat.reduceMod, Int.reduceToNat, Int.reduceLT, Int.reduceLE, Int.reduceAdd, Int.reduceSub, Int.reduceMul, Int.reduceEq, Int.reduceNeg, reduceCtorEq, resV, resAll, ARes.ev, LV.flat, ite_true, ite_false, exists_eq_left', exists_eq_left, keyOf, implies_true, fillC, capOf]
    have : i = cs.length := by omega
    subst this
    rw [List.take_length] at bo
    change Live M' (M.length + 1) (.row (intL (viewL x y z d cs)) true 1) at bo
    exact cmp_keepL hpre (by omega) bo (intL_lo _) (by simp [rn, rn0, rn1, hvl])
end Go.Ab

/- Contracts: lists of numbers that are the same; shadows of heaps, the reference's side. -/
namespace Go.Ab
open Go
set_option linter.unusedSimpArgs false
set_option linter.unusedVariables false

end Go.Ab

/- Contracts: shadows of heaps, the reference's side. -/
namespace Go.Ab
open Go
set_option linter.unusedSimpArgs false
set_option linter.unusedVariables false

def onesL (v : List Int) : List Int := v.map fun n => min n 1
def shdOf (x y z : Int) (d : Nat) (cs : List Cell) : List Int := onesL (viewL x y z d cs)
end Go.Ab

/- Contracts: whether a heap has a shadow, the reference's side. -/
namespace Go.Ab
open Go
set_option linter.unusedSimpArgs false
set_option linter.unusedVariables false

section
variable {x y z : Int} {t o : Nat} {cs : List Cell} {M : Mem} (h : Tri M t o cs) (hH : HeapOK x y z cs)
include h hH
end

/-- A set of cells has a shadow. -/
def HasShd (x y z : Int) (tp fr sd : List Int) (cs : List Cell) : Prop := shdOf x y z 2 cs = tp ∧ shdOf x y z 1 cs = fr ∧ shdOf x y z 0 cs = sd
instance (x y z : Int) (tp fr sd : List Int) (cs : List Cell) : Decidable (HasShd x y z tp fr sd cs) := by unfold HasShd; exact inferInstance
end Go.Ab

/- The abstract code of some functions (written by a program of mine from the translation, by way of prepF). -/
namespace Go.Ab.C
open Go.Ab
end Go.Ab.C

/- That the program has this code. -/
namespace Go.Ab.K
open Go Go.Ab
end Go.Ab.K

/- Contracts: marks in a shadow's lists. -/
namespace Go.Ab
open Go
set_option linter.unusedSimpArgs false
set_option linter.unusedVariables false

theorem SlC.at {M N : Mem} {w : LV} {l : List Cell} (h : SlC M w l) (hk : ∀ t o n, w = .ref t o n → N[t]? = M[t]?) : SlC N w l := by
  rcases h with h | ⟨t, ex, h1, h2⟩
  · exact .inl h
  · refine .inr ⟨t, ex, h1, ?_⟩
    unfold Live; rw [hk _ _ _ h1]; exact h2
theorem Live.at {M N : Mem} {t : Nat} {b : Blk} (h : Live M t b) (hk : N[t]? = M[t]?) : Live N t b := by unfold Live; rw [hk]; exact h

/-- What is left as it was by marks in three blocks. -/
def Pre3 (a b c : Nat) (M N : Mem) : Prop := M.length ≤ N.length ∧ ∀ u, u < M.length → u ≠ a → u ≠ b → u ≠ c → N[u]? = M[u]?
theorem Pre3.live {a b c : Nat} {M N : Mem} {t : Nat} {bl : Blk} (hp : Pre3 a b c M N) (h : Live M t bl) (h1 : t ≠ a) (h2 : t ≠ b) (h3 : t ≠ c) : Live N t bl := h.at (hp.2 t h.lt h1 h2 h3)
theorem Pre3.pre {a b c : Nat} {M0 M N : Mem} (hp : Pre3 a b c M N) (h : Pre M0 M) (h1 : M0.length ≤ a) (h2 : M0.length ≤ b) (h3 : M0.length ≤ c) : Pre M0 N := ⟨Nat.le_trans h.1 hp.1, fun u hu => by rw [hp.2 u (Nat.lt_of_lt_of_le hu h.1) (by omega) (by omega) (by omega)]; exact h.2 u hu⟩

end Go.Ab

/- Contracts: lit lines without a cube, the reference's side. -/
namespace Go.Ab
open Go
set_option linter.unusedSimpArgs false
set_option linter.unusedVariables false
set_option maxRecDepth 20000

def boolL (v : List Bool) : List LV := v.map LV.B
def stepTo (y z : Int) (tp fr : List Int) (V : List Bool) (c : Cell) : Nat → List Bool
  | 0 => V
  | k + 1 => (stepTo y z tp fr V c k).set (gl y z tp fr (2 - k) c) false
end Go.Ab

/- Contracts: pieces put into a list of numbers, the reference's side. -/
namespace Go.Ab
open Go
set_option linter.unusedSimpArgs false
set_option linter.unusedVariables false
set_option maxRecDepth 20000

def At3 (p : Cell) : Prop := (0 ≤ p.a ∧ p.a ≤ 3) ∧ (0 ≤ p.b ∧ p.b ≤ 3) ∧ (0 ≤ p.c ∧ p.c ≤ 3)
def FitsP (x y z : Int) (cs l : List Cell) (p : Cell) : Prop := At3 p ∧ ∀ c ∈ l, (shift p c).inBox x y z ∧ shift p c ∉ cs
def startL (x y z : Int) (cs : List Cell) : List Int := (cellsOf x y z).map fun c => if c ∈ cs then -1 else -2
def setsL (y z : Int) (n : Int) (xs : List Int) (ds : List Cell) : List Int := ds.foldl (fun v d => v.set (idx y z d).toNat n) xs
def PutOK (x y z : Int) (cs l : List Cell) (p : Cell) (xs : List Int) : Prop := FitsP x y z cs l p ∧ ∀ c ∈ l, atL y z xs (shift p c) = -2
noncomputable instance {x y z : Int} {cs l : List Cell} {p : Cell} : Decidable (FitsP x y z cs l p) := Classical.propDecidable _
noncomputable instance {x y z : Int} {cs l : List Cell} {p : Cell} {xs : List Int} : Decidable (PutOK x y z cs l p xs) := Classical.propDecidable _
noncomputable def putR (x y z : Int) (cs l : List Cell) (p : Cell) (xs : List Int) (n : Int) : List Int := if PutOK x y z cs l p xs then setsL y z n xs (l.map (shift p)) else []

section
variable {l : List Cell} {t o : Nat} {M : Mem} {p : Cell} (h : Tri M t o l) (hn : l.length ≤ 64) (hin : ∀ c ∈ l, c.inBox 4 4 4) (hp : At3 p)
include h hn hin hp
end
theorem h_l1Has {xs : List Int} {t o : Nat} {n : Int} {M : Mem} (h : Ints M t o xs) (hn : xs.length ≤ 1000000000) : CallsTo PG F.spec_l1Has [.ref t o xs.length, .I n] M (.B (decide (n ∈ xs))) M := by
  refine calls_run K.spec_l1Has rfl ?_
  simp (disch := omega) only [C.spec_l1Has, ↓SXd, SXu, slBounds, ↓sop, ↓aop, ↓reduceIte, LV.cells, AOp.dst, LV.I, LV.B, LV.U, LV.S, LV.nil, Nat.reduceEqDiff, Nat.reduceAdd, Nat.reduceMul, Nat.reduceSub, Nat.reduceLeDiff, Nat.reduceBEq, Nat.reduceDiv, Nat.reduceMod, Int.reduceToNat, Int.reduceLT, Int.reduceLE, Int.reduceAdd, Int.reduceSub, Int.reduceMul, Int.reduceEq, Int.reduceNeg, reduceCtorEq, resV, resAll, ARes.ev, LV.flat, ite_true, ite_false, exists_eq_left', exists_eq_left, keyOf, implies_true, fillC, capOf]
  refine ev_loop (fun m fr M' => ∃ i : Nat, i + m = xs.length ∧ M' = M ∧ n ∉ xs.take i ∧ fr 0 = .ref t o xs.length ∧ fr 1 = .I n ∧ fr 5 = .I i) xs.length
    ⟨0, by omega, rfl, by simp, rfl, rfl, rfl⟩ ?_
  rintro m fr M' ⟨i, hi, rfl, hno, f0, f1, f5⟩
  simp (disch := omega) only [f0, f1, f5, ↓SXd, SXu, slBounds, ↓sop, ↓aop, ↓reduceIte, LV.cells, AOp.dst, LV.I, LV.B, LV.U, LV.S, LV.nil, Nat.reduceEqDiff, Nat.reduceAdd, Nat.reduceMul, Nat.reduceSub, Nat.reduceLeDiff, Nat.reduceBEq, Nat.reduceDiv, Nat.reduceMod, Int.reduceToNat, Int.reduceLT, Int.reduceLE, Int.reduceAdd, Int.reduceSub, Int.reduceMul, Int.reduceEq, Int.reduceNeg, reduceCtorEq, resV, resAll, ARes.ev, LV.flat, ite_true, ite_false, exists_eq_left', exists_eq_left, keyOf, implies_true, fillC, capOf]
  refine condC_dec (fun hlt => ?_) (fun hlt => ?_)
  · have hil : i < xs.length := by omega
    have hg := Ints.get h hil
    have hm := getD_mem' (d := 0) hil
    have hts : xs.take (i + 1) = xs.take i ++ [xs.getD i 0] := by
      rw [List.take_succ, List.getElem?_eq_getElem hil]; simp [hil]
    generalize xs.getD i 0 = v at hg hm hts
    by_cases he : v = n
    · simp (disch := omega) only [f0, f1, f5, hg, Nat.mul_one, he, ↓SXd, SXu, slBounds, ↓sop, ↓aop, ↓reduceIte, LV.cells, AOp.dst, LV.I, LV.B, LV.U, LV.S, LV.nil, Nat.reduceEqDiff, Nat.reduceAdd, Nat.reduceMul, Nat.reduceSub, Nat.reduceLeDiff, Nat.reduceBEq, Nat.reduceDiv, Nat.reduceMod, Int.reduceToNat, Int.reduceLT, Int.reduceLE, Int.reduceAdd, Int.reduceSub, Int.reduceMul, Int.reduceEq, Int.reduceNeg, reduceCtorEq, resV, resAll, ARes.ev, LV.flat, ite_true, ite_false, exists_eq_left', exists_eq_left, keyOf, implies_true, fillC, capOf]
      rw [decide_eq_true (he ▸ hm)]
      exact cmp_drop0 rfl
    · simp (disch := omega) only [f0, f1, f5, hg, Nat.mul_one, he, ↓SXd, SXu, slBounds, ↓sop, ↓aop, ↓reduceIte, LV.cells, AOp.dst, LV.I, LV.B, LV.U, LV.S, LV.nil, Nat.reduceEqDiff, Nat.reduceAdd, Nat.reduceMul, Nat.reduceSub, Nat.reduceLeDiff, Nat.reduceBEq, Nat.reduceDiv, Nat.reduceMod, Int.reduceToNat, Int.reduceLT, Int.reduceLE, Int.reduceAdd, Int.reduceSub, Int.reduceMul, Int.reduceEq, Int.reduceNeg, reduceCtorEq, resV, resAll, ARes.ev, LV.flat, ite_true, ite_false, exists_eq_left', exists_eq_left, keyOf, implies_true, fillC, capOf]
      exact ⟨m - 1, by omega, i + 1, by omega, rfl, by rw [hts, List.mem_append, List.mem_singleton]; rintro (h | h); exact hno h; exact he h.symm, f0, f1, eqI (natI _)⟩
  · simp (disch := omega) only [f0, f1, f5, ↓SXd, SXu, slBounds, ↓sop, ↓aop, ↓reduceIte, LV.cells, AOp.dst, LV.I, LV.B, LV.U, LV.S, LV.nil, Nat.reduceEqDiff, Nat.reduceAdd, Nat.reduceMul, Nat.reduceSub, Nat.reduceLeDiff, Nat.reduceBEq, Nat.reduceDiv, Nat.reduceMod, Int.reduceToNat, Int.reduceLT, Int.reduceLE, Int.reduceAdd, Int.reduceSub, Int.reduceMul, Int.reduceEq, Int.reduceNeg, reduceCtorEq, resV, resAll, ARes.ev, LV.flat, ite_true, ite_false, exists_eq_left', exists_eq_left, keyOf, implies_true, fillC, capOf]
    have : i = xs.length := by omega
    subst this
    rw [List.take_length] at hno
    rw [decide_eq_false hno]
    exact cmp_drop0 rfl
section
variable {x y z : Int} {t o u q : Nat} {cs l : List Cell} {p : Cell} {M : Mem} (h : Tri M t o cs) (hH : HeapOK x y z cs) (hl : Tri M u q l) (hn : l.length ≤ 64) (hin : ∀ c ∈ l, c.inBox 4 4 4) (hp : Small p)
include h hH hl hn hin hp
end
end Go.Ab

/- The abstract code of some functions (written by a program of mine from the translation, by way of prepF). -/
namespace Go.Ab.C
open Go.Ab
def impl_LeastClimb : AFn :=
  ⟨4, 94, [.tmp 8, .tmp 9],
    .seq (.ops [(none, .box 4 (.t 0)),
       (none, .mv 8 (.c (.I 0))),
       (none, .mv 9 (.c (.B false)))])
    (.seq (.seq (.ops [(none, .loadN 18 4 (.t 4)),
         (none, .mv 19 (.t 3)),
         (none, .mv 20 (.t 1)),
         (none, .mv 21 (.t 2)),
         (none, .buildSl 22 2 1 [(.I 0), (.I 0)] [(0, 1, (.t 20)), (1, 1, (.t 21))]),
         (none, .call (some 23) F.impl_isTop [(.t 18), (.t 19), (.t 22)]),
         (none, .un 24 .not (.t 23))])
      (.cond (.t 24) (.seq (.ops [(none, .mv 8 (.c (.I 0))),
           (none, .mv 9 (.c (.B false)))])
        (.ret))
       (.skip)))
     (.seq (.ops [(none, .loadN 25 4 (.t 4)),
         (none, .call (some 26) F.impl_Heap_top [(.t 25)]),
         (none, .alloc 10 [.nil, (.I 0)]),
         (none, .store 2 (.t 10) (.t 26))])
      (.seq (.ops [(none, .buildSl 27 1 1 [(.I 0)] [(0, 1, (.c (.I (-1))))]),
          (none, .fieldAddr 28 (.t 10) 0),
          (none, .load1 29 (.t 28)),
          (none, .len 30 (.t 29)),
          (none, .call (some 31) F.slices_Repeat_Sint_int [(.t 27), (.t 30)]),
          (none, .mv 11 (.t 31))])
       (.seq (.ops [(none, .mv 32 (.t 11)),
           (none, .mv 33 (.t 1)),
           (none, .idxS 34 1 (.t 32) (.t 33)),
           (none, .store 1 (.t 34) (.c (.I 0)))])
        (.seq (.seq (.ops [(none, .mv 12 (.c (.B true)))])
          (.block 0 (.loop (.seq (.seq (.ops [(none, .mv 35 (.t 12))])
              (.cond (.t 35) (.skip)
               (.exit 0)))
             (.block 1 (.seq (.ops [(none, .mv 12 (.c (.B false)))])
               (.seq (.ops [(none, .mv 36 (.t 11)),
                   (none, .len 37 (.t 36)),
                   (none, .mv 38 (.c (.I 0)))])
                (.block 2 (.loop (.seq (.ops [(none, .bin 39 .lss (.t 38) (.t 37))])
                   (.seq (.cond (.t 39) (.skip)
                     (.exit 2))
                    (.seq (.block 3 (.seq (.ops [(none, .mv 40 (.t 38)),
                          (none, .idxS 41 1 (.t 36) (.t 38)),
                          (none, .load1 42 (.t 41)),
                          (none, .mv 13 (.t 40)),
                          (none, .mv 14 (.t 42))])
                       (.seq (.seq (.ops [(none, .mv 43 (.t 14)),
                            (none, .bin 44 .lss (.t 43) (.c (.I 0)))])
                         (.cond (.t 44) (.exit 3)
                          (.skip)))
                        (.seq (.ops [(none, .loadN 45 2 (.t 10)),
                            (none, .mv 46 (.t 13)),
                            (none, .mv 47 (.t 3)),
                            (none, .call (some 48) F.impl_top_steps [(.t 45), (.t 46), (.t 47)]),
                            (none, .len 49 (.t 48)),
                            (none, .mv 50 (.c (.I 0)))])
                         (.block 4 (.loop (.seq (.ops [(none, .bin 51 .lss (.t 50) (.t 49))])
                            (.seq (.cond (.t 51) (.skip)
                              (.exit 4))
                             (.seq (.block 5 (.seq (.ops [(none, .idxS 52 1 (.t 48) (.t 50)),
                                   (none, .load1 53 (.t 52)),
                                   (none, .mv 16 (.t 53))])
                                (.seq (.draw [⟨(none, .mv 54 (.t 14)), [], []⟩,
                                    ⟨(none, .fieldAddr 55 (.t 10) 0), [], []⟩,
                                    ⟨(none, .load1 56 (.t 55)), [], []⟩,
                                    ⟨(none, .mv 57 (.t 16)), [], []⟩,
                                    ⟨(none, .idxS 58 1 (.t 56) (.t 57)), [], []⟩,
                                    ⟨(none, .load1 59 (.t 58)), [], []⟩,
                                    ⟨(none, .fieldAddr 60 (.t 10) 0), [], []⟩,
                                    ⟨(none, .load1 61 (.t 60)), [], []⟩,
                                    ⟨(none, .mv 62 (.t 13)), [], []⟩,
                                    ⟨(none, .idxS 63 1 (.t 61) (.t 62)), [], []⟩,
                                    ⟨(none, .load1 64 (.t 63)), [], []⟩,
                                    ⟨(none, .bin 65 .sub (.t 59) (.t 64)), [], []⟩,
                                    ⟨(none, .mm 66 true [(.c (.I 0)), (.t 65)]), [], []⟩,
                                    ⟨(none, .bin 67 .add (.t 54) (.t 66)), [], []⟩,
                                    ⟨(none, .mv 17 (.t 67)), [], []⟩])
                                 (.seq (.ops [(none, .mv 68 (.t 11)),
                                     (none, .mv 69 (.t 16)),
                                     (none, .idxS 70 1 (.t 68) (.t 69)),
                                     (none, .load1 71 (.t 70)),
                                     (none, .bin 72 .lss (.t 71) (.c (.I 0))),
                                     (none, .mv 73 (.t 72)),
                                     (some (73, false), .mv 74 (.t 17)),
                                     (some (73, false), .mv 75 (.t 11)),
                                     (some (73, false), .mv 76 (.t 16)),
                                     (some (73, false), .idxS 77 1 (.t 75) (.t 76)),
                                     (some (73, false), .load1 78 (.t 77)),
                                     (some (73, false), .bin 79 .lss (.t 74) (.t 78)),
                                     (none, .pick 80 (.t 73) (.c (.B true)) (.t 79))])
                                  (.cond (.t 80) (.ops [(none, .mv 81 (.t 11)),
                                      (none, .mv 82 (.t 16)),
                                      (none, .mv 83 (.t 17)),
                                      (none, .idxS 84 1 (.t 81) (.t 82)),
                                      (none, .store 1 (.t 84) (.t 83)),
                                      (none, .mv 12 (.c (.B true)))])
                                   (.skip))))))
                              (.ops [(none, .bin 85 .add (.t 50) (.c (.I 1))),
                                 (none, .mv 50 (.t 85))]))))))))))
                     (.ops [(none, .bin 86 .add (.t 38) (.c (.I 1))),
                        (none, .mv 38 (.t 86))])))))))))))))
         (.seq (.ops [(none, .mv 87 (.t 11)),
             (none, .mv 88 (.t 2)),
             (none, .idxS 89 1 (.t 87) (.t 88)),
             (none, .load1 90 (.t 89)),
             (none, .call (some 91) F.impl_found [(.t 90)]),
             (none, .extract 92 (.t 91) 0),
             (none, .extract 93 (.t 91) 1),
             (none, .mv 8 (.t 92)),
             (none, .mv 9 (.t 93))])
          (.ret)))))))⟩
end Go.Ab.C

/- That the program has this code. -/
namespace Go.Ab.K
open Go Go.Ab
theorem impl_LeastClimb : prepF Go.Proofs.Try.prog F.impl_LeastClimb = some C.impl_LeastClimb := by kernel_rfl
end Go.Ab.K

/- Contracts: least climbs, the program's side. -/
namespace Go.Ab
open Go
set_option linter.unusedSimpArgs false
set_option linter.unusedVariables false

theorem g_LeastClimb {x y z p q s : Int} {t o : Nat} {cs : List Cell} {M : Mem} (h : Tri M t o cs) (hn : cs.length ≤ 1000000000) :
    CallsTo PG F.impl_LeastClimb [.agg [.I x, .I y, .I z, .ref t o cs.length], .I p, .I q, .I s] M (.tup [.I ((climbOf x y z cs p q s).getD 0), .B (climbOf x y z cs p q s).isSome]) M := by
  refine calls_run K.impl_LeastClimb rfl ?_
  simp (disch := omega) only [C.impl_LeastClimb, splice, ↓SXd, SXu, slBounds, ↓sop, ↓aop, ↓reduceIte, LV.cells, AOp.dst, LV.I, LV.B, LV.U, LV.S, LV.nil, Nat.reduceEqDiff, Nat.reduceAdd, Nat.reduceMul, Nat.reduceSub, Nat.reduceLeDiff, Nat.reduceBEq, Nat.reduceDiv, Nat.reduceMod, Int.reduceToNat, Int.reduceLT, Int.reduceLE, Int.reduceAdd, Int.reduceSub, Int.reduceMul, Int.reduceEq, Int.reduceNeg, reduceCtorEq, resV, resAll, ARes.ev, LV.flat, ite_true, ite_false, exists_eq_left', exists_eq_left, keyOf, implies_true, fillC, capOf]
  refine callK_of (g_isTop2 h.app hn (Live.newj (j := 1) rfl)) ?_
  simp (disch := omega) only [↓SXd, SXu, slBounds, ↓sop, ↓aop, ↓reduceIte, LV.cells, AOp.dst, LV.I, LV.B, LV.U, LV.S, LV.nil, Nat.reduceEqDiff, Nat.reduceAdd, Nat.reduceMul, Nat.reduceSub, Nat.reduceLeDiff, Nat.reduceBEq, Nat.reduceDiv, Nat.reduceMod, Int.reduceToNat, Int.reduceLT, Int.reduceLE, Int.reduceAdd, Int.reduceSub, Int.reduceMul, Int.reduceEq, Int.reduceNeg, reduceCtorEq, resV, resAll, ARes.ev, LV.flat, ite_true, ite_false, exists_eq_left', exists_eq_left, keyOf, implies_true, fillC, capOf]
  unfold climbOf
  by_cases hV : (HeapOK x y z cs ∧ (0 ≤ p ∧ p ≤ x * y - 1)) ∧ (0 ≤ q ∧ q ≤ x * y - 1) ∧ 0 ≤ s
  · obtain ⟨⟨hH, hp⟩, hq, hs⟩ := id hV
    have hb := mul_bound hH.1.1 hH.1.2.1
    have htl := topsOf_len x y cs
    have hiff := climbs_iff (s := s) hH hp hq
    simp (disch := omega) only [hV, ↓SXd, SXu, slBounds, ↓sop, ↓aop, ↓reduceIte, LV.cells, AOp.dst, LV.I, LV.B, LV.U, LV.S, LV.nil, Nat.reduceEqDiff, Nat.reduceAdd, Nat.reduceMul, Nat.reduceSub, Nat.reduceLeDiff, Nat.reduceBEq, Nat.reduceDiv, Nat.reduceMod, Int.reduceToNat, Int.reduceLT, Int.reduceLE, Int.reduceAdd, Int.reduceSub, Int.reduceMul, Int.reduceEq, Int.reduceNeg, reduceCtorEq, resV, resAll, ARes.ev, LV.flat, ite_true, ite_false, exists_eq_left', exists_eq_left, keyOf, implies_true, fillC, capOf]
    refine callK_of (g_top h.app hn hH) ?_
    simp (disch := omega) only [splice, ↓SXd, SXu, slBounds, ↓sop, ↓aop, ↓reduceIte, LV.cells, AOp.dst, LV.I, LV.B, LV.U, LV.S, LV.nil, Nat.reduceEqDiff, Nat.reduceAdd, Nat.reduceMul, Nat.reduceSub, Nat.reduceLeDiff, Nat.reduceBEq, Nat.reduceDiv, Nat.reduceMod, Int.reduceToNat, Int.reduceLT, Int.reduceLE, Int.reduceAdd, Int.reduceSub, Int.reduceMul, Int.reduceEq, Int.reduceNeg, reduceCtorEq, resV, resAll, ARes.ev, LV.flat, ite_true, ite_false, exists_eq_left', exists_eq_left, keyOf, implies_true, fillC, capOf]
    refine callK_of (g_Repeat (n := (x * y).toNat) (v := -1) (Live.newj (j := 4) rfl).has (by omega) (by omega)) ?_
    simp (disch := omega) only [intL_len, splice_int, ↓SXd, SXu, slBounds, ↓sop, ↓aop, ↓reduceIte, LV.cells, AOp.dst, LV.I, LV.B, LV.U, LV.S, LV.nil, Nat.reduceEqDiff, Nat.reduceAdd, Nat.reduceMul, Nat.reduceSub, Nat.reduceLeDiff, Nat.reduceBEq, Nat.reduceDiv, Nat.reduceMod, Int.reduceToNat, Int.reduceLT, Int.reduceLE, Int.reduceAdd, Int.reduceSub, Int.reduceMul, Int.reduceEq, Int.reduceNeg, reduceCtorEq, resV, resAll, ARes.ev, LV.flat, ite_true, ite_false, exists_eq_left', exists_eq_left, keyOf, implies_true, fillC, capOf]
    have hRl : (List.replicate (x * y).toNat (-1 : Int)).length = (x * y).toNat := by simp
    simp (disch := omega) only [intL_len, hRl, splice_int, ↓SXd, SXu, slBounds, ↓sop, ↓aop, ↓reduceIte, LV.cells, AOp.dst, LV.I, LV.B, LV.U, LV.S, LV.nil, Nat.reduceEqDiff, Nat.reduceAdd, Nat.reduceMul, Nat.reduceSub, Nat.reduceLeDiff, Nat.reduceBEq, Nat.reduceDiv, Nat.reduceMod, Int.reduceToNat, Int.reduceLT, Int.reduceLE, Int.reduceAdd, Int.reduceSub, Int.reduceMul, Int.reduceEq, Int.reduceNeg, reduceCtorEq, resV, resAll, ARes.ev, LV.flat, ite_true, ite_false, exists_eq_left', exists_eq_left, keyOf, implies_true, fillC, capOf]
    rw [show (List.replicate (x * y).toNat (-1 : Int)).set p.toNat 0 = climbStart (x * y).toNat p from rfl]
    obtain ⟨hci, hphi⟩ := climbStart_ok (c := (x * y).toNat) (N := fun r => stepsOf x y (topsOf x y cs) r s) (p := p) (by omega) (by omega)
    have hR : climbs x y cs p s = climbLoop (topsOf x y cs) (fun r => stepsOf x y (topsOf x y cs) r s) (x * y).toNat 2000 (climbStart (x * y).toNat p) := rfl
    generalize climbs x y cs p s = R at hR hiff ⊢
    refine ev_loop (fun m fr M' => ∃ (best : List Int) (ch : Bool), CI (x * y).toNat (fun r => stepsOf x y (topsOf x y cs) r s) p best ∧ (ch = true → phi best < m ∧ climbLoop (topsOf x y cs) (fun r => stepsOf x y (topsOf x y cs) r s) (x * y).toNat m best = R) ∧ (ch = false → best = R) ∧
      Pre M M' ∧ Live M' (M.length + 2) (.row (intL (topsOf x y cs)) true 1) ∧ Live M' (M.length + 3) (.row [.ref (M.length + 2) 0 (x * y).toNat, .I y] true 0) ∧ Live M' (M.length + 5) (.row (intL best) true 1) ∧
      fr 2 = .I q ∧ fr 3 = .I s ∧ fr 10 = .ptr (M.length + 3) 0 ∧ fr 11 = .ref (M.length + 5) 0 (x * y).toNat ∧ fr 12 = .B ch) 2000
      ⟨_, true, hci, fun _ => ⟨hphi, hR.symm⟩, fun e => (by cases e), Pre.app _ _, Live.newj rfl, Live.newj rfl, Live.newj rfl, rfl, rfl, rfl, rfl, rfl⟩ ?_
    clear hci hphi hR
    rintro m fr M' ⟨best, ch, hci, hch1, hch2, hpre, htop, htb, hbest, f2, f3, f10, f11, f12⟩
    have hbl := hci.len
    cases ch with
    | false =>
      simp (disch := omega) only [f2, f3, f10, f11, f12, intL_get, hbest.cell, ↓SXd, SXu, slBounds, ↓sop, ↓aop, ↓reduceIte, LV.cells, AOp.dst, LV.I, LV.B, LV.U, LV.S, LV.nil, Nat.reduceEqDiff, Nat.reduceAdd, Nat.reduceMul, Nat.reduceSub, Nat.reduceLeDiff, Nat.reduceBEq, Nat.reduceDiv, Nat.reduceMod, Int.reduceToNat, Int.reduceLT, Int.reduceLE, Int.reduceAdd, Int.reduceSub, Int.reduceMul, Int.reduceEq, Int.reduceNeg, reduceCtorEq, resV, resAll, ARes.ev, LV.flat, ite_true, ite_false, exists_eq_left', exists_eq_left, keyOf, implies_true, fillC, capOf]
      refine callK_of (g_found) ?_
      simp (disch := omega) only [↓SXd, SXu, slBounds, ↓sop, ↓aop, ↓reduceIte, LV.cells, AOp.dst, LV.I, LV.B, LV.U, LV.S, LV.nil, Nat.reduceEqDiff, Nat.reduceAdd, Nat.reduceMul, Nat.reduceSub, Nat.reduceLeDiff, Nat.reduceBEq, Nat.reduceDiv, Nat.reduceMod, Int.reduceToNat, Int.reduceLT, Int.reduceLE, Int.reduceAdd, Int.reduceSub, Int.reduceMul, Int.reduceEq, Int.reduceNeg, reduceCtorEq, resV, resAll, ARes.ev, LV.flat, ite_true, ite_false, exists_eq_left', exists_eq_left, keyOf, implies_true, fillC, capOf]
      have hb2 := hch2 rfl
      subst hb2
      by_cases hreach : 0 ≤ (spreadOf x y cs p s).getD q.toNat 0
      · have := hiff.2 hreach
        rw [if_pos hreach, show max (best.getD q.toNat 0) 0 = best.getD q.toNat 0 by omega]
        rw [decide_eq_true this]
        exact cmp_pre hpre rfl
      · have := fun e => hreach (hiff.1 e)
        rw [if_neg hreach, show max (best.getD q.toNat 0) 0 = 0 by omega, decide_eq_false this]
        exact cmp_pre hpre rfl
    | true =>
      obtain ⟨hphi, hloop⟩ := hch1 rfl
      simp (disch := omega) only [f2, f3, f10, f11, f12, ↓SXd, SXu, slBounds, ↓sop, ↓aop, ↓reduceIte, LV.cells, AOp.dst, LV.I, LV.B, LV.U, LV.S, LV.nil, Nat.reduceEqDiff, Nat.reduceAdd, Nat.reduceMul, Nat.reduceSub, Nat.reduceLeDiff, Nat.reduceBEq, Nat.reduceDiv, Nat.reduceMod, Int.reduceToNat, Int.reduceLT, Int.reduceLE, Int.reduceAdd, Int.reduceSub, Int.reduceMul, Int.reduceEq, Int.reduceNeg, reduceCtorEq, resV, resAll, ARes.ev, LV.flat, ite_true, ite_false, exists_eq_left', exists_eq_left, keyOf, implies_true, fillC, capOf]
      have hRD := roundL_ok (N := fun r => stepsOf x y (topsOf x y cs) r s) steps_in (fun _ => steps_ne) (topsOf_low4 hH) (by omega) (x * y).toNat best (Nat.le_refl _) hci
      obtain ⟨m', rfl⟩ : ∃ m', m = m' + 1 := ⟨m - 1, by omega⟩
      have hstep2 := climb_step hloop rfl
      clear hloop
      generalize hr : (nums (x * y).toNat).foldl (relaxCol (topsOf x y cs) (fun r => stepsOf x y (topsOf x y cs) r s)) (best, false) = r at hRD hstep2
      refine ev_loop (fun m2 fr N => ∃ (k : Nat) (st : List Int × Bool), k + m2 = (x * y).toNat ∧ st = (nums k).foldl (relaxCol (topsOf x y cs) (fun r => stepsOf x y (topsOf x y cs) r s)) (best, false) ∧
        Pre M N ∧ Live N (M.length + 2) (.row (intL (topsOf x y cs)) true 1) ∧ Live N (M.length + 3) (.row [.ref (M.length + 2) 0 (x * y).toNat, .I y] true 0) ∧ Live N (M.length + 5) (.row (intL st.1) true 1) ∧
        fr 2 = .I q ∧ fr 3 = .I s ∧ fr 10 = .ptr (M.length + 3) 0 ∧ fr 11 = .ref (M.length + 5) 0 (x * y).toNat ∧ fr 12 = .B st.2 ∧ fr 36 = .ref (M.length + 5) 0 (x * y).toNat ∧ fr 37 = .I (x * y).toNat ∧ fr 38 = .I k) (x * y).toNat
        ⟨0, (best, false), by omega, rfl, hpre, htop, htb, hbest, f2, f3, f10, f11, rfl, rfl, rfl, rfl⟩ ?_
      clear f2 f3 f10 f11 f12 hpre htop htb hbest
      rintro m2 fr N ⟨k, st, hk, hst, hpre, htop, htb, hbest, f2, f3, f10, f11, f12, f36, f37, f38⟩
      simp (disch := omega) only [f2, f3, f10, f11, f12, f36, f37, f38, ↓SXd, SXu, slBounds, ↓sop, ↓aop, ↓reduceIte, LV.cells, AOp.dst, LV.I, LV.B, LV.U, LV.S, LV.nil, Nat.reduceEqDiff, Nat.reduceAdd, Nat.reduceMul, Nat.reduceSub, Nat.reduceLeDiff, Nat.reduceBEq, Nat.reduceDiv, Nat.reduceMod, Int.reduceToNat, Int.reduceLT, Int.reduceLE, Int.reduceAdd, Int.reduceSub, Int.reduceMul, Int.reduceEq, Int.reduceNeg, reduceCtorEq, resV, resAll, ARes.ev, LV.flat, ite_true, ite_false, exists_eq_left', exists_eq_left, keyOf, implies_true, fillC, capOf]
      refine condC_dec (fun hlt => ?_) (fun hlt => ?_)
      rotate_left
      · simp (disch := omega) only [f2, f3, f10, f11, f12, f36, f37, f38, ↓SXd, SXu, slBounds, ↓sop, ↓aop, ↓reduceIte, LV.cells, AOp.dst, LV.I, LV.B, LV.U, LV.S, LV.nil, Nat.reduceEqDiff, Nat.reduceAdd, Nat.reduceMul, Nat.reduceSub, Nat.reduceLeDiff, Nat.reduceBEq, Nat.reduceDiv, Nat.reduceMod, Int.reduceToNat, Int.reduceLT, Int.reduceLE, Int.reduceAdd, Int.reduceSub, Int.reduceMul, Int.reduceEq, Int.reduceNeg, reduceCtorEq, resV, resAll, ARes.ev, LV.flat, ite_true, ite_false, exists_eq_left', exists_eq_left, keyOf, implies_true, fillC, capOf]
        have : k = (x * y).toNat := by omega
        subst this
        rw [hr] at hst
        subst hst
        refine ⟨m', by omega, st.1, st.2, hRD.1, fun e => ?_, fun e => ?_, hpre, htop, htb, hbest, f2, f3, f10, f11, f12⟩
        · have := hRD.2.1
          rw [if_pos e] at this
          exact ⟨by omega, hstep2.1 e⟩
        · exact hstep2.2 e
      · have hmid := mid_ok (s := s) (p := p) (k := k) hH (by omega) hci
        rw [← hst] at hmid
        have hml := hmid.len
        have hnext : (nums (k + 1)).foldl (relaxCol (topsOf x y cs) (fun r => stepsOf x y (topsOf x y cs) r s)) (best, false) = relaxCol (topsOf x y cs) (fun r => stepsOf x y (topsOf x y cs) r s) st k := by
          rw [nums_succ, List.foldl_append, ← hst]; rfl
        simp (disch := omega) only [f2, f3, f10, f11, f12, f36, f37, f38, hbest.cell, intL_get, ↓SXd, SXu, slBounds, ↓sop, ↓aop, ↓reduceIte, LV.cells, AOp.dst, LV.I, LV.B, LV.U, LV.S, LV.nil, Nat.reduceEqDiff, Nat.reduceAdd, Nat.reduceMul, Nat.reduceSub, Nat.reduceLeDiff, Nat.reduceBEq, Nat.reduceDiv, Nat.reduceMod, Int.reduceToNat, Int.reduceLT, Int.reduceLE, Int.reduceAdd, Int.reduceSub, Int.reduceMul, Int.reduceEq, Int.reduceNeg, reduceCtorEq, resV, resAll, ARes.ev, LV.flat, ite_true, ite_false, exists_eq_left', exists_eq_left, keyOf, implies_true, fillC, capOf]
        refine condC_dec (fun hv0 => ?_) (fun hv0 => ?_)
        · simp (disch := omega) only [f2, f3, f10, f11, f12, f36, f37, f38, ↓SXd, SXu, slBounds, ↓sop, ↓aop, ↓reduceIte, LV.cells, AOp.dst, LV.I, LV.B, LV.U, LV.S, LV.nil, Nat.reduceEqDiff, Nat.reduceAdd, Nat.reduceMul, Nat.reduceSub, Nat.reduceLeDiff, Nat.reduceBEq, Nat.reduceDiv, Nat.reduceMod, Int.reduceToNat, Int.reduceLT, Int.reduceLE, Int.reduceAdd, Int.reduceSub, Int.reduceMul, Int.reduceEq, Int.reduceNeg, reduceCtorEq, resV, resAll, ARes.ev, LV.flat, ite_true, ite_false, exists_eq_left', exists_eq_left, keyOf, implies_true, fillC, capOf]
          exact ⟨m2 - 1, by omega, k + 1, st, by omega, by rw [hnext]; unfold relaxCol; rw [Int.toNat_natCast, if_pos hv0], hpre, htop, htb, hbest, f2, f3, f10, f11, f12, f36, f37, eqI (natI _)⟩
        · simp (disch := omega) only [f2, f3, f10, f11, f12, f36, f37, f38, htb.cells, ↓SXd, SXu, slBounds, ↓sop, ↓aop, ↓reduceIte, LV.cells, AOp.dst, LV.I, LV.B, LV.U, LV.S, LV.nil, Nat.reduceEqDiff, Nat.reduceAdd, Nat.reduceMul, Nat.reduceSub, Nat.reduceLeDiff, Nat.reduceBEq, Nat.reduceDiv, Nat.reduceMod, Int.reduceToNat, Int.reduceLT, Int.reduceLE, Int.reduceAdd, Int.reduceSub, Int.reduceMul, Int.reduceEq, Int.reduceNeg, reduceCtorEq, resV, resAll, ARes.ev, LV.flat, ite_true, ite_false, exists_eq_left', exists_eq_left, keyOf, implies_true, fillC, capOf]
          refine callN_of (g_steps hH.1.1 hH.1.2.1 (by omega) htop.has htl (topsOf_low hH)) ?_
          intro tn N0 htn hp0 hnx0
          simp (disch := omega) only [f2, f3, f10, f11, f12, f36, f37, f38, ↓SXd, SXu, slBounds, ↓sop, ↓aop, ↓reduceIte, LV.cells, AOp.dst, LV.I, LV.B, LV.U, LV.S, LV.nil, Nat.reduceEqDiff, Nat.reduceAdd, Nat.reduceMul, Nat.reduceSub, Nat.reduceLeDiff, Nat.reduceBEq, Nat.reduceDiv, Nat.reduceMod, Int.reduceToNat, Int.reduceLT, Int.reduceLE, Int.reduceAdd, Int.reduceSub, Int.reduceMul, Int.reduceEq, Int.reduceNeg, reduceCtorEq, resV, resAll, ARes.ev, LV.flat, ite_true, ite_false, exists_eq_left', exists_eq_left, keyOf, implies_true, fillC, capOf]
          have hnl := stepsOf_len (p := (k : Int)) (s := s) (ts := topsOf x y cs) hb.2
          have hmem : ∀ j, j < (stepsOf x y (topsOf x y cs) k s).length → 0 ≤ (stepsOf x y (topsOf x y cs) k s).getD j 0 ∧ (stepsOf x y (topsOf x y cs) k s).getD j 0 < x * y := fun j hj => stepsOf_mem (getD_mem hj)
          have hlM := hbest.lt
          generalize hv : st.1.getD k 0 = v at hv0 ⊢
          have hrc : relaxCol (topsOf x y cs) (fun r => stepsOf x y (topsOf x y cs) r s) st k = (stepsOf x y (topsOf x y cs) k s).foldl (relax1 (topsOf x y cs) k v) st := by
            unfold relaxCol
            rw [Int.toNat_natCast, hv, if_neg hv0]
          have hin := fun i => in_ok (s := s) (p := p) (i := i) (v := v) hH (show k < (x * y).toNat by omega) hmid hv (by omega)
          unfold stepRow at hnx0
          generalize hnxt : stepsOf x y (topsOf x y cs) k s = nx at hnl hmem hnx0 hrc hin ⊢
          generalize List.replicate ((nexts x y k).length - nx.length) (0 : Int) = ex at hnx0
          refine ev_loop (fun m3 fr' N' => ∃ (i : Nat) (st' : List Int × Bool), i + m3 = nx.length ∧ st' = (nx.take i).foldl (relax1 (topsOf x y cs) k v) st ∧
            Pre M N' ∧ Live N' (M.length + 2) (.row (intL (topsOf x y cs)) true 1) ∧ Live N' (M.length + 3) (.row [.ref (M.length + 2) 0 (x * y).toNat, .I y] true 0) ∧ Live N' (M.length + 5) (.row (intL st'.1) true 1) ∧ Live N' tn (.row (intL (nx ++ ex)) true 1) ∧
            fr' 2 = .I q ∧ fr' 3 = .I s ∧ fr' 10 = .ptr (M.length + 3) 0 ∧ fr' 11 = .ref (M.length + 5) 0 (x * y).toNat ∧ fr' 12 = .B st'.2 ∧ fr' 36 = .ref (M.length + 5) 0 (x * y).toNat ∧ fr' 37 = .I (x * y).toNat ∧ fr' 38 = .I k ∧ fr' 13 = .I k ∧ fr' 14 = .I v ∧ fr' 48 = .ref tn 0 nx.length ∧ fr' 49 = .I nx.length ∧ fr' 50 = .I i) nx.length
            ⟨0, st, by omega, rfl, hpre.trans hp0, htop.pre hp0, htb.pre hp0, hbest.pre hp0, hnx0, f2, f3, f10, f11, f12, f36, f37, f38, rfl, rfl, rfl, rfl, rfl⟩ ?_
          clear f2 f3 f10 f11 f12 f36 f37 f38
          rintro m3 fr' N' ⟨i, st', hi, hst', hpre', htop', htb', hbest', hnx', f2, f3, f10, f11, f12, f36, f37, f38, f13, f14, f48, f49, f50⟩
          obtain ⟨hc1, hc2⟩ := hin i
          rw [← hst'] at hc1 hc2
          have hcl := hc1.len
          have hctop := hc1.top (by omega) k (by omega)
          simp (disch := omega) only [f2, f3, f10, f11, f12, f36, f37, f38, f13, f14, f48, f49, f50, ↓SXd, SXu, slBounds, ↓sop, ↓aop, ↓reduceIte, LV.cells, AOp.dst, LV.I, LV.B, LV.U, LV.S, LV.nil, Nat.reduceEqDiff, Nat.reduceAdd, Nat.reduceMul, Nat.reduceSub, Nat.reduceLeDiff, Nat.reduceBEq, Nat.reduceDiv, Nat.reduceMod, Int.reduceToNat, Int.reduceLT, Int.reduceLE, Int.reduceAdd, Int.reduceSub, Int.reduceMul, Int.reduceEq, Int.reduceNeg, reduceCtorEq, resV, resAll, ARes.ev, LV.flat, ite_true, ite_false, exists_eq_left', exists_eq_left, keyOf, implies_true, fillC, capOf]
          refine condC_dec (fun hil => ?_) (fun hil => ?_)
          · have hil : i < nx.length := by omega
            have hmi := hmem i hil
            have hyt := hc1.top (by omega) (nx.getD i 0).toNat (by omega)
            have hyl := hc1.lo (nx.getD i 0).toNat (by omega)
            have ht1 := topsOf_low4 hH (nx.getD i 0).toNat
            have ht2 := topsOf_low4 hH k
            have hxl : i < (nx ++ ex).length := by simp; omega
            have hxe : (nx ++ ex).getD i 0 = nx.getD i 0 := by simp only [List.getD_eq_getElem?_getD]; rw [List.getElem?_append_left hil]
            have hstep : (nx.take (i + 1)).foldl (relax1 (topsOf x y cs) k v) st = relax1 (topsOf x y cs) k v st' (nx.getD i 0) := by
              rw [nums_take_succ _ _ _ _ hil, ← hst']
            have hcond : (relax1 (topsOf x y cs) k v st' (nx.getD i 0) = (st'.1.set (nx.getD i 0).toNat (v + max ((topsOf x y cs).getD (nx.getD i 0).toNat 0 - (topsOf x y cs).getD k 0) 0), true) ∧ (st'.1.getD (nx.getD i 0).toNat 0 < 0 ∨ v + max ((topsOf x y cs).getD (nx.getD i 0).toNat 0 - (topsOf x y cs).getD k 0) 0 < st'.1.getD (nx.getD i 0).toNat 0)) ∨
                (relax1 (topsOf x y cs) k v st' (nx.getD i 0) = st' ∧ ¬ (st'.1.getD (nx.getD i 0).toNat 0 < 0 ∨ v + max ((topsOf x y cs).getD (nx.getD i 0).toNat 0 - (topsOf x y cs).getD k 0) 0 < st'.1.getD (nx.getD i 0).toNat 0)) := by
              unfold relax1
              by_cases hh : st'.1.getD (nx.getD i 0).toNat 0 < 0 ∨ v + max ((topsOf x y cs).getD (nx.getD i 0).toNat 0 - (topsOf x y cs).getD k 0) 0 < st'.1.getD (nx.getD i 0).toNat 0
              · left; exact ⟨by rw [if_pos (by simpa using hh)]; simp, hh⟩
              · right; exact ⟨by rw [if_neg (by simpa using hh)], hh⟩
            simp (disch := omega) only [f2, f3, f10, f11, f12, f36, f37, f38, f13, f14, f48, f49, f50, hnx'.cell, intL_get, hxe, htb'.cell, htop'.cell, hbest'.cell, maxV, if_true, ite_true, ↓SXd, SXu, slBounds, ↓sop, ↓aop, ↓reduceIte, LV.cells, AOp.dst, LV.I, LV.B, LV.U, LV.S, LV.nil, Nat.reduceEqDiff, Nat.reduceAdd, Nat.reduceMul, Nat.reduceSub, Nat.reduceLeDiff, Nat.reduceBEq, Nat.reduceDiv, Nat.reduceMod, Int.reduceToNat, Int.reduceLT, Int.reduceLE, Int.reduceAdd, Int.reduceSub, Int.reduceMul, Int.reduceEq, Int.reduceNeg, reduceCtorEq, resV, resAll, ARes.ev, LV.flat, ite_true, ite_false, exists_eq_left', exists_eq_left, keyOf, implies_true, fillC, capOf]
            rw [show max 0 ((topsOf x y cs).getD (nx.getD i 0).toNat 0 - (topsOf x y cs).getD k 0) = max ((topsOf x y cs).getD (nx.getD i 0).toNat 0 - (topsOf x y cs).getD k 0) 0 from Int.max_comm _ _]
            have hlMN := hp0.1
            have hlN := hpre.1
            rcases hcond with ⟨he, hh⟩ | ⟨he, hh⟩
            · by_cases h1 : st'.1.getD (nx.getD i 0).toNat 0 < 0
              · simp (disch := omega) only [f2, f3, f10, f11, f12, f36, f37, f38, f13, f14, f48, f49, f50, hbest'.cell, intL_get, ↓SXd, SXu, slBounds, ↓sop, ↓aop, ↓reduceIte, LV.cells, AOp.dst, LV.I, LV.B, LV.U, LV.S, LV.nil, Nat.reduceEqDiff, Nat.reduceAdd, Nat.reduceMul, Nat.reduceSub, Nat.reduceLeDiff, Nat.reduceBEq, Nat.reduceDiv, Nat.reduceMod, Int.reduceToNat, Int.reduceLT, Int.reduceLE, Int.reduceAdd, Int.reduceSub, Int.reduceMul, Int.reduceEq, Int.reduceNeg, reduceCtorEq, resV, resAll, ARes.ev, LV.flat, ite_true, ite_false, exists_eq_left', exists_eq_left, keyOf, implies_true, fillC, capOf]
                refine memK_int hbest' (by omega) fun N'' l1 l2 l3 => ?_
                simp (disch := omega) only [f2, f3, f10, f11, f12, f36, f37, f38, f13, f14, f48, f49, f50, ↓SXd, SXu, slBounds, ↓sop, ↓aop, ↓reduceIte, LV.cells, AOp.dst, LV.I, LV.B, LV.U, LV.S, LV.nil, Nat.reduceEqDiff, Nat.reduceAdd, Nat.reduceMul, Nat.reduceSub, Nat.reduceLeDiff, Nat.reduceBEq, Nat.reduceDiv, Nat.reduceMod, Int.reduceToNat, Int.reduceLT, Int.reduceLE, Int.reduceAdd, Int.reduceSub, Int.reduceMul, Int.reduceEq, Int.reduceNeg, reduceCtorEq, resV, resAll, ARes.ev, LV.flat, ite_true, ite_false, exists_eq_left', exists_eq_left, keyOf, implies_true, fillC, capOf]
                refine ⟨m3 - 1, by omega, i + 1, relax1 (topsOf x y cs) k v st' (nx.getD i 0), by omega, hstep.symm, pre_step hpre' (by omega) (j := 0) l1 l3, live_step htop' (by omega) l3, live_step htb' (by omega) l3, ?_, live_step hnx' (by omega) l3, f2, f3, f10, f11, ?_, f36, f37, f38, f13, f14, f48, f49, eqI (natI _)⟩
                · rw [he]; exact l2
                · rw [he]; rfl
              · have h2 := hh.resolve_left h1
                simp (disch := omega) only [f2, f3, f10, f11, f12, f36, f37, f38, f13, f14, f48, f49, f50, hbest'.cell, intL_get, ↓SXd, SXu, slBounds, ↓sop, ↓aop, ↓reduceIte, LV.cells, AOp.dst, LV.I, LV.B, LV.U, LV.S, LV.nil, Nat.reduceEqDiff, Nat.reduceAdd, Nat.reduceMul, Nat.reduceSub, Nat.reduceLeDiff, Nat.reduceBEq, Nat.reduceDiv, Nat.reduceMod, Int.reduceToNat, Int.reduceLT, Int.reduceLE, Int.reduceAdd, Int.reduceSub, Int.reduceMul, Int.reduceEq, Int.reduceNeg, reduceCtorEq, resV, resAll, ARes.ev, LV.flat, ite_true, ite_false, exists_eq_left', exists_eq_left, keyOf, implies_true, fillC, capOf]
                refine memK_int hbest' (by omega) fun N'' l1 l2 l3 => ?_
                simp (disch := omega) only [f2, f3, f10, f11, f12, f36, f37, f38, f13, f14, f48, f49, f50, ↓SXd, SXu, slBounds, ↓sop, ↓aop, ↓reduceIte, LV.cells, AOp.dst, LV.I, LV.B, LV.U, LV.S, LV.nil, Nat.reduceEqDiff, Nat.reduceAdd, Nat.reduceMul, Nat.reduceSub, Nat.reduceLeDiff, Nat.reduceBEq, Nat.reduceDiv, Nat.reduceMod, Int.reduceToNat, Int.reduceLT, Int.reduceLE, Int.reduceAdd, Int.reduceSub, Int.reduceMul, Int.reduceEq, Int.reduceNeg, reduceCtorEq, resV, resAll, ARes.ev, LV.flat, ite_true, ite_false, exists_eq_left', exists_eq_left, keyOf, implies_true, fillC, capOf]
                refine ⟨m3 - 1, by omega, i + 1, relax1 (topsOf x y cs) k v st' (nx.getD i 0), by omega, hstep.symm, pre_step hpre' (by omega) (j := 0) l1 l3, live_step htop' (by omega) l3, live_step htb' (by omega) l3, ?_, live_step hnx' (by omega) l3, f2, f3, f10, f11, ?_, f36, f37, f38, f13, f14, f48, f49, eqI (natI _)⟩
                · rw [he]; exact l2
                · rw [he]; rfl
            · obtain ⟨h1, h2⟩ := not_or.1 hh
              simp (disch := omega) only [f2, f3, f10, f11, f12, f36, f37, f38, f13, f14, f48, f49, f50, hbest'.cell, intL_get, ↓SXd, SXu, slBounds, ↓sop, ↓aop, ↓reduceIte, LV.cells, AOp.dst, LV.I, LV.B, LV.U, LV.S, LV.nil, Nat.reduceEqDiff, Nat.reduceAdd, Nat.reduceMul, Nat.reduceSub, Nat.reduceLeDiff, Nat.reduceBEq, Nat.reduceDiv, Nat.reduceMod, Int.reduceToNat, Int.reduceLT, Int.reduceLE, Int.reduceAdd, Int.reduceSub, Int.reduceMul, Int.reduceEq, Int.reduceNeg, reduceCtorEq, resV, resAll, ARes.ev, LV.flat, ite_true, ite_false, exists_eq_left', exists_eq_left, keyOf, implies_true, fillC, capOf]
              exact ⟨m3 - 1, by omega, i + 1, st', by omega, by rw [hstep, he], hpre', htop', htb', hbest', hnx', f2, f3, f10, f11, f12, f36, f37, f38, f13, f14, f48, f49, eqI (natI _)⟩
          · simp (disch := omega) only [f2, f3, f10, f11, f12, f36, f37, f38, f13, f14, f48, f49, f50, ↓SXd, SXu, slBounds, ↓sop, ↓aop, ↓reduceIte, LV.cells, AOp.dst, LV.I, LV.B, LV.U, LV.S, LV.nil, Nat.reduceEqDiff, Nat.reduceAdd, Nat.reduceMul, Nat.reduceSub, Nat.reduceLeDiff, Nat.reduceBEq, Nat.reduceDiv, Nat.reduceMod, Int.reduceToNat, Int.reduceLT, Int.reduceLE, Int.reduceAdd, Int.reduceSub, Int.reduceMul, Int.reduceEq, Int.reduceNeg, reduceCtorEq, resV, resAll, ARes.ev, LV.flat, ite_true, ite_false, exists_eq_left', exists_eq_left, keyOf, implies_true, fillC, capOf]
            have : i = nx.length := by omega
            subst this
            rw [List.take_length] at hst'
            exact ⟨m2 - 1, by omega, k + 1, st', by omega, by rw [hnext, hrc]; exact hst', hpre', htop', htb', hbest', f2, f3, f10, f11, f12, f36, f37, eqI (natI _)⟩
  · rw [if_neg (fun e => hV e.1)]
    simp (disch := omega) only [hV, ↓SXd, SXu, slBounds, ↓sop, ↓aop, ↓reduceIte, LV.cells, AOp.dst, LV.I, LV.B, LV.U, LV.S, LV.nil, Nat.reduceEqDiff, Nat.reduceAdd, Nat.reduceMul, Nat.reduceSub, Nat.reduceLeDiff, Nat.reduceBEq, Nat.reduceDiv, Nat.reduceMod, Int.reduceToNat, Int.reduceLT, Int.reduceLE, Int.reduceAdd, Int.reduceSub, Int.reduceMul, Int.reduceEq, Int.reduceNeg, reduceCtorEq, resV, resAll, ARes.ev, LV.flat, ite_true, ite_false, exists_eq_left', exists_eq_left, keyOf, implies_true, fillC, capOf]
    exact cmp_drop rfl
end Go.Ab

/- Contracts: steps between columns and the climbs of walks, both sides; heights. -/
namespace Go.Ab
open Go
set_option linter.unusedSimpArgs false
set_option linter.unusedVariables false
set_option maxRecDepth 20000

/-- What StepColumns answers. -/
noncomputable def stepRes (x y z : Int) (cs : List Cell) (p s : Int) : Option (List Int) := by
  classical
  exact if HeapOK x y z cs ∧ (0 ≤ p ∧ p ≤ x * y - 1) ∧ 0 ≤ s then some (stepsOf x y (topsOf x y cs) p s) else none
/-- What TopHeights answers. -/
noncomputable def topRes (x y z : Int) (cs : List Cell) : Option (List Int) := by
  classical
  exact if HeapOK x y z cs then some (topsOf x y cs) else none
section
variable {x y z : Int} {t o : Nat} {cs : List Cell} {M : Mem} (h : Tri M t o cs) (hn : cs.length ≤ 1000000000)
include h hn
theorem h_sStepColumns {p s : Int} : CallsR PG F.spec_StepColumns [.agg [.I x, .I y, .I z, .ref t o cs.length], .I p, .I s] M (IntsRes M (stepRes x y z cs p s)) := by
  refine callsR_run K.spec_StepColumns rfl ?_
  simp (disch := omega) only [C.spec_StepColumns, ↓SXd, SXu, slBounds, ↓sop, ↓aop, ↓reduceIte, LV.cells, AOp.dst, LV.I, LV.B, LV.U, LV.S, LV.nil, Nat.reduceEqDiff, Nat.reduceAdd, Nat.reduceMul, Nat.reduceSub, Nat.reduceLeDiff, Nat.reduceBEq, Nat.reduceDiv, Nat.reduceMod, Int.reduceToNat, Int.reduceLT, Int.reduceLE, Int.reduceAdd, Int.reduceSub, Int.reduceMul, Int.reduceEq, Int.reduceNeg, reduceCtorEq, resV, resAll, ARes.ev, LV.flat, ite_true, ite_false, exists_eq_left', exists_eq_left, keyOf, implies_true, fillC, capOf]
  refine callK_of (h_l10Column h.app hn) ?_
  simp (disch := omega) only [↓SXd, SXu, slBounds, ↓sop, ↓aop, ↓reduceIte, LV.cells, AOp.dst, LV.I, LV.B, LV.U, LV.S, LV.nil, Nat.reduceEqDiff, Nat.reduceAdd, Nat.reduceMul, Nat.reduceSub, Nat.reduceLeDiff, Nat.reduceBEq, Nat.reduceDiv, Nat.reduceMod, Int.reduceToNat, Int.reduceLT, Int.reduceLE, Int.reduceAdd, Int.reduceSub, Int.reduceMul, Int.reduceEq, Int.reduceNeg, reduceCtorEq, resV, resAll, ARes.ev, LV.flat, ite_true, ite_false, exists_eq_left', exists_eq_left, keyOf, implies_true, fillC, capOf]
  unfold stepRes
  by_cases hH : HeapOK x y z cs ∧ (0 ≤ p ∧ p ≤ x * y - 1)
  · by_cases hs : 0 ≤ s
    · have hs' : ¬ s < 0 := by omega
      rw [if_pos ⟨hH.1, hH.2, hs⟩]
      simp (disch := omega) only [hH, hs', ↓SXd, SXu, slBounds, ↓sop, ↓aop, ↓reduceIte, LV.cells, AOp.dst, LV.I, LV.B, LV.U, LV.S, LV.nil, Nat.reduceEqDiff, Nat.reduceAdd, Nat.reduceMul, Nat.reduceSub, Nat.reduceLeDiff, Nat.reduceBEq, Nat.reduceDiv, Nat.reduceMod, Int.reduceToNat, Int.reduceLT, Int.reduceLE, Int.reduceAdd, Int.reduceSub, Int.reduceMul, Int.reduceEq, Int.reduceNeg, reduceCtorEq, resV, resAll, ARes.ev, LV.flat, ite_true, ite_false, exists_eq_left', exists_eq_left, keyOf, implies_true, fillC, capOf]
      refine callK_of (h_l2Tops h.app hn hH.1) ?_
      simp (disch := omega) only [↓SXd, SXu, slBounds, ↓sop, ↓aop, ↓reduceIte, LV.cells, AOp.dst, LV.I, LV.B, LV.U, LV.S, LV.nil, Nat.reduceEqDiff, Nat.reduceAdd, Nat.reduceMul, Nat.reduceSub, Nat.reduceLeDiff, Nat.reduceBEq, Nat.reduceDiv, Nat.reduceMod, Int.reduceToNat, Int.reduceLT, Int.reduceLE, Int.reduceAdd, Int.reduceSub, Int.reduceMul, Int.reduceEq, Int.reduceNeg, reduceCtorEq, resV, resAll, ARes.ev, LV.flat, ite_true, ite_false, exists_eq_left', exists_eq_left, keyOf, implies_true, fillC, capOf]
      refine callK_of (h_l10Steps hH.1.1 hH.2 (Live.newj (j := 1) rfl).has (topsOf_len x y cs) (topsOf_low hH.1)) ?_
      simp (disch := omega) only [↓SXd, SXu, slBounds, ↓sop, ↓aop, ↓reduceIte, LV.cells, AOp.dst, LV.I, LV.B, LV.U, LV.S, LV.nil, Nat.reduceEqDiff, Nat.reduceAdd, Nat.reduceMul, Nat.reduceSub, Nat.reduceLeDiff, Nat.reduceBEq, Nat.reduceDiv, Nat.reduceMod, Int.reduceToNat, Int.reduceLT, Int.reduceLE, Int.reduceAdd, Int.reduceSub, Int.reduceMul, Int.reduceEq, Int.reduceNeg, reduceCtorEq, resV, resAll, ARes.ev, LV.flat, ite_true, ite_false, exists_eq_left', exists_eq_left, keyOf, implies_true, fillC, capOf]
      exact ⟨_, rfl, .inr ⟨_, [], rfl, by rw [List.append_nil]; exact Live.newj (j := 2) rfl⟩, Newer.of (by omega), Pre.app _ _⟩
    · have hs' : s < 0 := by omega
      rw [if_neg (fun e => hs e.2.2)]
      simp (disch := omega) only [hH, hs', ↓SXd, SXu, slBounds, ↓sop, ↓aop, ↓reduceIte, LV.cells, AOp.dst, LV.I, LV.B, LV.U, LV.S, LV.nil, Nat.reduceEqDiff, Nat.reduceAdd, Nat.reduceMul, Nat.reduceSub, Nat.reduceLeDiff, Nat.reduceBEq, Nat.reduceDiv, Nat.reduceMod, Int.reduceToNat, Int.reduceLT, Int.reduceLE, Int.reduceAdd, Int.reduceSub, Int.reduceMul, Int.reduceEq, Int.reduceNeg, reduceCtorEq, resV, resAll, ARes.ev, LV.flat, ite_true, ite_false, exists_eq_left', exists_eq_left, keyOf, implies_true, fillC, capOf]
      exact ⟨_, rfl, SlI.of (l := []) (Live.newj (j := 1) rfl), Newer.of (by omega), Pre.app _ _⟩
  · rw [if_neg (fun e => hH ⟨e.1, e.2.1⟩)]
    simp (disch := omega) only [hH, ↓SXd, SXu, slBounds, ↓sop, ↓aop, ↓reduceIte, LV.cells, AOp.dst, LV.I, LV.B, LV.U, LV.S, LV.nil, Nat.reduceEqDiff, Nat.reduceAdd, Nat.reduceMul, Nat.reduceSub, Nat.reduceLeDiff, Nat.reduceBEq, Nat.reduceDiv, Nat.reduceMod, Int.reduceToNat, Int.reduceLT, Int.reduceLE, Int.reduceAdd, Int.reduceSub, Int.reduceMul, Int.reduceEq, Int.reduceNeg, reduceCtorEq, resV, resAll, ARes.ev, LV.flat, ite_true, ite_false, exists_eq_left', exists_eq_left, keyOf, implies_true, fillC, capOf]
    exact ⟨_, rfl, SlI.of (l := []) (Live.newj (j := 1) rfl), Newer.of (by omega), Pre.app _ _⟩
theorem g_StepColumns {p s : Int} : CallsR PG F.impl_StepColumns [.agg [.I x, .I y, .I z, .ref t o cs.length], .I p, .I s] M (IntsRes M (stepRes x y z cs p s)) := by
  refine callsR_run K.impl_StepColumns rfl ?_
  simp (disch := omega) only [C.impl_StepColumns, splice, ↓SXd, SXu, slBounds, ↓sop, ↓aop, ↓reduceIte, LV.cells, AOp.dst, LV.I, LV.B, LV.U, LV.S, LV.nil, Nat.reduceEqDiff, Nat.reduceAdd, Nat.reduceMul, Nat.reduceSub, Nat.reduceLeDiff, Nat.reduceBEq, Nat.reduceDiv, Nat.reduceMod, Int.reduceToNat, Int.reduceLT, Int.reduceLE, Int.reduceAdd, Int.reduceSub, Int.reduceMul, Int.reduceEq, Int.reduceNeg, reduceCtorEq, resV, resAll, ARes.ev, LV.flat, ite_true, ite_false, exists_eq_left', exists_eq_left, keyOf, implies_true, fillC, capOf]
  refine callK_of (g_isTop (xs := [p]) h.app hn (Live.newj (j := 1) rfl).has (by simp)) ?_
  simp (disch := omega) only [↓SXd, SXu, slBounds, ↓sop, ↓aop, ↓reduceIte, LV.cells, AOp.dst, LV.I, LV.B, LV.U, LV.S, LV.nil, Nat.reduceEqDiff, Nat.reduceAdd, Nat.reduceMul, Nat.reduceSub, Nat.reduceLeDiff, Nat.reduceBEq, Nat.reduceDiv, Nat.reduceMod, Int.reduceToNat, Int.reduceLT, Int.reduceLE, Int.reduceAdd, Int.reduceSub, Int.reduceMul, Int.reduceEq, Int.reduceNeg, reduceCtorEq, resV, resAll, ARes.ev, LV.flat, ite_true, ite_false, exists_eq_left', exists_eq_left, keyOf, implies_true, fillC, capOf]
  unfold stepRes
  by_cases hH : HeapOK x y z cs ∧ (0 ≤ p ∧ p ≤ x * y - 1) ∧ 0 ≤ s
  · have hd : HeapOK x y z cs ∧ 0 ≤ s ∧ ∀ k, k < 1 → 0 ≤ [p].getD k 0 ∧ [p].getD k 0 ≤ x * y - 1 := ⟨hH.1, hH.2.2, fun k hk => by rw [show k = 0 by omega]; exact hH.2.1⟩
    rw [if_pos hH, decide_eq_true hd]
    simp (disch := omega) only [↓SXd, SXu, slBounds, ↓sop, ↓aop, ↓reduceIte, LV.cells, AOp.dst, LV.I, LV.B, LV.U, LV.S, LV.nil, Nat.reduceEqDiff, Nat.reduceAdd, Nat.reduceMul, Nat.reduceSub, Nat.reduceLeDiff, Nat.reduceBEq, Nat.reduceDiv, Nat.reduceMod, Int.reduceToNat, Int.reduceLT, Int.reduceLE, Int.reduceAdd, Int.reduceSub, Int.reduceMul, Int.reduceEq, Int.reduceNeg, reduceCtorEq, resV, resAll, ARes.ev, LV.flat, ite_true, ite_false, exists_eq_left', exists_eq_left, keyOf, implies_true, fillC, capOf]
    refine callK_of (g_top h.app hn hH.1) ?_
    simp (disch := omega) only [↓SXd, SXu, slBounds, ↓sop, ↓aop, ↓reduceIte, LV.cells, AOp.dst, LV.I, LV.B, LV.U, LV.S, LV.nil, Nat.reduceEqDiff, Nat.reduceAdd, Nat.reduceMul, Nat.reduceSub, Nat.reduceLeDiff, Nat.reduceBEq, Nat.reduceDiv, Nat.reduceMod, Int.reduceToNat, Int.reduceLT, Int.reduceLE, Int.reduceAdd, Int.reduceSub, Int.reduceMul, Int.reduceEq, Int.reduceNeg, reduceCtorEq, resV, resAll, ARes.ev, LV.flat, ite_true, ite_false, exists_eq_left', exists_eq_left, keyOf, implies_true, fillC, capOf]
    refine callK_of (g_steps hH.1.1.1 hH.1.1.2.1 hH.2.1 (Live.newj (j := 2) rfl).has (topsOf_len x y cs) (topsOf_low hH.1)) ?_
    simp (disch := omega) only [↓SXd, SXu, slBounds, ↓sop, ↓aop, ↓reduceIte, LV.cells, AOp.dst, LV.I, LV.B, LV.U, LV.S, LV.nil, Nat.reduceEqDiff, Nat.reduceAdd, Nat.reduceMul, Nat.reduceSub, Nat.reduceLeDiff, Nat.reduceBEq, Nat.reduceDiv, Nat.reduceMod, Int.reduceToNat, Int.reduceLT, Int.reduceLE, Int.reduceAdd, Int.reduceSub, Int.reduceMul, Int.reduceEq, Int.reduceNeg, reduceCtorEq, resV, resAll, ARes.ev, LV.flat, ite_true, ite_false, exists_eq_left', exists_eq_left, keyOf, implies_true, fillC, capOf]
    exact ⟨_, rfl, .inr ⟨_, _, rfl, Live.newj (j := 3) rfl⟩, Newer.of (by omega), Pre.app _ _⟩
  · have hd : ¬ (HeapOK x y z cs ∧ 0 ≤ s ∧ ∀ k, k < 1 → 0 ≤ [p].getD k 0 ∧ [p].getD k 0 ≤ x * y - 1) := fun e => hH ⟨e.1, e.2.2 0 (by omega), e.2.1⟩
    rw [if_neg hH, decide_eq_false hd]
    simp (disch := omega) only [↓SXd, SXu, slBounds, ↓sop, ↓aop, ↓reduceIte, LV.cells, AOp.dst, LV.I, LV.B, LV.U, LV.S, LV.nil, Nat.reduceEqDiff, Nat.reduceAdd, Nat.reduceMul, Nat.reduceSub, Nat.reduceLeDiff, Nat.reduceBEq, Nat.reduceDiv, Nat.reduceMod, Int.reduceToNat, Int.reduceLT, Int.reduceLE, Int.reduceAdd, Int.reduceSub, Int.reduceMul, Int.reduceEq, Int.reduceNeg, reduceCtorEq, resV, resAll, ARes.ev, LV.flat, ite_true, ite_false, exists_eq_left', exists_eq_left, keyOf, implies_true, fillC, capOf]
    exact ⟨_, rfl, SlI.nil, Newer.nil, Pre.app _ _⟩
theorem g_TopHeights : CallsR PG F.impl_TopHeights [.agg [.I x, .I y, .I z, .ref t o cs.length]] M (IntsRes M (topRes x y z cs)) := by
  refine callsR_run K.impl_TopHeights rfl ?_
  simp (disch := omega) only [C.impl_TopHeights, ↓SXd, SXu, slBounds, ↓sop, ↓aop, ↓reduceIte, LV.cells, AOp.dst, LV.I, LV.B, LV.U, LV.S, LV.nil, Nat.reduceEqDiff, Nat.reduceAdd, Nat.reduceMul, Nat.reduceSub, Nat.reduceLeDiff, Nat.reduceBEq, Nat.reduceDiv, Nat.reduceMod, Int.reduceToNat, Int.reduceLT, Int.reduceLE, Int.reduceAdd, Int.reduceSub, Int.reduceMul, Int.reduceEq, Int.reduceNeg, reduceCtorEq, resV, resAll, ARes.ev, LV.flat, ite_true, ite_false, exists_eq_left', exists_eq_left, keyOf, implies_true, fillC, capOf]
  refine callK_of (g_IsHeap h.app hn) ?_
  simp (disch := omega) only [↓SXd, SXu, slBounds, ↓sop, ↓aop, ↓reduceIte, LV.cells, AOp.dst, LV.I, LV.B, LV.U, LV.S, LV.nil, Nat.reduceEqDiff, Nat.reduceAdd, Nat.reduceMul, Nat.reduceSub, Nat.reduceLeDiff, Nat.reduceBEq, Nat.reduceDiv, Nat.reduceMod, Int.reduceToNat, Int.reduceLT, Int.reduceLE, Int.reduceAdd, Int.reduceSub, Int.reduceMul, Int.reduceEq, Int.reduceNeg, reduceCtorEq, resV, resAll, ARes.ev, LV.flat, ite_true, ite_false, exists_eq_left', exists_eq_left, keyOf, implies_true, fillC, capOf]
  unfold topRes
  by_cases hH : HeapOK x y z cs
  · rw [if_pos hH]
    simp (disch := omega) only [hH, ↓SXd, SXu, slBounds, ↓sop, ↓aop, ↓reduceIte, LV.cells, AOp.dst, LV.I, LV.B, LV.U, LV.S, LV.nil, Nat.reduceEqDiff, Nat.reduceAdd, Nat.reduceMul, Nat.reduceSub, Nat.reduceLeDiff, Nat.reduceBEq, Nat.reduceDiv, Nat.reduceMod, Int.reduceToNat, Int.reduceLT, Int.reduceLE, Int.reduceAdd, Int.reduceSub, Int.reduceMul, Int.reduceEq, Int.reduceNeg, reduceCtorEq, resV, resAll, ARes.ev, LV.flat, ite_true, ite_false, exists_eq_left', exists_eq_left, keyOf, implies_true, fillC, capOf]
    refine callK_of (g_heights h.app hn hH) ?_
    simp (disch := omega) only [↓SXd, SXu, slBounds, ↓sop, ↓aop, ↓reduceIte, LV.cells, AOp.dst, LV.I, LV.B, LV.U, LV.S, LV.nil, Nat.reduceEqDiff, Nat.reduceAdd, Nat.reduceMul, Nat.reduceSub, Nat.reduceLeDiff, Nat.reduceBEq, Nat.reduceDiv, Nat.reduceMod, Int.reduceToNat, Int.reduceLT, Int.reduceLE, Int.reduceAdd, Int.reduceSub, Int.reduceMul, Int.reduceEq, Int.reduceNeg, reduceCtorEq, resV, resAll, ARes.ev, LV.flat, ite_true, ite_false, exists_eq_left', exists_eq_left, keyOf, implies_true, fillC, capOf]
    have hl := topsOf_len x y cs
    exact ⟨_, rfl, .inr ⟨_, [], by rw [Option.getD_some, hl], by rw [List.append_nil]; exact Live.newj (j := 1) rfl⟩, Newer.of (by omega), Pre.app _ _⟩
  · rw [if_neg hH]
    simp (disch := omega) only [hH, ↓SXd, SXu, slBounds, ↓sop, ↓aop, ↓reduceIte, LV.cells, AOp.dst, LV.I, LV.B, LV.U, LV.S, LV.nil, Nat.reduceEqDiff, Nat.reduceAdd, Nat.reduceMul, Nat.reduceSub, Nat.reduceLeDiff, Nat.reduceBEq, Nat.reduceDiv, Nat.reduceMod, Int.reduceToNat, Int.reduceLT, Int.reduceLE, Int.reduceAdd, Int.reduceSub, Int.reduceMul, Int.reduceEq, Int.reduceNeg, reduceCtorEq, resV, resAll, ARes.ev, LV.flat, ite_true, ite_false, exists_eq_left', exists_eq_left, keyOf, implies_true, fillC, capOf]
    exact ⟨_, rfl, SlI.nil, Newer.nil, Pre.app _ _⟩
end
theorem g_Index {t o : Nat} {xs : List Int} {n : Int} {M : Mem} (h : Ints M t o xs) (hn : xs.length ≤ 1000000000) : CallsTo PG F.slices_Index_Sint_int [.ref t o xs.length, .I n] M (.I (idxF (fun v => decide (v = n)) xs)) M := by
  refine calls_run K.slices_Index_Sint_int rfl ?_
  simp (disch := omega) only [C.slices_Index_Sint_int, ↓SXd, SXu, slBounds, ↓sop, ↓aop, ↓reduceIte, LV.cells, AOp.dst, LV.I, LV.B, LV.U, LV.S, LV.nil, Nat.reduceEqDiff, Nat.reduceAdd, Nat.reduceMul, Nat.reduceSub, Nat.reduceLeDiff, Nat.reduceBEq, Nat.reduceDiv, Nat.reduceMod, Int.reduceToNat, Int.reduceLT, Int.reduceLE, Int.reduceAdd, Int.reduceSub, Int.reduceMul, Int.reduceEq, Int.reduceNeg, reduceCtorEq, resV, resAll, ARes.ev, LV.flat, ite_true, ite_false, exists_eq_left', exists_eq_left, keyOf, implies_true, fillC, capOf]
  refine ev_loop (fun m fr M' => ∃ k : Nat, k + m = xs.length ∧ M' = M ∧ fr 0 = .ref t o xs.length ∧ fr 1 = .I n ∧ fr 7 = .I xs.length ∧ fr 8 = .I k ∧ ∀ j, j < k → xs.getD j 0 ≠ n) xs.length
    ⟨0, by omega, rfl, rfl, rfl, rfl, rfl, by omega⟩ ?_
  rintro m fr M' ⟨k, hk, rfl, h0, h1, h7, h8, hj⟩
  simp (disch := omega) only [h0, h1, h7, h8, ↓SXd, SXu, slBounds, ↓sop, ↓aop, ↓reduceIte, LV.cells, AOp.dst, LV.I, LV.B, LV.U, LV.S, LV.nil, Nat.reduceEqDiff, Nat.reduceAdd, Nat.reduceMul, Nat.reduceSub, Nat.reduceLeDiff, Nat.reduceBEq, Nat.reduceDiv, Nat.reduceMod, Int.reduceToNat, Int.reduceLT, Int.reduceLE, Int.reduceAdd, Int.reduceSub, Int.reduceMul, Int.reduceEq, Int.reduceNeg, reduceCtorEq, resV, resAll, ARes.ev, LV.flat, ite_true, ite_false, exists_eq_left', exists_eq_left, keyOf, implies_true, fillC, capOf]
  rcases idxF_cases (fun v => decide (v = n)) xs with ⟨e, hall⟩ | ⟨i, hi, e, hbef, hat⟩
  · refine condC_dec (fun hlt => ?_) (fun hlt => ?_)
    · have := hall k (by omega)
      have hne : ¬ (n = xs.getD k 0) := fun e => by rw [e] at this; simp at this
      simp (disch := omega) only [h0, h1, h7, h8, Ints.get, h, hne, ↓SXd, SXu, slBounds, ↓sop, ↓aop, ↓reduceIte, LV.cells, AOp.dst, LV.I, LV.B, LV.U, LV.S, LV.nil, Nat.reduceEqDiff, Nat.reduceAdd, Nat.reduceMul, Nat.reduceSub, Nat.reduceLeDiff, Nat.reduceBEq, Nat.reduceDiv, Nat.reduceMod, Int.reduceToNat, Int.reduceLT, Int.reduceLE, Int.reduceAdd, Int.reduceSub, Int.reduceMul, Int.reduceEq, Int.reduceNeg, reduceCtorEq, resV, resAll, ARes.ev, LV.flat, ite_true, ite_false, exists_eq_left', exists_eq_left, keyOf, implies_true, fillC, capOf]
      exact ⟨m - 1, by omega, k + 1, by omega, rfl, h0, h1, h7, eqI (natI _), fun j hj1 => by
        rcases Nat.lt_or_ge j k with h2 | h2
        · exact hj j h2
        · rw [show j = k by omega]; exact fun e => hne e.symm⟩
    · simp (disch := omega) only [h0, h1, h7, h8, ↓SXd, SXu, slBounds, ↓sop, ↓aop, ↓reduceIte, LV.cells, AOp.dst, LV.I, LV.B, LV.U, LV.S, LV.nil, Nat.reduceEqDiff, Nat.reduceAdd, Nat.reduceMul, Nat.reduceSub, Nat.reduceLeDiff, Nat.reduceBEq, Nat.reduceDiv, Nat.reduceMod, Int.reduceToNat, Int.reduceLT, Int.reduceLE, Int.reduceAdd, Int.reduceSub, Int.reduceMul, Int.reduceEq, Int.reduceNeg, reduceCtorEq, resV, resAll, ARes.ev, LV.flat, ite_true, ite_false, exists_eq_left', exists_eq_left, keyOf, implies_true, fillC, capOf]
      rw [e]
      exact cmp_drop0 rfl
  · have hik : k ≤ i := by
      rcases Nat.lt_or_ge i k with h2 | h2
      · exact absurd (by simpa using hat) (hj i h2)
      · exact h2
    refine condC_dec (fun hlt => ?_) (fun hlt => by omega)
    by_cases hki : k = i
    · subst hki
      have hne : n = xs.getD k 0 := by simp at hat; exact hat.symm
      have e' := e
      rw [hne] at e'
      simp (disch := omega) only [h0, h1, h7, h8, Ints.get, h, decide_eq_true, hne, ↓SXd, SXu, slBounds, ↓sop, ↓aop, ↓reduceIte, LV.cells, AOp.dst, LV.I, LV.B, LV.U, LV.S, LV.nil, Nat.reduceEqDiff, Nat.reduceAdd, Nat.reduceMul, Nat.reduceSub, Nat.reduceLeDiff, Nat.reduceBEq, Nat.reduceDiv, Nat.reduceMod, Int.reduceToNat, Int.reduceLT, Int.reduceLE, Int.reduceAdd, Int.reduceSub, Int.reduceMul, Int.reduceEq, Int.reduceNeg, reduceCtorEq, resV, resAll, ARes.ev, LV.flat, ite_true, ite_false, exists_eq_left', exists_eq_left, keyOf, implies_true, fillC, capOf]
      simp only [e']
      exact cmp_drop0 rfl
    · have := hbef k (by omega)
      have hne : ¬ (n = xs.getD k 0) := fun e => by rw [e] at this; simp at this
      simp (disch := omega) only [h0, h1, h7, h8, Ints.get, h, hne, ↓SXd, SXu, slBounds, ↓sop, ↓aop, ↓reduceIte, LV.cells, AOp.dst, LV.I, LV.B, LV.U, LV.S, LV.nil, Nat.reduceEqDiff, Nat.reduceAdd, Nat.reduceMul, Nat.reduceSub, Nat.reduceLeDiff, Nat.reduceBEq, Nat.reduceDiv, Nat.reduceMod, Int.reduceToNat, Int.reduceLT, Int.reduceLE, Int.reduceAdd, Int.reduceSub, Int.reduceMul, Int.reduceEq, Int.reduceNeg, reduceCtorEq, resV, resAll, ARes.ev, LV.flat, ite_true, ite_false, exists_eq_left', exists_eq_left, keyOf, implies_true, fillC, capOf]
      exact ⟨m - 1, by omega, k + 1, by omega, rfl, h0, h1, h7, eqI (natI _), fun j hj1 => by
        rcases Nat.lt_or_ge j k with h2 | h2
        · exact hj j h2
        · rw [show j = k by omega]; exact fun e => hne e.symm⟩
theorem g_Contains {t o : Nat} {xs : List Int} {n : Int} {M : Mem} (h : Ints M t o xs) (hn : xs.length ≤ 1000000000) : CallsTo PG F.slices_Contains_Sint_int [.ref t o xs.length, .I n] M (.B (decide (n ∈ xs))) M := by
  refine calls_run K.slices_Contains_Sint_int rfl ?_
  simp (disch := omega) only [C.slices_Contains_Sint_int, ↓SXd, SXu, slBounds, ↓sop, ↓aop, ↓reduceIte, LV.cells, AOp.dst, LV.I, LV.B, LV.U, LV.S, LV.nil, Nat.reduceEqDiff, Nat.reduceAdd, Nat.reduceMul, Nat.reduceSub, Nat.reduceLeDiff, Nat.reduceBEq, Nat.reduceDiv, Nat.reduceMod, Int.reduceToNat, Int.reduceLT, Int.reduceLE, Int.reduceAdd, Int.reduceSub, Int.reduceMul, Int.reduceEq, Int.reduceNeg, reduceCtorEq, resV, resAll, ARes.ev, LV.flat, ite_true, ite_false, exists_eq_left', exists_eq_left, keyOf, implies_true, fillC, capOf]
  refine callK_of (g_Index h hn) ?_
  simp (disch := omega) only [↓SXd, SXu, slBounds, ↓sop, ↓aop, ↓reduceIte, LV.cells, AOp.dst, LV.I, LV.B, LV.U, LV.S, LV.nil, Nat.reduceEqDiff, Nat.reduceAdd, Nat.reduceMul, Nat.reduceSub, Nat.reduceLeDiff, Nat.reduceBEq, Nat.reduceDiv, Nat.reduceMod, Int.reduceToNat, Int.reduceLT, Int.reduceLE, Int.reduceAdd, Int.reduceSub, Int.reduceMul, Int.reduceEq, Int.reduceNeg, reduceCtorEq, resV, resAll, ARes.ev, LV.flat, ite_true, ite_false, exists_eq_left', exists_eq_left, keyOf, implies_true, fillC, capOf]
  rw [show decide (idxF (fun v => decide (v = n)) xs ≥ 0) = decide (n ∈ xs) from decide_eq_decide.2 (by
    rcases idxF_cases (fun v => decide (v = n)) xs with ⟨e, hall⟩ | ⟨i, hi, e, hbef, hat⟩
    · rw [e]
      refine ⟨fun e => by omega, fun e => ?_⟩
      obtain ⟨j, hj, rfl⟩ := List.getElem_of_mem e
      have := hall j hj
      simp [hj] at this
    · rw [e]
      refine ⟨fun _ => ?_, fun _ => by omega⟩
      have hat : xs.getD i 0 = n := by simpa using hat
      rw [← hat]; exact getD_mem hi)]
  exact cmp_drop0 rfl
end Go.Ab

/- Contracts: the climbs of walks, both sides. -/
namespace Go.Ab
open Go
set_option linter.unusedSimpArgs false
set_option linter.unusedVariables false
set_option maxRecDepth 20000

theorem upN_le {u : Nat → Int} (hu : ∀ i, 0 ≤ u i ∧ u i ≤ 4) : ∀ k : Nat, 0 ≤ upN u k ∧ upN u k ≤ 4 * k
  | 0 => by simp [upN, sumN]
  | k + 1 => by
    have h1 := upN_le hu k
    have h2 := hu k
    have h3 := hu (k + 1)
    have e : upN u (k + 1) = upN u k + max (u (k + 1) - u k) 0 := rfl
    omega
theorem wc_no {x y z : Int} {cs : List Cell} {w : List Int} (h : ¬ WalkOK x y z cs w) : wcOf x y z cs w = none := by unfold wcOf; rw [if_neg h]
theorem wc_ok {x y z : Int} {cs : List Cell} {w : List Int} (h : WalkOK x y z cs w) : wcOf x y z cs w = some (gapN (along (topsOf x y cs) w) (w.length - 1), upN (along (topsOf x y cs) w) (w.length - 1)) := by unfold wcOf; rw [if_pos h]
/-- The answer of WalkClimb as a value. -/
def WcRes (M : Mem) (r : Option (Int × Int)) (v : LV) (N : Mem) : Prop := v = .tup [.I (r.getD (0, 0)).1, .I (r.getD (0, 0)).2, .B r.isSome] ∧ Pre M N
section
variable {x y z : Int} {t o q r : Nat} {cs : List Cell} {w : List Int} {M : Mem} (h : Tri M t o cs) (hn : cs.length ≤ 1000000000) (hw : Ints M q r w) (hwl : w.length ≤ 1000)
include h hn hw hwl
theorem h_sWalkClimb : CallsR PG F.spec_WalkClimb [.agg [.I x, .I y, .I z, .ref t o cs.length], .ref q r w.length] M (WcRes M (wcOf x y z cs w)) := by
  have hwlt := hw.lt
  refine callsR_run K.spec_WalkClimb rfl ?_
  simp (disch := omega) only [C.spec_WalkClimb, ↓SXd, SXu, slBounds, ↓sop, ↓aop, ↓reduceIte, LV.cells, AOp.dst, LV.I, LV.B, LV.U, LV.S, LV.nil, Nat.reduceEqDiff, Nat.reduceAdd, Nat.reduceMul, Nat.reduceSub, Nat.reduceLeDiff, Nat.reduceBEq, Nat.reduceDiv, Nat.reduceMod, Int.reduceToNat, Int.reduceLT, Int.reduceLE, Int.reduceAdd, Int.reduceSub, Int.reduceMul, Int.reduceEq, Int.reduceNeg, reduceCtorEq, resV, resAll, ARes.ev, LV.flat, ite_true, ite_false, exists_eq_left', exists_eq_left, keyOf, implies_true, fillC, capOf]
  refine callK_of (h_l2Heap h.app hn) ?_
  simp (disch := omega) only [↓SXd, SXu, slBounds, ↓sop, ↓aop, ↓reduceIte, LV.cells, AOp.dst, LV.I, LV.B, LV.U, LV.S, LV.nil, Nat.reduceEqDiff, Nat.reduceAdd, Nat.reduceMul, Nat.reduceSub, Nat.reduceLeDiff, Nat.reduceBEq, Nat.reduceDiv, Nat.reduceMod, Int.reduceToNat, Int.reduceLT, Int.reduceLE, Int.reduceAdd, Int.reduceSub, Int.reduceMul, Int.reduceEq, Int.reduceNeg, reduceCtorEq, resV, resAll, ARes.ev, LV.flat, ite_true, ite_false, exists_eq_left', exists_eq_left, keyOf, implies_true, fillC, capOf]
  by_cases hH : HeapOK x y z cs
  rotate_left
  · rw [wc_no fun e => hH e.1]
    simp (disch := omega) only [hH, ↓SXd, SXu, slBounds, ↓sop, ↓aop, ↓reduceIte, LV.cells, AOp.dst, LV.I, LV.B, LV.U, LV.S, LV.nil, Nat.reduceEqDiff, Nat.reduceAdd, Nat.reduceMul, Nat.reduceSub, Nat.reduceLeDiff, Nat.reduceBEq, Nat.reduceDiv, Nat.reduceMod, Int.reduceToNat, Int.reduceLT, Int.reduceLE, Int.reduceAdd, Int.reduceSub, Int.reduceMul, Int.reduceEq, Int.reduceNeg, reduceCtorEq, resV, resAll, ARes.ev, LV.flat, ite_true, ite_false, exists_eq_left', exists_eq_left, keyOf, implies_true, fillC, capOf]
    exact ⟨rfl, Pre.app _ _⟩
  by_cases hl0 : w.length = 0
  · rw [wc_no fun e => by have := e.2.1; omega]
    simp (disch := omega) only [hH, hl0, ↓SXd, SXu, slBounds, ↓sop, ↓aop, ↓reduceIte, LV.cells, AOp.dst, LV.I, LV.B, LV.U, LV.S, LV.nil, Nat.reduceEqDiff, Nat.reduceAdd, Nat.reduceMul, Nat.reduceSub, Nat.reduceLeDiff, Nat.reduceBEq, Nat.reduceDiv, Nat.reduceMod, Int.reduceToNat, Int.reduceLT, Int.reduceLE, Int.reduceAdd, Int.reduceSub, Int.reduceMul, Int.reduceEq, Int.reduceNeg, reduceCtorEq, resV, resAll, ARes.ev, LV.flat, ite_true, ite_false, exists_eq_left', exists_eq_left, keyOf, implies_true, fillC, capOf]
    exact ⟨rfl, Pre.app _ _⟩
  have hl0' : ¬ ((w.length : Int) = 0) := by omega
  have hb := mul_bound hH.1.1 hH.1.2.1
  have htl := topsOf_len x y cs
  have h4 := topsOf_low4 hH
  simp (disch := omega) only [hH, hl0', ↓SXd, SXu, slBounds, ↓sop, ↓aop, ↓reduceIte, LV.cells, AOp.dst, LV.I, LV.B, LV.U, LV.S, LV.nil, Nat.reduceEqDiff, Nat.reduceAdd, Nat.reduceMul, Nat.reduceSub, Nat.reduceLeDiff, Nat.reduceBEq, Nat.reduceDiv, Nat.reduceMod, Int.reduceToNat, Int.reduceLT, Int.reduceLE, Int.reduceAdd, Int.reduceSub, Int.reduceMul, Int.reduceEq, Int.reduceNeg, reduceCtorEq, resV, resAll, ARes.ev, LV.flat, ite_true, ite_false, exists_eq_left', exists_eq_left, keyOf, implies_true, fillC, capOf]
  refine callK_of (h_l2Tops h.app hn hH) ?_
  simp (disch := omega) only [↓SXd, SXu, slBounds, ↓sop, ↓aop, ↓reduceIte, LV.cells, AOp.dst, LV.I, LV.B, LV.U, LV.S, LV.nil, Nat.reduceEqDiff, Nat.reduceAdd, Nat.reduceMul, Nat.reduceSub, Nat.reduceLeDiff, Nat.reduceBEq, Nat.reduceDiv, Nat.reduceMod, Int.reduceToNat, Int.reduceLT, Int.reduceLE, Int.reduceAdd, Int.reduceSub, Int.reduceMul, Int.reduceEq, Int.reduceNeg, reduceCtorEq, resV, resAll, ARes.ev, LV.flat, ite_true, ite_false, exists_eq_left', exists_eq_left, keyOf, implies_true, fillC, capOf]
  refine ev_loop (fun m fr M' => ∃ i : Nat, i + m = w.length ∧ Pre M M' ∧ Live M' M.length (.row [.I x, .I y, .I z, .ref t o cs.length] true 0) ∧ Live M' (M.length + 1) (.row (intL (topsOf x y cs)) true 1) ∧
    fr 1 = .ref q r w.length ∧ fr 2 = .ptr M.length 0 ∧ fr 7 = .I (gapN (along (topsOf x y cs) w) (i - 1)) ∧ fr 8 = .I (upN (along (topsOf x y cs) w) (i - 1)) ∧ fr 9 = .ref (M.length + 1) 0 (x * y).toNat ∧ fr 10 = .I i ∧
    (∀ j, j < i → 0 ≤ w.getD j 0 ∧ w.getD j 0 ≤ x * y - 1) ∧ ∀ j, j + 1 < i → w.getD (j + 1) 0 ∈ nexts x y (w.getD j 0)) w.length
    ⟨0, by omega, Pre.app _ _, Live.new, Live.newj (j := 1) rfl, rfl, rfl, rfl, rfl, rfl, rfl, by omega, by omega⟩ ?_
  rintro m fr M' ⟨i, hi, hpre, b1, b2, f1, f2, f7, f8, f9, f10, hin, hnx⟩
  simp (disch := omega) only [f1, f2, f7, f8, f9, f10, ↓SXd, SXu, slBounds, ↓sop, ↓aop, ↓reduceIte, LV.cells, AOp.dst, LV.I, LV.B, LV.U, LV.S, LV.nil, Nat.reduceEqDiff, Nat.reduceAdd, Nat.reduceMul, Nat.reduceSub, Nat.reduceLeDiff, Nat.reduceBEq, Nat.reduceDiv, Nat.reduceMod, Int.reduceToNat, Int.reduceLT, Int.reduceLE, Int.reduceAdd, Int.reduceSub, Int.reduceMul, Int.reduceEq, Int.reduceNeg, reduceCtorEq, resV, resAll, ARes.ev, LV.flat, ite_true, ite_false, exists_eq_left', exists_eq_left, keyOf, implies_true, fillC, capOf]
  refine condC_dec (fun hlt => ?_) (fun hlt => ?_)
  · have hil : i < w.length := by omega
    have hgi := Ints.get (hw.pre hpre) hil
    simp (disch := omega) only [f1, f2, f7, f8, f9, f10, b1.cells, hgi, Nat.mul_one, ↓SXd, SXu, slBounds, ↓sop, ↓aop, ↓reduceIte, LV.cells, AOp.dst, LV.I, LV.B, LV.U, LV.S, LV.nil, Nat.reduceEqDiff, Nat.reduceAdd, Nat.reduceMul, Nat.reduceSub, Nat.reduceLeDiff, Nat.reduceBEq, Nat.reduceDiv, Nat.reduceMod, Int.reduceToNat, Int.reduceLT, Int.reduceLE, Int.reduceAdd, Int.reduceSub, Int.reduceMul, Int.reduceEq, Int.reduceNeg, reduceCtorEq, resV, resAll, ARes.ev, LV.flat, ite_true, ite_false, exists_eq_left', exists_eq_left, keyOf, implies_true, fillC, capOf]
    refine callK_of (h_l10Column (h.pre hpre) hn) ?_
    simp (disch := omega) only [f1, f2, f7, f8, f9, f10, ↓SXd, SXu, slBounds, ↓sop, ↓aop, ↓reduceIte, LV.cells, AOp.dst, LV.I, LV.B, LV.U, LV.S, LV.nil, Nat.reduceEqDiff, Nat.reduceAdd, Nat.reduceMul, Nat.reduceSub, Nat.reduceLeDiff, Nat.reduceBEq, Nat.reduceDiv, Nat.reduceMod, Int.reduceToNat, Int.reduceLT, Int.reduceLE, Int.reduceAdd, Int.reduceSub, Int.reduceMul, Int.reduceEq, Int.reduceNeg, reduceCtorEq, resV, resAll, ARes.ev, LV.flat, ite_true, ite_false, exists_eq_left', exists_eq_left, keyOf, implies_true, fillC, capOf]
    by_cases hc : 0 ≤ w.getD i 0 ∧ w.getD i 0 ≤ x * y - 1
    rotate_left
    · rw [wc_no fun e => hc (e.2.2.1 i hil)]
      simp (disch := omega) only [f1, f2, f7, f8, f9, f10, hH, hc, ↓SXd, SXu, slBounds, ↓sop, ↓aop, ↓reduceIte, LV.cells, AOp.dst, LV.I, LV.B, LV.U, LV.S, LV.nil, Nat.reduceEqDiff, Nat.reduceAdd, Nat.reduceMul, Nat.reduceSub, Nat.reduceLeDiff, Nat.reduceBEq, Nat.reduceDiv, Nat.reduceMod, Int.reduceToNat, Int.reduceLT, Int.reduceLE, Int.reduceAdd, Int.reduceSub, Int.reduceMul, Int.reduceEq, Int.reduceNeg, reduceCtorEq, resV, resAll, ARes.ev, LV.flat, ite_true, ite_false, exists_eq_left', exists_eq_left, keyOf, implies_true, fillC, capOf]
      exact ⟨rfl, hpre⟩
    rw [decide_eq_true (show HeapOK x y z cs ∧ (0 ≤ w.getD i 0 ∧ w.getD i 0 ≤ x * y - 1) from ⟨hH, hc⟩)]
    by_cases h0 : i = 0
    · subst h0
      simp (disch := omega) only [f1, f2, f7, f8, f9, f10, ↓SXd, SXu, slBounds, ↓sop, ↓aop, ↓reduceIte, LV.cells, AOp.dst, LV.I, LV.B, LV.U, LV.S, LV.nil, Nat.reduceEqDiff, Nat.reduceAdd, Nat.reduceMul, Nat.reduceSub, Nat.reduceLeDiff, Nat.reduceBEq, Nat.reduceDiv, Nat.reduceMod, Int.reduceToNat, Int.reduceLT, Int.reduceLE, Int.reduceAdd, Int.reduceSub, Int.reduceMul, Int.reduceEq, Int.reduceNeg, reduceCtorEq, resV, resAll, ARes.ev, LV.flat, ite_true, ite_false, exists_eq_left', exists_eq_left, keyOf, implies_true, fillC, capOf]
      exact ⟨m - 1, by omega, 1, by omega, hpre, b1, b2, f1, f2, f7, f8, f9, rfl, fun j hj => by rw [show j = 0 by omega]; exact hc, fun j hj => by omega⟩
    · obtain ⟨k, rfl⟩ : ∃ k, i = k + 1 := ⟨i - 1, by omega⟩
      have hkl : k < w.length := by omega
      have hck := hin k (by omega)
      have hgk := Ints.get (hw.pre hpre) hkl
      have hk1 : ((k + 1 : Nat) : Int) > 0 := by omega
      have hk2 : ((k + 1 : Nat) : Int) - 1 = (k : Int) := by omega
      simp (disch := omega) only [f1, f2, f7, f8, f9, f10, hk1, hk2, b1.cells, hgi, hgk, Nat.mul_one, ↓SXd, SXu, slBounds, ↓sop, ↓aop, ↓reduceIte, LV.cells, AOp.dst, LV.I, LV.B, LV.U, LV.S, LV.nil, Nat.reduceEqDiff, Nat.reduceAdd, Nat.reduceMul, Nat.reduceSub, Nat.reduceLeDiff, Nat.reduceBEq, Nat.reduceDiv, Nat.reduceMod, Int.reduceToNat, Int.reduceLT, Int.reduceLE, Int.reduceAdd, Int.reduceSub, Int.reduceMul, Int.reduceEq, Int.reduceNeg, reduceCtorEq, resV, resAll, ARes.ev, LV.flat, ite_true, ite_false, exists_eq_left', exists_eq_left, keyOf, implies_true, fillC, capOf]
      have hnl := nexts_len (x := x) (y := y) (p := w.getD k 0) hb.2
      refine callN_of (h_l10Next hH.1 hck) ?_
      intro tn N0 htn hp0 hnx0
      simp (disch := omega) only [f1, f2, f7, f8, f9, f10, ↓SXd, SXu, slBounds, ↓sop, ↓aop, ↓reduceIte, LV.cells, AOp.dst, LV.I, LV.B, LV.U, LV.S, LV.nil, Nat.reduceEqDiff, Nat.reduceAdd, Nat.reduceMul, Nat.reduceSub, Nat.reduceLeDiff, Nat.reduceBEq, Nat.reduceDiv, Nat.reduceMod, Int.reduceToNat, Int.reduceLT, Int.reduceLE, Int.reduceAdd, Int.reduceSub, Int.reduceMul, Int.reduceEq, Int.reduceNeg, reduceCtorEq, resV, resAll, ARes.ev, LV.flat, ite_true, ite_false, exists_eq_left', exists_eq_left, keyOf, implies_true, fillC, capOf]
      have hqM := (hw.pre hpre).lt
      refine ⟨fun b hb => by rw [hp0.2 q hqM]; exact hb, ?_⟩
      refine callK_of (h_l1Has hnx0.has (by omega)) ?_
      simp (disch := omega) only [f1, f2, f7, f8, f9, f10, ↓SXd, SXu, slBounds, ↓sop, ↓aop, ↓reduceIte, LV.cells, AOp.dst, LV.I, LV.B, LV.U, LV.S, LV.nil, Nat.reduceEqDiff, Nat.reduceAdd, Nat.reduceMul, Nat.reduceSub, Nat.reduceLeDiff, Nat.reduceBEq, Nat.reduceDiv, Nat.reduceMod, Int.reduceToNat, Int.reduceLT, Int.reduceLE, Int.reduceAdd, Int.reduceSub, Int.reduceMul, Int.reduceEq, Int.reduceNeg, reduceCtorEq, resV, resAll, ARes.ev, LV.flat, ite_true, ite_false, exists_eq_left', exists_eq_left, keyOf, implies_true, fillC, capOf]
      have hpre0 := hpre.trans hp0
      by_cases hm : w.getD (k + 1) 0 ∈ nexts x y (w.getD k 0)
      rotate_left
      · rw [wc_no fun e => hm (e.2.2.2 k hil)]
        simp (disch := omega) only [f1, f2, f7, f8, f9, f10, hm, ↓SXd, SXu, slBounds, ↓sop, ↓aop, ↓reduceIte, LV.cells, AOp.dst, LV.I, LV.B, LV.U, LV.S, LV.nil, Nat.reduceEqDiff, Nat.reduceAdd, Nat.reduceMul, Nat.reduceSub, Nat.reduceLeDiff, Nat.reduceBEq, Nat.reduceDiv, Nat.reduceMod, Int.reduceToNat, Int.reduceLT, Int.reduceLE, Int.reduceAdd, Int.reduceSub, Int.reduceMul, Int.reduceEq, Int.reduceNeg, reduceCtorEq, resV, resAll, ARes.ev, LV.flat, ite_true, ite_false, exists_eq_left', exists_eq_left, keyOf, implies_true, fillC, capOf]
        exact ⟨rfl, hpre0⟩
      have c1 := b1.pre hp0
      have c2 := b2.pre hp0
      have g1 := Ints.get c2.has (k := (w.getD (k + 1) 0).toNat) (by omega)
      have g2 := Ints.get c2.has (k := (w.getD k 0).toNat) (by omega)
      have hgi0 := Ints.get (hw.pre hpre0) hil
      have hgk0 := Ints.get (hw.pre hpre0) hkl
      have a1 := h4 (w.getD (k + 1) 0).toNat
      have a2 := h4 (w.getD k 0).toNat
      have hup := upN_le (u := along (topsOf x y cs) w) (fun i => h4 _) (k + 1 - 1)
      rw [Nat.zero_add] at g1 g2
      have e1 : along (topsOf x y cs) w (k + 1) = (topsOf x y cs).getD (w.getD (k + 1) 0).toNat 0 := rfl
      have e2 : along (topsOf x y cs) w k = (topsOf x y cs).getD (w.getD k 0).toNat 0 := rfl
      have e3 : gapN (along (topsOf x y cs) w) (k + 1) = max (gapN (along (topsOf x y cs) w) k) (gap (along (topsOf x y cs) w (k + 1)) (along (topsOf x y cs) w k)) := rfl
      have e4 : upN (along (topsOf x y cs) w) (k + 1) = upN (along (topsOf x y cs) w) k + max (along (topsOf x y cs) w (k + 1) - along (topsOf x y cs) w k) 0 := rfl
      unfold gap at e3
      rw [e1, e2] at e3 e4
      rw [Nat.add_sub_cancel] at f7 f8 hup
      generalize (topsOf x y cs).getD (w.getD (k + 1) 0).toNat 0 = hA at g1 a1 e3 e4
      generalize (topsOf x y cs).getD (w.getD k 0).toNat 0 = hB at g2 a2 e3 e4
      simp (disch := omega) only [f1, f2, f7, f8, f9, f10, f7, f8, hm, hk1, hk2, hgi0, hgk0, Nat.mul_one, g1, g2, ↓SXd, SXu, slBounds, ↓sop, ↓aop, ↓reduceIte, LV.cells, AOp.dst, LV.I, LV.B, LV.U, LV.S, LV.nil, Nat.reduceEqDiff, Nat.reduceAdd, Nat.reduceMul, Nat.reduceSub, Nat.reduceLeDiff, Nat.reduceBEq, Nat.reduceDiv, Nat.reduceMod, Int.reduceToNat, Int.reduceLT, Int.reduceLE, Int.reduceAdd, Int.reduceSub, Int.reduceMul, Int.reduceEq, Int.reduceNeg, reduceCtorEq, resV, resAll, ARes.ev, LV.flat, ite_true, ite_false, exists_eq_left', exists_eq_left, keyOf, implies_true, fillC, capOf]
      refine callK_of (h_l1Most) ?_
      simp (disch := omega) only [f1, f2, f7, f8, f9, f10, f7, f8, ↓SXd, SXu, slBounds, ↓sop, ↓aop, ↓reduceIte, LV.cells, AOp.dst, LV.I, LV.B, LV.U, LV.S, LV.nil, Nat.reduceEqDiff, Nat.reduceAdd, Nat.reduceMul, Nat.reduceSub, Nat.reduceLeDiff, Nat.reduceBEq, Nat.reduceDiv, Nat.reduceMod, Int.reduceToNat, Int.reduceLT, Int.reduceLE, Int.reduceAdd, Int.reduceSub, Int.reduceMul, Int.reduceEq, Int.reduceNeg, reduceCtorEq, resV, resAll, ARes.ev, LV.flat, ite_true, ite_false, exists_eq_left', exists_eq_left, keyOf, implies_true, fillC, capOf]
      refine callK_of (h_l1Most) ?_
      simp (disch := omega) only [f1, f2, f7, f8, f9, f10, f7, f8, ↓SXd, SXu, slBounds, ↓sop, ↓aop, ↓reduceIte, LV.cells, AOp.dst, LV.I, LV.B, LV.U, LV.S, LV.nil, Nat.reduceEqDiff, Nat.reduceAdd, Nat.reduceMul, Nat.reduceSub, Nat.reduceLeDiff, Nat.reduceBEq, Nat.reduceDiv, Nat.reduceMod, Int.reduceToNat, Int.reduceLT, Int.reduceLE, Int.reduceAdd, Int.reduceSub, Int.reduceMul, Int.reduceEq, Int.reduceNeg, reduceCtorEq, resV, resAll, ARes.ev, LV.flat, ite_true, ite_false, exists_eq_left', exists_eq_left, keyOf, implies_true, fillC, capOf]
      refine callK_of (h_l1Most) ?_
      simp (disch := omega) only [f1, f2, f7, f8, f9, f10, f7, f8, ↓SXd, SXu, slBounds, ↓sop, ↓aop, ↓reduceIte, LV.cells, AOp.dst, LV.I, LV.B, LV.U, LV.S, LV.nil, Nat.reduceEqDiff, Nat.reduceAdd, Nat.reduceMul, Nat.reduceSub, Nat.reduceLeDiff, Nat.reduceBEq, Nat.reduceDiv, Nat.reduceMod, Int.reduceToNat, Int.reduceLT, Int.reduceLE, Int.reduceAdd, Int.reduceSub, Int.reduceMul, Int.reduceEq, Int.reduceNeg, reduceCtorEq, resV, resAll, ARes.ev, LV.flat, ite_true, ite_false, exists_eq_left', exists_eq_left, keyOf, implies_true, fillC, capOf]
      refine ⟨m - 1, by omega, k + 1 + 1, by omega, hpre0, c1, c2, f1, f2, eqI ?_, eqI ?_, f9, eqI (natI _), fun j hj => ?_, fun j hj => ?_⟩
      · rw [Nat.add_sub_cancel]; omega
      · rw [Nat.add_sub_cancel]; omega
      · rcases Nat.lt_or_ge j (k + 1) with h1 | h1
        · exact hin j h1
        · rw [show j = k + 1 by omega]; exact hc
      · rcases Nat.lt_or_ge (j + 1) (k + 1) with h1 | h1
        · exact hnx j h1
        · rw [show j = k by omega]; exact hm
  · have hil : i = w.length := by omega
    subst hil
    rw [wc_ok ⟨hH, by omega, hin, hnx⟩]
    simp (disch := omega) only [f1, f2, f7, f8, f9, f10, ↓SXd, SXu, slBounds, ↓sop, ↓aop, ↓reduceIte, LV.cells, AOp.dst, LV.I, LV.B, LV.U, LV.S, LV.nil, Nat.reduceEqDiff, Nat.reduceAdd, Nat.reduceMul, Nat.reduceSub, Nat.reduceLeDiff, Nat.reduceBEq, Nat.reduceDiv, Nat.reduceMod, Int.reduceToNat, Int.reduceLT, Int.reduceLE, Int.reduceAdd, Int.reduceSub, Int.reduceMul, Int.reduceEq, Int.reduceNeg, reduceCtorEq, resV, resAll, ARes.ev, LV.flat, ite_true, ite_false, exists_eq_left', exists_eq_left, keyOf, implies_true, fillC, capOf]
    exact ⟨rfl, hpre⟩
theorem g_WalkClimb : CallsR PG F.impl_WalkClimb [.agg [.I x, .I y, .I z, .ref t o cs.length], .ref q r w.length] M (WcRes M (wcOf x y z cs w)) := by
  have hwlt := hw.lt
  refine callsR_run K.impl_WalkClimb rfl ?_
  simp (disch := omega) only [C.impl_WalkClimb, ↓SXd, SXu, slBounds, ↓sop, ↓aop, ↓reduceIte, LV.cells, AOp.dst, LV.I, LV.B, LV.U, LV.S, LV.nil, Nat.reduceEqDiff, Nat.reduceAdd, Nat.reduceMul, Nat.reduceSub, Nat.reduceLeDiff, Nat.reduceBEq, Nat.reduceDiv, Nat.reduceMod, Int.reduceToNat, Int.reduceLT, Int.reduceLE, Int.reduceAdd, Int.reduceSub, Int.reduceMul, Int.reduceEq, Int.reduceNeg, reduceCtorEq, resV, resAll, ARes.ev, LV.flat, ite_true, ite_false, exists_eq_left', exists_eq_left, keyOf, implies_true, fillC, capOf]
  refine callK_of (g_isTop h.app hn (Has.app hw) (by omega)) ?_
  simp (disch := omega) only [↓SXd, SXu, slBounds, ↓sop, ↓aop, ↓reduceIte, LV.cells, AOp.dst, LV.I, LV.B, LV.U, LV.S, LV.nil, Nat.reduceEqDiff, Nat.reduceAdd, Nat.reduceMul, Nat.reduceSub, Nat.reduceLeDiff, Nat.reduceBEq, Nat.reduceDiv, Nat.reduceMod, Int.reduceToNat, Int.reduceLT, Int.reduceLE, Int.reduceAdd, Int.reduceSub, Int.reduceMul, Int.reduceEq, Int.reduceNeg, reduceCtorEq, resV, resAll, ARes.ev, LV.flat, ite_true, ite_false, exists_eq_left', exists_eq_left, keyOf, implies_true, fillC, capOf]
  by_cases hH : HeapOK x y z cs ∧ ∀ i, i < w.length → 0 ≤ w.getD i 0 ∧ w.getD i 0 ≤ x * y - 1
  rotate_left
  · rw [wc_no fun e => hH ⟨e.1, e.2.2.1⟩, decide_eq_false hH]
    simp (disch := omega) only [↓SXd, SXu, slBounds, ↓sop, ↓aop, ↓reduceIte, LV.cells, AOp.dst, LV.I, LV.B, LV.U, LV.S, LV.nil, Nat.reduceEqDiff, Nat.reduceAdd, Nat.reduceMul, Nat.reduceSub, Nat.reduceLeDiff, Nat.reduceBEq, Nat.reduceDiv, Nat.reduceMod, Int.reduceToNat, Int.reduceLT, Int.reduceLE, Int.reduceAdd, Int.reduceSub, Int.reduceMul, Int.reduceEq, Int.reduceNeg, reduceCtorEq, resV, resAll, ARes.ev, LV.flat, ite_true, ite_false, exists_eq_left', exists_eq_left, keyOf, implies_true, fillC, capOf]
    exact ⟨rfl, Pre.app _ _⟩
  rw [decide_eq_true hH]
  obtain ⟨hH, hin⟩ := hH
  by_cases hl0 : w.length = 0
  · rw [wc_no fun e => by have := e.2.1; omega]
    simp (disch := omega) only [hl0, ↓SXd, SXu, slBounds, ↓sop, ↓aop, ↓reduceIte, LV.cells, AOp.dst, LV.I, LV.B, LV.U, LV.S, LV.nil, Nat.reduceEqDiff, Nat.reduceAdd, Nat.reduceMul, Nat.reduceSub, Nat.reduceLeDiff, Nat.reduceBEq, Nat.reduceDiv, Nat.reduceMod, Int.reduceToNat, Int.reduceLT, Int.reduceLE, Int.reduceAdd, Int.reduceSub, Int.reduceMul, Int.reduceEq, Int.reduceNeg, reduceCtorEq, resV, resAll, ARes.ev, LV.flat, ite_true, ite_false, exists_eq_left', exists_eq_left, keyOf, implies_true, fillC, capOf]
    exact ⟨rfl, Pre.app _ _⟩
  have hl0' : ¬ ((w.length : Int) = 0) := by omega
  have hb := mul_bound hH.1.1 hH.1.2.1
  have htl := topsOf_len x y cs
  have h4 := topsOf_low4 hH
  simp (disch := omega) only [hl0', ↓SXd, SXu, slBounds, ↓sop, ↓aop, ↓reduceIte, LV.cells, AOp.dst, LV.I, LV.B, LV.U, LV.S, LV.nil, Nat.reduceEqDiff, Nat.reduceAdd, Nat.reduceMul, Nat.reduceSub, Nat.reduceLeDiff, Nat.reduceBEq, Nat.reduceDiv, Nat.reduceMod, Int.reduceToNat, Int.reduceLT, Int.reduceLE, Int.reduceAdd, Int.reduceSub, Int.reduceMul, Int.reduceEq, Int.reduceNeg, reduceCtorEq, resV, resAll, ARes.ev, LV.flat, ite_true, ite_false, exists_eq_left', exists_eq_left, keyOf, implies_true, fillC, capOf]
  refine callK_of (g_top h.app hn hH) ?_
  simp (disch := omega) only [splice, ↓SXd, SXu, slBounds, ↓sop, ↓aop, ↓reduceIte, LV.cells, AOp.dst, LV.I, LV.B, LV.U, LV.S, LV.nil, Nat.reduceEqDiff, Nat.reduceAdd, Nat.reduceMul, Nat.reduceSub, Nat.reduceLeDiff, Nat.reduceBEq, Nat.reduceDiv, Nat.reduceMod, Int.reduceToNat, Int.reduceLT, Int.reduceLE, Int.reduceAdd, Int.reduceSub, Int.reduceMul, Int.reduceEq, Int.reduceNeg, reduceCtorEq, resV, resAll, ARes.ev, LV.flat, ite_true, ite_false, exists_eq_left', exists_eq_left, keyOf, implies_true, fillC, capOf]
  refine ev_loop (fun m fr M' => ∃ i : Nat, 1 ≤ i ∧ i + m = w.length ∧ Pre M M' ∧ Live M' (M.length + 1) (.row (intL (topsOf x y cs)) true 1) ∧ Live M' (M.length + 2) (.row [.ref (M.length + 1) 0 (x * y).toNat, .I y] true 0) ∧
    fr 1 = .ref q r w.length ∧ fr 7 = .ptr (M.length + 2) 0 ∧ fr 8 = .I (gapN (along (topsOf x y cs) w) (i - 1)) ∧ fr 9 = .I (upN (along (topsOf x y cs) w) (i - 1)) ∧ fr 10 = .I i ∧
    ∀ j, j + 1 < i → w.getD (j + 1) 0 ∈ nexts x y (w.getD j 0)) (w.length - 1)
    ⟨1, by omega, by omega, Pre.app _ _, Live.newj (j := 1) rfl, Live.newj (j := 2) rfl, rfl, rfl, rfl, rfl, rfl, by omega⟩ ?_
  rintro m fr M' ⟨i, hi1, hi, hpre, b2, b3, f1, f7, f8, f9, f10, hnx⟩
  obtain ⟨k, rfl⟩ : ∃ k, i = k + 1 := ⟨i - 1, by omega⟩
  simp (disch := omega) only [f1, f7, f8, f9, f10, ↓SXd, SXu, slBounds, ↓sop, ↓aop, ↓reduceIte, LV.cells, AOp.dst, LV.I, LV.B, LV.U, LV.S, LV.nil, Nat.reduceEqDiff, Nat.reduceAdd, Nat.reduceMul, Nat.reduceSub, Nat.reduceLeDiff, Nat.reduceBEq, Nat.reduceDiv, Nat.reduceMod, Int.reduceToNat, Int.reduceLT, Int.reduceLE, Int.reduceAdd, Int.reduceSub, Int.reduceMul, Int.reduceEq, Int.reduceNeg, reduceCtorEq, resV, resAll, ARes.ev, LV.flat, ite_true, ite_false, exists_eq_left', exists_eq_left, keyOf, implies_true, fillC, capOf]
  refine condC_dec (fun hlt => ?_) (fun hlt => ?_)
  · have hil : k + 1 < w.length := by omega
    have hkl : k < w.length := by omega
    have hck := hin k (by omega)
    have hc := hin (k + 1) (by omega)
    have hgi := Ints.get (hw.pre hpre) hil
    have hgk := Ints.get (hw.pre hpre) hkl
    have hk2 : ((k + 1 : Nat) : Int) - 1 = (k : Int) := by omega
    have hne : nearL y (x * y) (w.getD k 0) = nexts x y (w.getD k 0) := near_eq hH.1.1 hH.1.2.1 (by omega)
    have hnear := g_near (t := M.length + 1) (o := 0) (y := y) (p := w.getD k 0) (c := x * y) (n := (x * y).toNat) (M := M') hH.1.2.1 (by omega) (by omega) (by omega)
    rw [hne] at hnear
    have hnl := nexts_len (x := x) (y := y) (p := w.getD k 0) hb.2
    simp (disch := omega) only [f1, f7, f8, f9, f10, hk2, hgi, hgk, Nat.mul_one, b3.cells, ↓SXd, SXu, slBounds, ↓sop, ↓aop, ↓reduceIte, LV.cells, AOp.dst, LV.I, LV.B, LV.U, LV.S, LV.nil, Nat.reduceEqDiff, Nat.reduceAdd, Nat.reduceMul, Nat.reduceSub, Nat.reduceLeDiff, Nat.reduceBEq, Nat.reduceDiv, Nat.reduceMod, Int.reduceToNat, Int.reduceLT, Int.reduceLE, Int.reduceAdd, Int.reduceSub, Int.reduceMul, Int.reduceEq, Int.reduceNeg, reduceCtorEq, resV, resAll, ARes.ev, LV.flat, ite_true, ite_false, exists_eq_left', exists_eq_left, keyOf, implies_true, fillC, capOf]
    refine callN_of (hnear) ?_
    intro tn N0 htn hp0 hnx0
    simp (disch := omega) only [f1, f7, f8, f9, f10, ↓SXd, SXu, slBounds, ↓sop, ↓aop, ↓reduceIte, LV.cells, AOp.dst, LV.I, LV.B, LV.U, LV.S, LV.nil, Nat.reduceEqDiff, Nat.reduceAdd, Nat.reduceMul, Nat.reduceSub, Nat.reduceLeDiff, Nat.reduceBEq, Nat.reduceDiv, Nat.reduceMod, Int.reduceToNat, Int.reduceLT, Int.reduceLE, Int.reduceAdd, Int.reduceSub, Int.reduceMul, Int.reduceEq, Int.reduceNeg, reduceCtorEq, resV, resAll, ARes.ev, LV.flat, ite_true, ite_false, exists_eq_left', exists_eq_left, keyOf, implies_true, fillC, capOf]
    refine callK_of (g_Contains hnx0.has (by omega)) ?_
    simp (disch := omega) only [f1, f7, f8, f9, f10, ↓SXd, SXu, slBounds, ↓sop, ↓aop, ↓reduceIte, LV.cells, AOp.dst, LV.I, LV.B, LV.U, LV.S, LV.nil, Nat.reduceEqDiff, Nat.reduceAdd, Nat.reduceMul, Nat.reduceSub, Nat.reduceLeDiff, Nat.reduceBEq, Nat.reduceDiv, Nat.reduceMod, Int.reduceToNat, Int.reduceLT, Int.reduceLE, Int.reduceAdd, Int.reduceSub, Int.reduceMul, Int.reduceEq, Int.reduceNeg, reduceCtorEq, resV, resAll, ARes.ev, LV.flat, ite_true, ite_false, exists_eq_left', exists_eq_left, keyOf, implies_true, fillC, capOf]
    have hpre0 := hpre.trans hp0
    by_cases hm : w.getD (k + 1) 0 ∈ nexts x y (w.getD k 0)
    rotate_left
    · rw [wc_no fun e => hm (e.2.2.2 k hil)]
      simp (disch := omega) only [f1, f7, f8, f9, f10, hm, ↓SXd, SXu, slBounds, ↓sop, ↓aop, ↓reduceIte, LV.cells, AOp.dst, LV.I, LV.B, LV.U, LV.S, LV.nil, Nat.reduceEqDiff, Nat.reduceAdd, Nat.reduceMul, Nat.reduceSub, Nat.reduceLeDiff, Nat.reduceBEq, Nat.reduceDiv, Nat.reduceMod, Int.reduceToNat, Int.reduceLT, Int.reduceLE, Int.reduceAdd, Int.reduceSub, Int.reduceMul, Int.reduceEq, Int.reduceNeg, reduceCtorEq, resV, resAll, ARes.ev, LV.flat, ite_true, ite_false, exists_eq_left', exists_eq_left, keyOf, implies_true, fillC, capOf]
      exact ⟨rfl, hpre0⟩
    have c2 := b2.pre hp0
    have c3 := b3.pre hp0
    have g1 := Ints.get c2.has (k := (w.getD (k + 1) 0).toNat) (by omega)
    have g2 := Ints.get c2.has (k := (w.getD k 0).toNat) (by omega)
    have a1 := h4 (w.getD (k + 1) 0).toNat
    have a2 := h4 (w.getD k 0).toNat
    have hup := upN_le (u := along (topsOf x y cs) w) (fun i => h4 _) (k + 1 - 1)
    have hap := g_apart (v := .I y) (p := w.getD k 0) (q := w.getD (k + 1) 0) c2.has (topsOf_low hH) (by omega) (by omega)
    rw [htl, gap_comm] at hap
    rw [Nat.zero_add] at g1 g2
    have e1 : along (topsOf x y cs) w (k + 1) = (topsOf x y cs).getD (w.getD (k + 1) 0).toNat 0 := rfl
    have e2 : along (topsOf x y cs) w k = (topsOf x y cs).getD (w.getD k 0).toNat 0 := rfl
    have e3 : gapN (along (topsOf x y cs) w) (k + 1) = max (gapN (along (topsOf x y cs) w) k) (gap (along (topsOf x y cs) w (k + 1)) (along (topsOf x y cs) w k)) := rfl
    have e4 : upN (along (topsOf x y cs) w) (k + 1) = upN (along (topsOf x y cs) w) k + max (along (topsOf x y cs) w (k + 1) - along (topsOf x y cs) w k) 0 := rfl
    rw [e1, e2] at e3 e4
    rw [Nat.add_sub_cancel] at f8 f9 hup
    generalize (topsOf x y cs).getD (w.getD (k + 1) 0).toNat 0 = hA at g1 a1 e3 e4 hap
    generalize (topsOf x y cs).getD (w.getD k 0).toNat 0 = hB at g2 a2 e3 e4 hap
    simp (disch := omega) only [f1, f7, f8, f9, f10, f8, f9, hm, c3.cell, c3.cells, g1, g2, Nat.mul_one, maxV, if_true, ite_true, ↓SXd, SXu, slBounds, ↓sop, ↓aop, ↓reduceIte, LV.cells, AOp.dst, LV.I, LV.B, LV.U, LV.S, LV.nil, Nat.reduceEqDiff, Nat.reduceAdd, Nat.reduceMul, Nat.reduceSub, Nat.reduceLeDiff, Nat.reduceBEq, Nat.reduceDiv, Nat.reduceMod, Int.reduceToNat, Int.reduceLT, Int.reduceLE, Int.reduceAdd, Int.reduceSub, Int.reduceMul, Int.reduceEq, Int.reduceNeg, reduceCtorEq, resV, resAll, ARes.ev, LV.flat, ite_true, ite_false, exists_eq_left', exists_eq_left, keyOf, implies_true, fillC, capOf]
    refine callK_of hap ?_
    simp (disch := omega) only [f1, f7, f8, f9, f10, f8, f9, maxV, if_true, ite_true, ↓SXd, SXu, slBounds, ↓sop, ↓aop, ↓reduceIte, LV.cells, AOp.dst, LV.I, LV.B, LV.U, LV.S, LV.nil, Nat.reduceEqDiff, Nat.reduceAdd, Nat.reduceMul, Nat.reduceSub, Nat.reduceLeDiff, Nat.reduceBEq, Nat.reduceDiv, Nat.reduceMod, Int.reduceToNat, Int.reduceLT, Int.reduceLE, Int.reduceAdd, Int.reduceSub, Int.reduceMul, Int.reduceEq, Int.reduceNeg, reduceCtorEq, resV, resAll, ARes.ev, LV.flat, ite_true, ite_false, exists_eq_left', exists_eq_left, keyOf, implies_true, fillC, capOf]
    refine ⟨m - 1, by omega, k + 1 + 1, by omega, by omega, hpre0, c2, c3, f1, f7, eqI ?_, eqI ?_, eqI (natI _), fun j hj => ?_⟩
    · rw [Nat.add_sub_cancel]; omega
    · rw [Nat.add_sub_cancel]; omega
    · rcases Nat.lt_or_ge (j + 1) (k + 1) with h1 | h1
      · exact hnx j h1
      · rw [show j = k by omega]; exact hm
  · have hil : k + 1 = w.length := by omega
    rw [wc_ok ⟨hH, by omega, hin, fun j hj => hnx j (by omega)⟩]
    simp (disch := omega) only [f1, f7, f8, f9, f10, ↓SXd, SXu, slBounds, ↓sop, ↓aop, ↓reduceIte, LV.cells, AOp.dst, LV.I, LV.B, LV.U, LV.S, LV.nil, Nat.reduceEqDiff, Nat.reduceAdd, Nat.reduceMul, Nat.reduceSub, Nat.reduceLeDiff, Nat.reduceBEq, Nat.reduceDiv, Nat.reduceMod, Int.reduceToNat, Int.reduceLT, Int.reduceLE, Int.reduceAdd, Int.reduceSub, Int.reduceMul, Int.reduceEq, Int.reduceNeg, reduceCtorEq, resV, resAll, ARes.ev, LV.flat, ite_true, ite_false, exists_eq_left', exists_eq_left, keyOf, implies_true, fillC, capOf]
    rw [← hil]
    exact ⟨rfl, hpre⟩
end
end Go.Ab

/- The abstract code of some functions (written by a program of mine from the translation, by way of prepF). -/
namespace Go.Ab.C
open Go.Ab
def spec_DrawWalkClimb : AFn :=
  ⟨1, 66, [.cellN 2 4, .tmp 3],
    .seq (.ops [(none, .alloc 2 [(.I 0), (.I 0), (.I 0), .nil]),
       (none, .mv 3 (.c .nil))])
    (.seq (.ops [(none, .mv 10 (.t 0)),
        (none, .build 11 [.nil, (.I 0), (.U 0)] [(0, 1, (.t 10))]),
        (none, .box 12 (.t 11)),
        (none, .mv 4 (.t 12))])
     (.seq (.ops [(none, .mv 13 (.t 4)),
         (none, .call (some 14) F.spec_l1Cur_heap [(.t 13)]),
         (none, .alloc 5 [(.I 0), (.I 0), (.I 0), .nil]),
         (none, .store 4 (.t 5) (.t 14))])
      (.seq (.ops [(none, .mv 15 (.t 4)),
          (none, .loadN 16 4 (.t 5)),
          (none, .call (some 17) F.spec_l1Cur_columnOf [(.t 15), (.t 16)]),
          (none, .buildSl 18 1 1 [(.I 0)] [(0, 1, (.t 17))]),
          (none, .mv 6 (.t 18))])
       (.seq (.seq (.ops [(none, .mv 19 (.t 4)),
            (none, .buildSl 20 5 1 [(.I 0), (.I 0), (.I 0), (.I 0), (.I 0)] [(0, 1, (.c (.I 3))), (1, 1, (.c (.I 5))), (2, 1, (.c (.I 1))), (3, 1, (.c (.I 0))), (4, 1, (.c (.I 8)))]),
            (none, .call (some 21) F.spec_l1Cur_among [(.t 19), (.t 20)]),
            (none, .mv 7 (.t 21))])
         (.block 0 (.loop (.seq (.seq (.ops [(none, .mv 22 (.t 7)),
                (none, .bin 23 .gtr (.t 22) (.c (.I 0)))])
             (.cond (.t 23) (.skip)
              (.exit 0)))
            (.seq (.block 1 (.seq (.ops [(none, .mv 26 (.t 6)),
                  (none, .mv 27 (.t 6)),
                  (none, .len 28 (.t 27)),
                  (none, .bin 29 .sub (.t 28) (.c (.I 1))),
                  (none, .idxS 30 1 (.t 26) (.t 29)),
                  (none, .load1 31 (.t 30)),
                  (none, .mv 8 (.t 31))])
               (.seq (.ops [(none, .loadN 32 4 (.t 5)),
                   (none, .mv 33 (.t 8)),
                   (none, .call (some 34) F.spec_l10Column [(.t 32), (.t 33)])])
                (.cond (.t 34) (.seq (.ops [(none, .loadN 35 4 (.t 5)),
                     (none, .mv 36 (.t 8)),
                     (none, .call (some 37) F.spec_l10Next [(.t 35), (.t 36)]),
                     (none, .mv 9 (.t 37))])
                  (.seq (.ops [(none, .mv 38 (.t 9)),
                      (none, .len 39 (.t 38)),
                      (none, .bin 40 .gtr (.t 39) (.c (.I 0)))])
                   (.cond (.t 40) (.ops [(none, .mv 41 (.t 6)),
                       (none, .mv 42 (.t 9)),
                       (none, .mv 43 (.t 4)),
                       (none, .mv 44 (.t 9)),
                       (none, .len 45 (.t 44)),
                       (none, .call (some 46) F.spec_l1Cur_pick [(.t 43), (.t 45)]),
                       (none, .idxS 47 1 (.t 42) (.t 46)),
                       (none, .load1 48 (.t 47)),
                       (none, .buildSl 49 1 1 [(.I 0)] [(0, 1, (.t 48))]),
                       (none, .append 50 1 8 (.t 41) (.t 49)),
                       (none, .mv 6 (.t 50))])
                    (.skip))))
                 (.skip)))))
             (.ops [(none, .mv 24 (.t 7)),
                (none, .bin 25 .sub (.t 24) (.c (.I 1))),
                (none, .mv 7 (.t 25))]))))))
        (.seq (.seq (.ops [(none, .mv 51 (.t 4)),
             (none, .call (some 52) F.spec_l1Cur_pick [(.t 51), (.c (.I 24))])])
          (.block 2 (.seq (.ops [(none, .bin 54 .eql (.t 52) (.c (.I 0))),
               (none, .mv 53 (.t 54))])
            (.cond (.t 53) (.ops [(none, .mv 55 (.t 6)),
                (none, .mv 56 (.t 4)),
                (none, .loadN 57 4 (.t 5)),
                (none, .call (some 58) F.spec_l1Cur_columnOf [(.t 56), (.t 57)]),
                (none, .buildSl 59 1 1 [(.I 0)] [(0, 1, (.t 58))]),
                (none, .append 60 1 8 (.t 55) (.t 59)),
                (none, .mv 6 (.t 60))])
             (.seq (.ops [(none, .bin 62 .eql (.t 52) (.c (.I 1))),
                 (none, .mv 61 (.t 62))])
              (.cond (.t 61) (.ops [(none, .buildSl 63 0 1 [] []),
                  (none, .mv 6 (.t 63))])
               (.skip)))))))
         (.seq (.ops [(none, .loadN 64 4 (.t 5)),
             (none, .mv 65 (.t 6)),
             (none, .store 4 (.t 2) (.t 64)),
             (none, .mv 3 (.t 65))])
          (.ret)))))))⟩
end Go.Ab.C

/- That the program has this code. -/
namespace Go.Ab.K
open Go Go.Ab
theorem spec_DrawWalkClimb : prepF Go.Proofs.Try.prog F.spec_DrawWalkClimb = some C.spec_DrawWalkClimb := by kernel_rfl
end Go.Ab.K

/- The abstract code of some functions (written by a program of mine from the translation, by way of prepF). -/
namespace Go.Ab.C
open Go.Ab
def spec_l2Fit : AFn :=
  ⟨1, 6, [.tmp 2],
    .seq (.ops [(none, .mv 2 (.c (.I 0)))])
    (.seq (.ops [(none, .mv 3 (.t 0)),
        (none, .call (some 4) F.spec_l1Least [(.t 3), (.c (.I 4))]),
        (none, .call (some 5) F.spec_l1Most [(.c (.I 1)), (.t 4)]),
        (none, .mv 2 (.t 5))])
     (.ret))⟩
def spec_l1Cur_columnOf : AFn :=
  ⟨2, 24, [.tmp 4],
    .seq (.ops [(none, .box 3 (.t 1)),
       (none, .mv 4 (.c (.I 0)))])
    (.seq (.seq (.ops [(none, .mv 5 (.t 0)),
         (none, .call (some 6) F.spec_l1Cur_one [(.t 5), (.c (.I 30))])])
      (.cond (.t 6) (.seq (.ops [(none, .mv 7 (.t 0)),
           (none, .fieldAddr 8 (.t 3) 0),
           (none, .load1 9 (.t 8)),
           (none, .fieldAddr 10 (.t 3) 1),
           (none, .load1 11 (.t 10)),
           (none, .bin 12 .mul (.t 9) (.t 11)),
           (none, .buildSl 13 4 1 [(.I 0), (.I 0), (.I 0), (.I 0)] [(0, 1, (.c (.I (-1)))), (1, 1, (.t 12)), (2, 1, (.c (.I 16))), (3, 1, (.c (.I 4611686018427387904)))]),
           (none, .call (some 14) F.spec_l1Cur_among [(.t 7), (.t 13)]),
           (none, .mv 4 (.t 14))])
        (.ret))
       (.skip)))
     (.seq (.draw [⟨(none, .mv 15 (.t 0)), [], []⟩,
         ⟨(none, .fieldAddr 16 (.t 3) 0), [], []⟩,
         ⟨(none, .load1 17 (.t 16)), [], []⟩,
         ⟨(none, .fieldAddr 19 (.t 3) 1), [], []⟩,
         ⟨(none, .load1 20 (.t 19)), [], []⟩,
         ⟨(none, .call (some 18) F.spec_l2Fit [(.t 17)]), [], [0, 3, 4]⟩,
         ⟨(none, .call (some 21) F.spec_l2Fit [(.t 20)]), [], [0]⟩,
         ⟨(none, .bin 22 .mul (.t 18) (.t 21)), [], []⟩,
         ⟨(none, .call (some 23) F.spec_l1Cur_pick [(.t 15), (.t 22)]), [], []⟩,
         ⟨(none, .mv 4 (.t 23)), [], []⟩])
      (.ret)))⟩
def spec_l1Cur_reach : AFn :=
  ⟨1, 6, [.tmp 2],
    .seq (.ops [(none, .mv 2 (.c (.I 0)))])
    (.seq (.ops [(none, .mv 3 (.t 0)),
        (none, .buildSl 4 8 1 [(.I 0), (.I 0), (.I 0), (.I 0), (.I 0), (.I 0), (.I 0), (.I 0)] [(0, 1, (.c (.I 1))), (1, 1, (.c (.I 0))), (2, 1, (.c (.I 2))), (3, 1, (.c (.I 1))), (4, 1, (.c (.I 3))), (5, 1, (.c (.I 4))), (6, 1, (.c (.I 4611686018427387904))), (7, 1, (.c (.I (-1))))]),
        (none, .call (some 5) F.spec_l1Cur_among [(.t 3), (.t 4)]),
        (none, .mv 2 (.t 5))])
     (.ret))⟩
def spec_DrawTopDistance : AFn :=
  ⟨1, 22, [.cellN 2 4, .tmp 3, .tmp 4, .tmp 5],
    .seq (.ops [(none, .alloc 2 [(.I 0), (.I 0), (.I 0), .nil]),
       (none, .mv 3 (.c (.I 0))),
       (none, .mv 4 (.c (.I 0))),
       (none, .mv 5 (.c (.I 0)))])
    (.seq (.ops [(none, .mv 8 (.t 0)),
        (none, .build 9 [.nil, (.I 0), (.U 0)] [(0, 1, (.t 8))]),
        (none, .box 10 (.t 9)),
        (none, .mv 6 (.t 10))])
     (.seq (.ops [(none, .mv 11 (.t 6)),
         (none, .call (some 12) F.spec_l1Cur_heap [(.t 11)]),
         (none, .alloc 7 [(.I 0), (.I 0), (.I 0), .nil]),
         (none, .store 4 (.t 7) (.t 12))])
      (.seq (.draw [⟨(none, .loadN 13 4 (.t 7)), [], []⟩,
          ⟨(none, .mv 14 (.t 6)), [], []⟩,
          ⟨(none, .loadN 15 4 (.t 7)), [], []⟩,
          ⟨(none, .mv 17 (.t 6)), [], []⟩,
          ⟨(none, .loadN 18 4 (.t 7)), [], []⟩,
          ⟨(none, .mv 20 (.t 6)), [], []⟩,
          ⟨(none, .call (some 16) F.spec_l1Cur_columnOf [(.t 14), (.t 15)]), [], [0, 3, 4, 5]⟩,
          ⟨(none, .call (some 19) F.spec_l1Cur_columnOf [(.t 17), (.t 18)]), [], [0, 5]⟩,
          ⟨(none, .call (some 21) F.spec_l1Cur_reach [(.t 20)]), [], [0]⟩,
          ⟨(none, .store 4 (.t 2) (.t 13)), [], []⟩,
          ⟨(none, .mv 3 (.t 16)), [], []⟩,
          ⟨(none, .mv 4 (.t 19)), [], []⟩,
          ⟨(none, .mv 5 (.t 21)), [], []⟩])
       (.ret))))⟩
def spec_DrawFirstTopWalk : AFn :=
  ⟨1, 12, [.cellN 2 4, .tmp 3, .tmp 4, .tmp 5],
    .seq (.ops [(none, .alloc 2 [(.I 0), (.I 0), (.I 0), .nil]),
       (none, .mv 3 (.c (.I 0))),
       (none, .mv 4 (.c (.I 0))),
       (none, .mv 5 (.c (.I 0)))])
    (.seq (.ops [(none, .mv 6 (.t 0)),
        (none, .call (some 7) F.spec_DrawTopDistance [(.t 6)]),
        (none, .extract 8 (.t 7) 0),
        (none, .extract 9 (.t 7) 1),
        (none, .extract 10 (.t 7) 2),
        (none, .extract 11 (.t 7) 3),
        (none, .store 4 (.t 2) (.t 8)),
        (none, .mv 3 (.t 9)),
        (none, .mv 4 (.t 10)),
        (none, .mv 5 (.t 11))])
     (.ret))⟩
def spec_DrawStepColumns : AFn :=
  ⟨1, 18, [.cellN 2 4, .tmp 3, .tmp 4],
    .seq (.ops [(none, .alloc 2 [(.I 0), (.I 0), (.I 0), .nil]),
       (none, .mv 3 (.c (.I 0))),
       (none, .mv 4 (.c (.I 0)))])
    (.seq (.ops [(none, .mv 7 (.t 0)),
        (none, .build 8 [.nil, (.I 0), (.U 0)] [(0, 1, (.t 7))]),
        (none, .box 9 (.t 8)),
        (none, .mv 5 (.t 9))])
     (.seq (.ops [(none, .mv 10 (.t 5)),
         (none, .call (some 11) F.spec_l1Cur_heap [(.t 10)]),
         (none, .alloc 6 [(.I 0), (.I 0), (.I 0), .nil]),
         (none, .store 4 (.t 6) (.t 11))])
      (.seq (.draw [⟨(none, .loadN 12 4 (.t 6)), [], []⟩,
          ⟨(none, .mv 13 (.t 5)), [], []⟩,
          ⟨(none, .loadN 14 4 (.t 6)), [], []⟩,
          ⟨(none, .mv 16 (.t 5)), [], []⟩,
          ⟨(none, .call (some 15) F.spec_l1Cur_columnOf [(.t 13), (.t 14)]), [], [0, 3]⟩,
          ⟨(none, .call (some 17) F.spec_l1Cur_reach [(.t 16)]), [], [0]⟩,
          ⟨(none, .store 4 (.t 2) (.t 12)), [], []⟩,
          ⟨(none, .mv 3 (.t 15)), [], []⟩,
          ⟨(none, .mv 4 (.t 17)), [], []⟩])
       (.ret))))⟩
def spec_DrawTopRegion : AFn :=
  ⟨1, 10, [.cellN 2 4, .tmp 3, .tmp 4],
    .seq (.ops [(none, .alloc 2 [(.I 0), (.I 0), (.I 0), .nil]),
       (none, .mv 3 (.c (.I 0))),
       (none, .mv 4 (.c (.I 0)))])
    (.seq (.ops [(none, .mv 5 (.t 0)),
        (none, .call (some 6) F.spec_DrawStepColumns [(.t 5)]),
        (none, .extract 7 (.t 6) 0),
        (none, .extract 8 (.t 6) 1),
        (none, .extract 9 (.t 6) 2),
        (none, .store 4 (.t 2) (.t 7)),
        (none, .mv 3 (.t 8)),
        (none, .mv 4 (.t 9))])
     (.ret))⟩
def spec_DrawCountRegions : AFn :=
  ⟨1, 12, [.cellN 2 4, .tmp 3],
    .seq (.ops [(none, .alloc 2 [(.I 0), (.I 0), (.I 0), .nil]),
       (none, .mv 3 (.c (.I 0)))])
    (.seq (.ops [(none, .mv 5 (.t 0)),
        (none, .build 6 [.nil, (.I 0), (.U 0)] [(0, 1, (.t 5))]),
        (none, .box 7 (.t 6)),
        (none, .mv 4 (.t 7))])
     (.seq (.ops [(none, .mv 8 (.t 4)),
         (none, .call (some 9) F.spec_l1Cur_heap [(.t 8)]),
         (none, .mv 10 (.t 4)),
         (none, .call (some 11) F.spec_l1Cur_reach [(.t 10)]),
         (none, .store 4 (.t 2) (.t 9)),
         (none, .mv 3 (.t 11))])
      (.ret)))⟩
end Go.Ab.C

/- That the program has this code. -/
namespace Go.Ab.K
open Go Go.Ab
theorem spec_l2Fit : prepF Go.Proofs.Try.prog F.spec_l2Fit = some C.spec_l2Fit := by kernel_rfl
theorem spec_l1Cur_columnOf : prepF Go.Proofs.Try.prog F.spec_l1Cur_columnOf = some C.spec_l1Cur_columnOf := by kernel_rfl
theorem spec_l1Cur_reach : prepF Go.Proofs.Try.prog F.spec_l1Cur_reach = some C.spec_l1Cur_reach := by kernel_rfl
theorem spec_DrawTopDistance : prepF Go.Proofs.Try.prog F.spec_DrawTopDistance = some C.spec_DrawTopDistance := by kernel_rfl
theorem spec_DrawFirstTopWalk : prepF Go.Proofs.Try.prog F.spec_DrawFirstTopWalk = some C.spec_DrawFirstTopWalk := by kernel_rfl
theorem spec_DrawStepColumns : prepF Go.Proofs.Try.prog F.spec_DrawStepColumns = some C.spec_DrawStepColumns := by kernel_rfl
theorem spec_DrawTopRegion : prepF Go.Proofs.Try.prog F.spec_DrawTopRegion = some C.spec_DrawTopRegion := by kernel_rfl
theorem spec_DrawCountRegions : prepF Go.Proofs.Try.prog F.spec_DrawCountRegions = some C.spec_DrawCountRegions := by kernel_rfl
end Go.Ab.K

/- A nil slice may be taken for an empty one that lies nowhere. -/
namespace Go.Ab
open Go

def Den1 (t : Nat) (a b : LV) : Prop := a = b ∨ (a = .nil ∧ b = .ref t 0 0)
def Den0 (t : Nat) (a b : LV) : Prop := Den1 t a b ∨ ∃ cs ds, a = .agg cs ∧ b = .agg ds ∧ All2 (Den1 t) cs ds
def Den (t : Nat) (a b : LV) : Prop := Den0 t a b ∨ ∃ cs ds, a = .tup cs ∧ b = .tup ds ∧ All2 (Den0 t) cs ds
theorem Den1.rfl {t : Nat} {a : LV} : Den1 t a a := .inl (Eq.refl a)
theorem Den0.rfl {t : Nat} {a : LV} : Den0 t a a := .inl .rfl
theorem Den1.nil {t : Nat} : Den1 t .nil (.ref t 0 0) := .inr ⟨Eq.refl _, Eq.refl _⟩
theorem All2.thru {α β γ : Type} {R : α → β → Prop} {S : α → γ → Prop} {T : γ → β → Prop} (h : ∀ a b c, R a b → S a c → T c b) : ∀ {l1 : List α} {l2 : List β} {l3 : List γ}, All2 R l1 l2 → All2 S l1 l3 → All2 T l3 l2
  | [], [], [], _, _ => trivial
  | _ :: _, _ :: _, _ :: _, h1, h2 => ⟨h _ _ _ h1.1 h2.1, All2.thru h h1.2 h2.2⟩
  | [], _ :: _, _, h1, _ => h1.elim
  | _ :: _, [], _, h1, _ => h1.elim
  | [], _, _ :: _, _, h2 => h2.elim
  | _ :: _, _, [], _, h2 => h2.elim
section
variable {G : Gh} {t : Nat} {β : Base} (hg : G t = some β)
include hg
theorem VR1.den {a b : LV} {x : Value} (h : VR1 G a x) (k : Den1 t a b) : VR1 G b x := by
  rcases k with rfl | ⟨rfl, rfl⟩
  · exact h
  · obtain ⟨rfl, _⟩ := h
    exact ⟨β, hg, none, 0, rfl, .inl ⟨rfl, rfl⟩⟩
theorem VR0.den {a b : LV} {x : Value} (h : VR0 G a x) (k : Den0 t a b) : VR0 G b x := by
  rcases k with k | ⟨cs, ds, rfl, rfl, k⟩
  · rcases k with rfl | ⟨rfl, rfl⟩
    · exact h
    · exact VR1.den hg (a := .nil) (b := .ref t 0 0) h .nil
  · obtain ⟨xs, h1, h2⟩ := h
    exact ⟨xs, h1, All2.thru (R := VR1 G) (S := Den1 t) (T := VR1 G) (fun _ _ _ p q => VR1.den hg p q) h2 k⟩
theorem VR.den {a b : LV} {x : Value} (h : VR G a x) (k : Den t a b) : VR G b x := by
  rcases k with k | ⟨cs, ds, rfl, rfl, k⟩
  · rcases k with k | ⟨cs, ds, rfl, rfl, k⟩
    · rcases k with rfl | ⟨rfl, rfl⟩
      · exact h
      · exact VR1.den hg (a := .nil) (b := .ref t 0 0) h .nil
    · exact VR0.den hg (a := .agg cs) (b := .agg ds) h (.inr ⟨cs, ds, rfl, rfl, k⟩)
  · obtain ⟨xs, h1, h2⟩ := h
    exact ⟨xs, h1, All2.thru (R := VR0 G) (S := Den0 t) (T := VR0 G) (fun _ _ _ p q => VR0.den hg p q) h2 k⟩
end
theorem CallsR.den {P : Program} {f : FuncId} {args : List LV} {M : Mem} {A B : LV → Mem → Prop} {e : Nat} (h : CallsR P f args M A) (hab : ∀ v N, A v N → B v N ∨ ∃ v', Den N.length v v' ∧ B v' (N ++ [some (.row [] true e)])) : CallsR P f args M B := by
  refine ⟨h.1, fun G w xs hi hx => (h.2 G w xs hi hx).mono fun r w' ⟨v, N, x, G', h1, h2, h3, h4, h5⟩ => ?_⟩
  rcases hab v N h1 with hb | ⟨v', hd, hb⟩
  · exact ⟨v, N, x, G', hb, h2, h3, h4, h5⟩
  have hno := h4.top N.length (Nat.le_refl _)
  have hxt : Ext G' (G'.put N.length ⟨0, 0, e, 0, true⟩) := Gh.put_ext hno
  have hat : (G'.put N.length ⟨0, 0, e, 0, true⟩) N.length = some ⟨0, 0, e, 0, true⟩ := by simp [Gh.put]
  refine ⟨v', _, x, G'.put N.length ⟨0, 0, e, 0, true⟩, hb, h2, VR.den hat (VR.ext hxt h3) hd, ⟨fun t b hl => ?_, fun t t' b b' γ γ' hne hl hl' ho hγ hγ' hv hv' => ?_, fun t ht => ?_⟩, ⟨fun t ht => ?_, by have := h5.len; simp; omega, h5.size, h5.os, h5.tape, h5.output, h5.keep, fun b hb => ?_, fun t b hl ho => ?_⟩⟩
  · rcases live_push hl with ⟨_, h6⟩ | ⟨rfl, rfl⟩
    · obtain ⟨γ, hγ, he⟩ := h4.emb t b h6
      exact ⟨γ, hxt _ _ hγ, he.ext hxt fun _ => rfl⟩
    · exact ⟨_, hat, rfl, .inl ⟨rfl, rfl⟩⟩
  · rcases live_push hl with ⟨hlt, h6⟩ | ⟨rfl, rfl⟩
    · rcases live_push hl' with ⟨hlt', h7⟩ | ⟨rfl, rfl⟩
      · unfold Gh.put at hγ hγ'
        rw [if_neg (by omega)] at hγ hγ'
        exact h4.sep t t' b b' γ γ' hne h6 h7 ho hγ hγ' hv hv'
      · rw [hat] at hγ'; cases hγ'; cases hv'
    · rw [hat] at hγ; cases hγ; cases hv
  · simp at ht
    unfold Gh.put
    rw [if_neg (by omega)]
    exact h4.top t (by omega)
  · have := h5.len
    unfold Gh.put
    rw [if_neg (by omega)]
    exact h5.gh t ht
  · refine h5.own b ?_
    obtain ⟨t, blk, γ, hl, ho, hγ, hv, hbb⟩ := hb
    rcases live_push hl with ⟨hlt, h6⟩ | ⟨rfl, rfl⟩
    · unfold Gh.put at hγ
      rw [if_neg (by omega)] at hγ
      exact ⟨t, blk, γ, h6, ho, hγ, hv, hbb⟩
    · rw [hat] at hγ; cases hγ; cases hv
  · rcases live_push hl with ⟨_, h6⟩ | ⟨rfl, rfl⟩
    · exact h5.ro t b h6 ho
    · cases ho
end Go.Ab

/- The abstract code of some functions (written by a program of mine from the translation, by way of prepF). -/
namespace Go.Ab.C
open Go.Ab
def spec_l1Cur_heap : AFn :=
  ⟨1, 56, [.cellN 2 4],
    .seq (.ops [(none, .alloc 2 [(.I 0), (.I 0), (.I 0), .nil])])
    (.seq (.ops [(none, .mv 8 (.t 0)),
        (none, .call (some 9) F.spec_l1Cur_sides [(.t 8)]),
        (none, .mv 7 (.t 9)),
        (none, .extract 10 (.t 7) 0),
        (none, .extract 11 (.t 7) 1),
        (none, .extract 12 (.t 7) 2),
        (none, .mv 3 (.t 10)),
        (none, .mv 4 (.t 11)),
        (none, .mv 5 (.t 12))])
     (.seq (.ops [(none, .mv 13 (.t 0)),
         (none, .mv 14 (.t 3)),
         (none, .mv 15 (.t 4)),
         (none, .mv 16 (.t 5)),
         (none, .call (some 17) F.spec_l1Cur_someHeap [(.t 13), (.t 14), (.t 15), (.t 16)]),
         (none, .alloc 6 [(.I 0), (.I 0), (.I 0), .nil]),
         (none, .store 4 (.t 6) (.t 17))])
      (.seq (.seq (.ops [(none, .mv 18 (.t 0)),
           (none, .call (some 19) F.spec_l1Cur_pick [(.t 18), (.c (.I 60))])])
        (.block 0 (.seq (.ops [(none, .bin 21 .eql (.t 19) (.c (.I 0))),
             (none, .mv 20 (.t 21))])
          (.cond (.t 20) (.ops [(none, .fieldAddr 22 (.t 6) 3),
              (none, .load1 23 (.t 22)),
              (none, .mv 24 (.t 3)),
              (none, .build 25 [(.I 0), (.I 0), (.I 0)] [(0, 1, (.t 24)), (1, 1, (.c (.I 0))), (2, 1, (.c (.I 0)))]),
              (none, .buildSl 26 1 3 [(.I 0), (.I 0), (.I 0)] [(0, 3, (.t 25))]),
              (none, .append 27 3 24 (.t 23) (.t 26)),
              (none, .fieldAddr 28 (.t 6) 3),
              (none, .store 1 (.t 28) (.t 27))])
           (.seq (.ops [(none, .bin 30 .eql (.t 19) (.c (.I 1))),
               (none, .mv 29 (.t 30))])
            (.cond (.t 29) (.ops [(none, .fieldAddr 31 (.t 6) 3),
                (none, .load1 32 (.t 31)),
                (none, .build 33 [(.I 0), (.I 0), (.I 0)] [(0, 1, (.c (.I (-1)))), (1, 1, (.c (.I 0))), (2, 1, (.c (.I 0)))]),
                (none, .buildSl 34 1 3 [(.I 0), (.I 0), (.I 0)] [(0, 3, (.t 33))]),
                (none, .append 35 3 24 (.t 32) (.t 34)),
                (none, .fieldAddr 36 (.t 6) 3),
                (none, .store 1 (.t 36) (.t 35))])
             (.seq (.ops [(none, .bin 38 .eql (.t 19) (.c (.I 2))),
                 (none, .mv 37 (.t 38))])
              (.cond (.t 37) (.seq (.ops [(none, .fieldAddr 39 (.t 6) 3),
                   (none, .load1 40 (.t 39)),
                   (none, .len 41 (.t 40)),
                   (none, .bin 42 .gtr (.t 41) (.c (.I 0)))])
                (.cond (.t 42) (.draw [⟨(none, .fieldAddr 43 (.t 6) 3), [], []⟩,
                    ⟨(none, .load1 44 (.t 43)), [], []⟩,
                    ⟨(none, .fieldAddr 45 (.t 6) 3), [], []⟩,
                    ⟨(none, .load1 46 (.t 45)), [], []⟩,
                    ⟨(none, .idxS 47 3 (.t 46) (.c (.I 0))), [], []⟩,
                    ⟨(none, .loadN 48 3 (.t 47)), [], []⟩,
                    ⟨(none, .buildSl 49 1 3 [(.I 0), (.I 0), (.I 0)] [(0, 3, (.t 48))]), [], []⟩,
                    ⟨(none, .append 50 3 24 (.t 44) (.t 49)), [], []⟩,
                    ⟨(none, .fieldAddr 51 (.t 6) 3), [], []⟩,
                    ⟨(none, .store 1 (.t 51) (.t 50)), [], []⟩])
                 (.skip)))
               (.seq (.ops [(none, .bin 53 .eql (.t 19) (.c (.I 3))),
                   (none, .mv 52 (.t 53))])
                (.cond (.t 52) (.seq (.ops [(none, .build 54 [(.I 0), (.I 0), (.I 0), .nil] []),
                     (none, .store 4 (.t 2) (.t 54))])
                  (.ret))
                 (.skip)))))))))))
       (.seq (.ops [(none, .loadN 55 4 (.t 6)),
           (none, .store 4 (.t 2) (.t 55))])
        (.ret)))))⟩
end Go.Ab.C

/- That the program has this code. -/
namespace Go.Ab.K
open Go Go.Ab
theorem spec_l1Cur_heap : prepF Go.Proofs.Try.prog F.spec_l1Cur_heap = some C.spec_l1Cur_heap := by kernel_rfl
end Go.Ab.K
