/- Parts of the proof of FnFallingSaid: K_Hi C_Hh K_Hh C_Th K_Th C_Tg K_Tg Tg Th C_Pe K_Pe C_Pc K_Pc C_Pb K_Pb Pa Pb Pc Pd Pe Hh Tt Hi C_Jb K_Jb Jb Jc Jf Jk C_Jg K_Jg Jg Jl C_Qa K_Qa Qa. -/
import Derived.Test.YthgljdbfkojpeaaProg
import Derived.KernelRfl
import Derived.Test.YthgljdbfkojpeaaA9
import Derived.Test.YthgljdbfkojpeaaA3
import Derived.Test.YthgljdbfkojpeaaA4
import Derived.Test.YthgljdbfkojpeaaA8
import Derived.Test.YthgljdbfkojpeaaA5
import Derived.Test.YthgljdbfkojpeaaA7
import Derived.Test.YthgljdbfkojpeaaA6
set_option linter.all false
/- That the program has this code. -/
namespace Go.Ab.K
open Go Go.Ab
end Go.Ab.K

/- The abstract code of some functions (written by a program of mine from the translation, by way of prepF). -/
namespace Go.Ab.C
open Go.Ab
end Go.Ab.C

/- That the program has this code. -/
namespace Go.Ab.K
open Go Go.Ab
end Go.Ab.K

/- The abstract code of some functions (written by a program of mine from the translation, by way of prepF). -/
namespace Go.Ab.C
open Go.Ab
end Go.Ab.C

/- That the program has this code. -/
namespace Go.Ab.K
open Go Go.Ab
end Go.Ab.K

/- The abstract code of some functions (written by a program of mine from the translation, by way of prepF). -/
namespace Go.Ab.C
open Go.Ab
end Go.Ab.C

/- That the program has this code. -/
namespace Go.Ab.K
open Go Go.Ab
end Go.Ab.K

/- Contracts: the reference's statements on forms. -/
namespace Go.Ab
open Go
set_option linter.unusedSimpArgs false
set_option linter.unusedVariables false

/-- A valid heap with cubes. -/
def Filled (x y z : Int) (cs : List Cell) : Prop := HeapOK x y z cs ∧ 0 < cs.length
noncomputable instance (x y z : Int) (cs : List Cell) : Decidable (Filled x y z cs) := Classical.propDecidable _
noncomputable def formOf (x y z : Int) (cs : List Cell) : Option Hp := if Filled x y z cs then some (formHp x y z cs) else none
def symB (x y z : Int) (cs : List Cell) (T : Turn) : Bool := !lessHp (posHp x y z cs T) (cropHp cs) && !lessHp (cropHp cs) (posHp x y z cs T)
def symAt (x y z : Int) (cs : List Cell) (j : Nat) : Bool := match turns[j]? with
  | some T => symB x y z cs T
  | none => false
def symsK (x y z : Int) (cs : List Cell) (k : Nat) : List Int := ((List.range k).filter (symAt x y z cs)).map fun (j : Nat) => (j : Int)
noncomputable def symsOf (x y z : Int) (cs : List Cell) : Option (List Int) := if Filled x y z cs then some (symsK x y z cs 24) else none
noncomputable def posOf (x y z : Int) (cs : List Cell) : Int := if Filled x y z cs then ((24 : Int).tdiv ((symsK x y z cs 24).length : Nat)) else 0
end Go.Ab

/- Contracts: the reference's mirrored heaps; IsHanded, AreSameForm. -/
namespace Go.Ab
open Go
set_option linter.unusedSimpArgs false
set_option linter.unusedVariables false

def mirC (x : Int) (c : Cell) : Cell := ⟨x - 1 - c.a, c.b, c.c⟩
def mirHp (x y z : Int) (cs : List Cell) : List Cell := pick x y z fun d => decide (d ∈ cs.map (mirC x))
def handB (x y z : Int) (cs : List Cell) : Bool := !(!lessHp (formHp x y z (mirHp x y z cs)) (formHp x y z cs) && !lessHp (formHp x y z cs) (formHp x y z (mirHp x y z cs)))
noncomputable def sameForm (x y z : Int) (cs : List Cell) (x' y' z' : Int) (ds : List Cell) : Bool := !lessHp (formHp x y z cs) (formHp x' y' z' ds) && !lessHp (formHp x' y' z' ds) (formHp x y z cs)
end Go.Ab

/- The abstract code of some functions (written by a program of mine from the translation, by way of prepF). -/
namespace Go.Ab.C
open Go.Ab
end Go.Ab.C

/- That the program has this code. -/
namespace Go.Ab.K
open Go Go.Ab
end Go.Ab.K

/- The abstract code of some functions (written by a program of mine from the translation, by way of prepF). -/
namespace Go.Ab.C
open Go.Ab
end Go.Ab.C

/- That the program has this code. -/
namespace Go.Ab.K
open Go Go.Ab
end Go.Ab.K

/- The abstract code of some functions (written by a program of mine from the translation, by way of prepF). -/
namespace Go.Ab.C
open Go.Ab
end Go.Ab.C

/- That the program has this code. -/
namespace Go.Ab.K
open Go Go.Ab
end Go.Ab.K

/- Plain words: how many cells a set has, as the library counts. -/
namespace Go.Ab

def swar1 (x : BitVec 64) : BitVec 64 := (x >>> 1 &&& 6148914691236517205#64) + (x &&& 6148914691236517205#64)
def swar2 (x : BitVec 64) : BitVec 64 := (x >>> 2 &&& 3689348814741910323#64) + (x &&& 3689348814741910323#64)
def swar3 (x : BitVec 64) : BitVec 64 := (x >>> 4 + x) &&& 1085102592571150095#64
def swar4 (x : BitVec 64) : BitVec 64 := x + x >>> 8
def swar5 (x : BitVec 64) : BitVec 64 := x + x >>> 16
def swar6 (x : BitVec 64) : BitVec 64 := x + x >>> 32
def swar (x : BitVec 64) : BitVec 64 := swar6 (swar5 (swar4 (swar3 (swar2 (swar1 x))))) &&& 127#64

def onRim (x y z : Int) (c : Cell) : Bool := decide (c.a = 0 ∨ c.b = 0 ∨ c.c = 0 ∨ c.a = x - 1 ∨ c.b = y - 1 ∨ c.c = z - 1)
end Go.Ab

/- Contracts: counts of sets. -/
namespace Go.Ab
open Go
set_option linter.unusedSimpArgs false
set_option linter.unusedVariables false

theorem onRim_iff {x y z : Int} {c : Cell} (hc : c.inBox x y z) : onRim x y z c = true ↔ ∃ d : Cell, apart c d = 1 ∧ ¬ d.inBox x y z := by
  obtain ⟨⟨h1, h2⟩, ⟨h3, h4⟩, ⟨h5, h6⟩⟩ := hc
  unfold onRim
  rw [decide_eq_true_iff]
  constructor
  · rintro (h | h | h | h | h | h)
    · exact ⟨⟨c.a - 1, c.b, c.c⟩, by unfold apart; simp only; omega, fun k => by have := k.1.1; simp only at this; omega⟩
    · exact ⟨⟨c.a, c.b - 1, c.c⟩, by unfold apart; simp only; omega, fun k => by have := k.2.1.1; simp only at this; omega⟩
    · exact ⟨⟨c.a, c.b, c.c - 1⟩, by unfold apart; simp only; omega, fun k => by have := k.2.2.1; simp only at this; omega⟩
    · exact ⟨⟨c.a + 1, c.b, c.c⟩, by unfold apart; simp only; omega, fun k => by have := k.1.2; simp only at this; omega⟩
    · exact ⟨⟨c.a, c.b + 1, c.c⟩, by unfold apart; simp only; omega, fun k => by have := k.2.1.2; simp only at this; omega⟩
    · exact ⟨⟨c.a, c.b, c.c + 1⟩, by unfold apart; simp only; omega, fun k => by have := k.2.2.2; simp only at this; omega⟩
  · rintro ⟨d, hd, hk⟩
    apply Classical.byContradiction
    intro hno
    refine hk ⟨⟨?_, ?_⟩, ⟨?_, ?_⟩, ⟨?_, ?_⟩⟩ <;> (unfold apart at hd; omega)

end Go.Ab

/- Contracts: what is enclosed; the program's FillCavities. -/
namespace Go.Ab
open Go
set_option linter.unusedSimpArgs false
set_option linter.unusedVariables false

/-- What is outside: reached from the rim, by way of cells without cubes. -/
noncomputable def outer (x y z : Int) (p : Cell → Bool) : Cell → Bool := reach x y z (fun c => !p c && onRim x y z c) fun c => !p c
noncomputable def closed (x y z : Int) (p : Cell → Bool) (c : Cell) : Bool := !p c && !outer x y z p c
noncomputable def fillOf (x y z : Int) (cs : List Cell) : Option Hp := by
  classical
  exact if HeapOK x y z cs then some ⟨x, y, z, pick x y z fun c => decide (c ∈ cs) || closed x y z (fun c => decide (c ∈ cs)) c⟩ else none
end Go.Ab

/- Plain words: a search from beyond the box. -/
namespace Go.Ab

theorem getD_get {α : Type} {l : List α} {i : Nat} {d : α} (h : i < l.length) : l.getD i d = l[i] := by simp [h]
def ExtC (x y z : Int) (c : Cell) : Prop := (-1 ≤ c.a ∧ c.a ≤ x) ∧ (-1 ≤ c.b ∧ c.b ≤ y) ∧ (-1 ≤ c.c ∧ c.c ≤ z)
theorem Cell.inBox.ext {x y z : Int} {c : Cell} (h : c.inBox x y z) : ExtC x y z c := by
  obtain ⟨⟨_, _⟩, ⟨_, _⟩, ⟨_, _⟩⟩ := h
  exact ⟨⟨by omega, by omega⟩, ⟨by omega, by omega⟩, ⟨by omega, by omega⟩⟩
/-- What comes before a place. -/
def Bef (c : Cell) (i j k : Int) : Prop := c.a < i ∨ (c.a = i ∧ (c.b < j ∨ (c.b = j ∧ c.c < k)))
structure Mgn (x y z i j k : Int) (l : List Cell) : Prop where
  mem : ∀ c ∈ l, ExtC x y z c ∧ ¬ c.inBox x y z
  all : ∀ c, ExtC x y z c → ¬ c.inBox x y z → Bef c i j k → c ∈ l
  len : (l.length : Int) ≤ (i + 1) * 36 + (j + 1) * 6 + (k + 1)
theorem Mgn.nil {x y z : Int} : Mgn x y z (-1) (-1) (-1) [] := by
  refine ⟨by simp, fun c ⟨⟨_, _⟩, ⟨_, _⟩, ⟨_, _⟩⟩ _ hb => ?_, by simp⟩
  unfold Bef at hb
  omega
theorem Mgn.out {x y z i j k : Int} {l : List Cell} (h : Mgn x y z i j k l) (hk : k < 6) (hc : ExtC x y z ⟨i, j, k⟩) (ho : ¬ Cell.inBox x y z ⟨i, j, k⟩) : Mgn x y z i j (k + 1) (l ++ [⟨i, j, k⟩]) := by
  refine ⟨fun c hm => ?_, fun c h1 h2 h3 => ?_, ?_⟩
  · rcases List.mem_append.1 hm with hm | hm
    · exact h.mem c hm
    · rw [List.mem_singleton.1 hm]; exact ⟨hc, ho⟩
  · rw [List.mem_append, List.mem_singleton, cell_eq]
    unfold Bef at h3
    by_cases hb : Bef c i j k
    · exact .inl (h.all c h1 h2 hb)
    · right; unfold Bef at hb; simp only; omega
  · have := h.len; rw [List.length_append, List.length_singleton]; omega
theorem Mgn.in {x y z i j k : Int} {l : List Cell} (h : Mgn x y z i j k l) (ho : Cell.inBox x y z ⟨i, j, k⟩) : Mgn x y z i j (k + 1) l := by
  refine ⟨h.mem, fun c h1 h2 h3 => ?_, by have := h.len; omega⟩
  unfold Bef at h3
  by_cases hb : Bef c i j k
  · exact h.all c h1 h2 hb
  · unfold Bef at hb
    exact absurd (by rw [show c = ⟨i, j, k⟩ from cell_eq.2 (by simp only; omega)]; exact ho) h2
theorem Mgn.row {x y z i j k : Int} {l : List Cell} (h : Mgn x y z i j k l) (hk : z < k) (hz : k ≤ 5) : Mgn x y z i (j + 1) (-1) l := by
  refine ⟨h.mem, fun c h1 h2 h3 => h.all c h1 h2 ?_, by have := h.len; omega⟩
  obtain ⟨_, _, _, _⟩ := h1
  unfold Bef at h3 ⊢
  omega
theorem Mgn.plane {x y z i j : Int} {l : List Cell} (h : Mgn x y z i j (-1) l) (hk : y < j) (hz : j ≤ 5) : Mgn x y z (i + 1) (-1) (-1) l := by
  refine ⟨h.mem, fun c h1 h2 h3 => h.all c h1 h2 ?_, by have := h.len; omega⟩
  obtain ⟨_, ⟨_, _⟩, _, _⟩ := h1
  unfold Bef at h3 ⊢
  omega

structure Out (x y z : Int) (p : Cell → Bool) (n k : Nat) (mg r : List Cell) : Prop where
  base : ∀ c, ExtC x y z c → ¬ c.inBox x y z → c ∈ mg
  mgm : ∀ c ∈ mg, ExtC x y z c ∧ ¬ c.inBox x y z
  nodup : r.Nodup
  mem : ∀ d ∈ r, d.inBox x y z ∧ p d = false ∧ outer x y z p d = true
  done : ∀ i, i < n → i < (mg ++ r).length → ∀ e, e.inBox x y z → p e = false → apart ((mg ++ r).getD i default) e = 1 → e ∈ r
  part : ∀ j, j < k → ((nbrs ((mg ++ r).getD n default)).getD j default).inBox x y z → p ((nbrs ((mg ++ r).getD n default)).getD j default) = false → (nbrs ((mg ++ r).getD n default)).getD j default ∈ r

section
variable {x y z : Int} {p : Cell → Bool} {n k : Nat} {mg r : List Cell}
theorem Out.skip (h : Out x y z p n k mg r) (hs : ¬ ((((nbrs ((mg ++ r).getD n default)).getD k default).inBox x y z ∧ p ((nbrs ((mg ++ r).getD n default)).getD k default) = false) ∧ (nbrs ((mg ++ r).getD n default)).getD k default ∉ r)) : Out x y z p n (k + 1) mg r :=
  ⟨h.base, h.mgm, h.nodup, h.mem, h.done, fun j hj h1 h2 => by
    rcases Nat.lt_or_ge j k with h3 | h3
    · exact h.part j h3 h1 h2
    · rw [show j = k by omega] at h1 h2 ⊢
      exact Classical.byContradiction fun h4 => hs ⟨⟨h1, h2⟩, h4⟩⟩
theorem Out.add (h : Out x y z p n k mg r) (hk : k < 6) (hn : n < (mg ++ r).length) {e : Cell} (he : (nbrs ((mg ++ r).getD n default)).getD k default = e) (h1 : e.inBox x y z) (h2 : p e = false) (h3 : e ∉ r) : Out x y z p n (k + 1) mg (r ++ [e]) := by
  have hg : ∀ {j}, j < (mg ++ r).length → (mg ++ (r ++ [e])).getD j default = (mg ++ r).getD j default := fun {j} hj => by
    rw [← List.append_assoc]
    simp only [List.getD_eq_getElem?_getD]; rw [List.getElem?_append_left hj]
  have hap : apart ((mg ++ r).getD n default) e = 1 := mem_nbrs.1 (by rw [← he]; exact getD_mem' (by simpa [nbrs] using hk))
  have hout : outer x y z p e = true := by
    unfold outer
    rw [reach_iff]
    rcases List.mem_append.1 (getD_mem' (d := default) hn) with hm | hm
    · refine .base h1 ?_
      have := h.mgm _ hm
      rw [h2, (onRim_iff h1).2 ⟨_, by rw [apart_comm]; exact hap, this.2⟩]; rfl
    · have := (h.mem _ hm).2.2
      unfold outer at this
      rw [reach_iff] at this
      exact .step this hap h1 (by rw [h2]; rfl)
  refine ⟨h.base, h.mgm, ?_, fun d hd => ?_, fun i hi hil d hd hpd ha => ?_, fun j hj hb hpb => ?_⟩
  · rw [List.nodup_append]
    exact ⟨h.nodup, by simp, fun a ha b hb e' => by rw [List.mem_singleton.1 hb] at e'; subst e'; exact h3 ha⟩
  · rcases List.mem_append.1 hd with hd | hd
    · exact h.mem d hd
    · rw [List.mem_singleton.1 hd]; exact ⟨h1, h2, hout⟩
  · rw [hg (by omega)] at ha
    exact List.mem_append.2 (.inl (h.done i hi (by omega) d hd hpd ha))
  · rw [hg hn] at hb hpb ⊢
    rcases Nat.lt_or_ge j k with h5 | h5
    · exact List.mem_append.2 (.inl (h.part j h5 hb hpb))
    · rw [show j = k by omega, he]; simp
theorem Out.next (h : Out x y z p n 6 mg r) : Out x y z p (n + 1) 0 mg r := by
  refine ⟨h.base, h.mgm, h.nodup, h.mem, fun i hi hil d hd hpd ha => ?_, by omega⟩
  rcases Nat.lt_or_ge i n with h1 | h1
  · exact h.done i h1 hil d hd hpd ha
  · rw [show i = n by omega] at ha
    have hm := mem_nbrs.2 ha
    obtain ⟨j, hj, rfl⟩ := List.getElem_of_mem hm
    have hj6 : j < 6 := by simpa [nbrs] using hj
    rw [← getD_get (d := default) hj] at hd hpd ⊢
    exact h.part j hj6 hd hpd
end
end Go.Ab

/- Contracts: the reference's search from beyond the box. -/
namespace Go.Ab
open Go
set_option linter.unusedSimpArgs false
set_option linter.unusedVariables false

def steps : List Cell := [⟨-1, 0, 0⟩, ⟨1, 0, 0⟩, ⟨0, -1, 0⟩, ⟨0, 1, 0⟩, ⟨0, 0, -1⟩, ⟨0, 0, 1⟩]
theorem Live.step {N : Mem} {t k : Nat} (h : Live N t (.row (triL steps) true 0)) (hk : k < 6) : getCells N t (k * 3) 3 = some (steps.getD k default).row := by
  have := Tri.get (cs := steps) (o := 0) h.has (k := k) hk
  rwa [Nat.zero_add] at this

end Go.Ab

/- Contracts: the heaps of few cubes that a law draws; mirrored heaps of the reference, in any direction. -/
namespace Go.Ab
open Go
set_option linter.unusedSimpArgs false
set_option linter.unusedVariables false
set_option maxRecDepth 20000

def negD (c : Cell) : Cell := ⟨max 0 (0 - c.a), max 0 (0 - c.b), max 0 (0 - c.c)⟩
end Go.Ab

/- Plain words: the turns as a group; forms of turned heaps; symmetries and positions. -/
namespace Go.Ab
open Go
set_option linter.unusedSimpArgs false
set_option linter.unusedVariables false
set_option maxRecDepth 20000

theorem same_len {α : Type} [DecidableEq α] : ∀ {l m : List α}, l.Nodup → m.Nodup → (∀ a, a ∈ l ↔ a ∈ m) → l.length = m.length
  | [], m, _, _, h => by
    cases m with
    | nil => rfl
    | cons b m => exact absurd ((h b).2 (by simp)) (by simp)
  | a :: l, m, hl, hm, h => by
    rw [List.nodup_cons] at hl
    have ha : a ∈ m := (h a).1 (by simp)
    have := same_len (l := l) (m := m.erase a) hl.2 (hm.erase a) fun b => by
      constructor
      · intro hb
        have hne : b ≠ a := fun e => hl.1 (e ▸ hb)
        exact (List.mem_erase_of_ne hne).2 ((h b).1 (by simp [hb]))
      · intro hb
        have h1 := List.mem_of_mem_erase hb
        rcases List.mem_cons.1 ((h b).2 h1) with e | e
        · subst e; exact absurd hb (hm.not_mem_erase)
        · exact e
    rw [List.length_cons, this, List.length_erase_of_mem ha]
    have := List.length_pos_of_mem ha
    omega
def xorI (a b : Int) : Int := if a = b then 0 else 1
/-- First the one turn, then the other. -/
def behind (t u : Turn) : Turn := ⟨⟨t.fr.at u.fr.a, t.fr.at u.fr.b, t.fr.at u.fr.c⟩, ⟨xorI (t.fl.at u.fr.a) u.fl.a, xorI (t.fl.at u.fr.b) u.fl.b, xorI (t.fl.at u.fr.c) u.fl.c⟩⟩
def oneT : Turn := ⟨⟨0, 1, 2⟩, ⟨0, 0, 0⟩⟩
def invT (t : Turn) : Turn := (turns.find? fun u => decide (behind t u = oneT)).getD oneT
def Bit (n : Int) : Prop := n = 0 ∨ n = 1
def BitT (t : Turn) : Prop := Bit t.fl.a ∧ Bit t.fl.b ∧ Bit t.fl.c
instance (n : Int) : Decidable (Bit n) := by unfold Bit; exact inferInstance
instance (t : Turn) : Decidable (BitT t) := by unfold BitT; exact inferInstance
def turnS (x y z x' y' z' : Int) (T : Turn) (p : Cell) : Cell :=
  ⟨if T.fl.a = 1 then sideOf x' y' z' T.fr.a - sideOf x y z T.fr.a - p.at T.fr.a else p.at T.fr.a, if T.fl.b = 1 then sideOf x' y' z' T.fr.b - sideOf x y z T.fr.b - p.at T.fr.b else p.at T.fr.b, if T.fl.c = 1 then sideOf x' y' z' T.fr.c - sideOf x y z T.fr.c - p.at T.fr.c else p.at T.fr.c⟩
section
variable {x y z : Int} {cs : List Cell} (hH : HeapOK x y z cs) (h0 : 0 < cs.length)
include hH
include h0
end

section
variable {x y z : Int} {cs : List Cell} (hH : HeapOK x y z cs)
include hH
end

def mir2C (z : Int) (c : Cell) : Cell := ⟨c.a, c.b, z - 1 - c.c⟩
def mir2Hp (x y z : Int) (cs : List Cell) : List Cell := pick x y z fun d => decide (d ∈ cs.map (mir2C z))
end Go.Ab

/- Contracts: a form that a law draws; turned and mirrored heaps. -/
namespace Go.Ab
open Go
set_option linter.unusedSimpArgs false
set_option linter.unusedVariables false
set_option maxRecDepth 20000

/-- What TurnHeap answers. -/
noncomputable def turnOf (x y z : Int) (cs : List Cell) (k : Int) : Option Hp := by
  classical
  exact if HeapOK x y z cs ∧ (0 ≤ k ∧ k ≤ 23) then some (turnHp x y z (turns.getD k.toNat oneT) cs) else none
/-- A heap and true. -/
def HeapT (M : Mem) (r : Hp) (v : LV) (N : Mem) : Prop := ∃ u : Nat, v = .tup [.agg [.I r.x, .I r.y, .I r.z, .ref u 0 r.cs.length], .B true] ∧ Live N u (.row (triL r.cs) true 3) ∧ M.length ≤ u
/-- Mirrored in a direction. -/
def mirDC (x y z : Int) (d : Int) (c : Cell) : Cell := ⟨if d = 0 then x - 1 - c.a else c.a, if d = 1 then y - 1 - c.b else c.b, if d = 2 then z - 1 - c.c else c.c⟩
def mirD (x y z : Int) (d : Int) (cs : List Cell) : List Cell := pick x y z fun e => decide (e ∈ cs.map (mirDC x y z d))
theorem Live.only {M N : Mem} {q : Nat} {b0 : Blk} (h : Live M q b0) (k : Live N q b0) : ∀ b, M[q]? = some (some b) → N[q]? = some (some b) := fun b hb => by
  have e : some (some b0) = some (some b) := Eq.trans (Eq.symm h) hb
  cases e
  exact k
end Go.Ab

/- The abstract code of some functions (written by a program of mine from the translation, by way of prepF). -/
namespace Go.Ab.C
open Go.Ab
end Go.Ab.C

/- That the program has this code. -/
namespace Go.Ab.K
open Go Go.Ab
end Go.Ab.K

/- Contracts: pieces that fit, places, boxes, parities, other cells: the program's side. -/
namespace Go.Ab
open Go
set_option linter.unusedSimpArgs false
set_option linter.unusedVariables false
set_option maxRecDepth 20000

noncomputable instance {x y z : Int} {cs l : List Cell} : Decidable (FitQ x y z cs l) := Classical.propDecidable _
section
variable {x y z : Int} {t o u q : Nat} {cs l : List Cell} {M : Mem} (h : Tri M t o cs) (hn : cs.length ≤ 1000000000) (hl : Tri M u q l) (hln : l.length ≤ 1000000000)
include hl hln
include h hn
end
end Go.Ab

/- Plain: boxes as pieces; parities of all cells; places. -/
namespace Go.Ab
open Go
set_option linter.unusedSimpArgs false
set_option linter.unusedVariables false
set_option maxRecDepth 20000

end Go.Ab

/- Heaps that a law keeps: mirrored, swapped, joined, common, shifted, cropped and widened ones, plainly. -/
namespace Go.Ab
open Go
set_option linter.unusedSimpArgs false
set_option linter.unusedVariables false
set_option maxRecDepth 20000

/-- A heap, or the empty one and false; its cells lie in a block of their own. -/
def HeapX (M : Mem) (r : Option Hp) (v : LV) (N : Mem) : Prop := ∃ u : Nat, v = .tup [.agg [.I (r.getD Hp.none).x, .I (r.getD Hp.none).y, .I (r.getD Hp.none).z, .ref u 0 (r.getD Hp.none).cs.length], .B r.isSome] ∧ Live N u (.row (triL (r.getD Hp.none).cs) true 3) ∧ Pre M N
theorem heapX_some {M N : Mem} {g : Hp} {v : LV} (h : HeapT M g v N) (hp : Pre M N) : HeapX M (some g) v N := by
  obtain ⟨u, rfl, hu, _⟩ := h
  exact ⟨u, rfl, hu, hp⟩
theorem heapX_of {f : FuncId} {args : List LV} {M : Mem} {r : Option Hp} (h : CallsR PG f args M fun v N => (∃ g, r = some g ∧ HeapT M g v N ∧ Pre M N) ∨ (r = none ∧ v = .tup [.agg [.I 0, .I 0, .I 0, .nil], .B false] ∧ Pre M N)) : CallsR PG f args M (HeapX M r) := by
  refine h.den (e := 3) ?_
  rintro v N (⟨g, rfl, hg, hp⟩ | ⟨rfl, rfl, hp⟩)
  · exact .inl (heapX_some hg hp)
  · exact .inr ⟨.tup [.agg [.I 0, .I 0, .I 0, .ref N.length 0 0], .B false], .inr ⟨_, _, rfl, rfl, .inr ⟨_, _, rfl, rfl, .rfl, .rfl, .rfl, .nil, trivial⟩, .rfl, trivial⟩, N.length, rfl, Live.new, hp.trans (Pre.app _ _)⟩
theorem heapX_no {M : Mem} {r : Option Hp} {v : LV} {N : Mem} (hr : r = none) (hv : v = .tup [.agg [.I 0, .I 0, .I 0, .nil], .B false]) (hp : Pre M N) : (∃ g, r = some g ∧ HeapT M g v N ∧ Pre M N) ∨ (r = none ∧ v = .tup [.agg [.I 0, .I 0, .I 0, .nil], .B false] ∧ Pre M N) := .inr ⟨hr, hv, hp⟩
section
variable (x y z : Int) (cs : List Cell)
noncomputable def mirOf (d : Int) : Option Hp := by
  classical
  exact if HeapOK x y z cs ∧ Dir d then some ⟨x, y, z, mirD x y z d cs⟩ else none
noncomputable def othOf : Option Hp := by
  classical
  exact if HeapOK x y z cs then some ⟨x, y, z, pick x y z (freeP cs)⟩ else none
end
/-- Two coordinates exchanged. -/
def swI (a b i : Int) : Int := if i = a then b else if i = b then a else i
def swC (a b : Int) (c : Cell) : Cell := ⟨c.at (swI a b 0), c.at (swI a b 1), c.at (swI a b 2)⟩
def swX (a b : Int) (x y z : Int) (cs : List Cell) : Hp := ⟨(swC a b ⟨x, y, z⟩).a, (swC a b ⟨x, y, z⟩).b, (swC a b ⟨x, y, z⟩).c, pick (swC a b ⟨x, y, z⟩).a (swC a b ⟨x, y, z⟩).b (swC a b ⟨x, y, z⟩).c fun d => decide (d ∈ cs.map (swC a b))⟩
section
variable {x y z : Int} {cs : List Cell}
end
section
variable (x y z : Int) (cs : List Cell)
noncomputable def swpOf (a b : Int) : Option Hp := by
  classical
  exact if HeapOK x y z cs ∧ Dir a ∧ Dir b then some (swX a b x y z cs) else none
/-- Both are heaps, in the same box. -/
def Alike (x' y' z' : Int) (ds : List Cell) : Prop := HeapOK x y z cs ∧ HeapOK x' y' z' ds ∧ x = x' ∧ y = y' ∧ z = z'
noncomputable instance {x y z : Int} {cs : List Cell} {x' y' z' : Int} {ds : List Cell} : Decidable (Alike x y z cs x' y' z' ds) := Classical.propDecidable _
noncomputable def jnOf (x' y' z' : Int) (ds : List Cell) : Option Hp := if Alike x y z cs x' y' z' ds then some ⟨x, y, z, pick x y z fun c => decide (c ∈ cs) || decide (c ∈ ds)⟩ else none
noncomputable def cmOf (x' y' z' : Int) (ds : List Cell) : Option Hp := if Alike x y z cs x' y' z' ds then some ⟨x, y, z, pick x y z fun c => decide (c ∈ cs) && decide (c ∈ ds)⟩ else none
/-- A shift that is not too far. -/
def Near4 (p : Cell) : Prop := (-4 ≤ p.a ∧ p.a ≤ 4) ∧ (-4 ≤ p.b ∧ p.b ≤ 4) ∧ (-4 ≤ p.c ∧ p.c ≤ 4)
noncomputable def shOf (p : Cell) : Option Hp := by
  classical
  exact if HeapOK x y z cs ∧ Near4 p ∧ HeapOK x y z (cs.map (shift p)) then some ⟨x, y, z, cs.map (shift p)⟩ else none
noncomputable def crOf : Option Hp := by
  classical
  exact if HeapOK x y z cs ∧ 0 < cs.length then some (cropHp cs) else none
noncomputable def wdOf (X Y Z : Int) : Option Hp := by
  classical
  exact if HeapOK x y z cs ∧ HeapOK X Y Z cs then some ⟨X, Y, Z, cs⟩ else none
end
theorem or_and_len {p q : Cell → Bool} : ∀ l : List Cell, (l.filter fun c => p c || q c).length + (l.filter fun c => p c && q c).length = (l.filter p).length + (l.filter q).length
  | [] => rfl
  | a :: l => by
    have ih := or_and_len (p := p) (q := q) l
    simp only [List.filter_cons]
    cases p a <;> cases q a <;> simp <;> omega
end Go.Ab

/- Plain: drops, views from above, what sinks; settled heaps. -/
namespace Go.Ab
open Go
set_option linter.unusedSimpArgs false
set_option linter.unusedVariables false
set_option maxRecDepth 20000

theorem ints_ext {l l' : List Int} (hl : l.length = l'.length) (h : ∀ j, j < l.length → l.getD j 0 = l'.getD j 0) : l = l' := by
  apply List.ext_getElem hl
  intro i h2 h3
  have := h i h2
  simpa [h2, h3] using this
/-- How many cells of a set lie in a column. -/
def colN (x y z : Int) (j : Nat) (p : Cell → Bool) : Nat := (pick x y z fun c => p c && onLine y z 2 j c).length
theorem col_count {x y z : Int} {j : Nat} {p : Cell → Bool} : (pick x y z p).countP (onLine y z 2 j) = colN x y z j p := by
  unfold colN
  rw [← filter_pick p (onLine y z 2 j), List.countP_eq_length_filter]
theorem view_get {x y z : Int} {j : Nat} {p : Cell → Bool} (h : j < (x * y).toNat) : (viewL x y z 2 (pick x y z p)).getD j 0 = (colN x y z j p : Nat) := by
  rw [viewL_get (d := 2) (by exact h), col_count]
theorem view_ext {x y z : Int} {p q : Cell → Bool} (h : ∀ j, j < (x * y).toNat → colN x y z j p = colN x y z j q) : viewL x y z 2 (pick x y z p) = viewL x y z 2 (pick x y z q) := by
  refine ints_ext (by rw [viewL_len, viewL_len]) fun j hj => ?_
  rw [viewL_len] at hj
  have hj' : j < (x * y).toNat := hj
  rw [view_get hj', view_get hj', h j hj']
theorem pick_part {x y z : Int} (p q : Cell → Bool) : (pick x y z fun c => p c && q c).length + (pick x y z fun c => p c && !q c).length = (pick x y z p).length := by
  have : ∀ l : List Cell, (l.filter fun c => p c && q c).length + (l.filter fun c => p c && !q c).length = (l.filter p).length := by
    intro l
    induction l with
    | nil => rfl
    | cons a l ih =>
      simp only [List.filter_cons]
      cases p a <;> cases q a <;> simp <;> omega
  exact this _
theorem pick_or {x y z : Int} {p q : Cell → Bool} (hd : ∀ c, c.inBox x y z → ¬ (p c = true ∧ q c = true)) (hS : Sides x y z) : (pick x y z fun c => p c || q c).length = (pick x y z p).length + (pick x y z q).length := by
  have h := or_and_len (p := p) (q := q) (cellsOf x y z)
  have h0 : ((cellsOf x y z).filter fun c => p c && q c) = [] := by
    rw [List.filter_eq_nil_iff]
    intro c hc e
    rw [Bool.and_eq_true] at e
    exact hd c ((mem_cellsOf hS).1 hc) e
  rw [h0] at h
  unfold pick
  simpa using h
/-- Some cells of a set, each moved down by one. -/
def movD (x y z : Int) (H p : Cell → Bool) : Cell → Bool := fun d => (p d && !H d) || (decide ((up d).inBox x y z) && H (up d))
theorem up_line {y z : Int} {j : Nat} {c : Cell} : onLine y z 2 j (up c) = onLine y z 2 j c := rfl
theorem up_inj {c d : Cell} (h : up c = up d) : c = d := by rw [← down_up c, h, down_up]
section
variable {x y z : Int} (hS : Sides x y z)
include hS
theorem mov_up {H q : Cell → Bool} (hH : ∀ c, c.inBox x y z → H c = true → 1 ≤ c.c) (hq : ∀ c, q (up c) = q c) : (pick x y z fun d => (decide ((up d).inBox x y z) && H (up d)) && q d).length = (pick x y z fun d => H d && q d).length := by
  rw [show (pick x y z fun d => (decide ((up d).inBox x y z) && H (up d)) && q d).length = ((pick x y z fun d => (decide ((up d).inBox x y z) && H (up d)) && q d).map up).length from (List.length_map ..).symm]
  refine same_len ?_ (pick_ok hS _).nodup fun c => ?_
  · exact List.Pairwise.map _ (fun a b hne h => hne (up_inj h)) (pick_ok hS _).nodup
  · rw [List.mem_map, mem_pick hS]
    constructor
    · rintro ⟨d, hd, rfl⟩
      obtain ⟨_, h2⟩ := (mem_pick hS).1 hd
      simp only [Bool.and_eq_true, decide_eq_true_eq] at h2 ⊢
      exact ⟨h2.1.1, h2.1.2, by rw [hq]; exact h2.2⟩
    · rintro ⟨h1, h2⟩
      simp only [Bool.and_eq_true] at h2
      have h3 := hH c h1 h2.1
      refine ⟨down c, (mem_pick hS).2 ⟨?_, ?_⟩, up_down c⟩
      · obtain ⟨q1, q2, q3⟩ := h1
        exact ⟨q1, q2, by unfold down; simp only; omega, by unfold down; simp only; omega⟩
      · rw [up_down, ← hq (down c), up_down]
        simp only [Bool.and_eq_true, decide_eq_true_eq]
        exact ⟨⟨h1, h2.1⟩, h2.2⟩
theorem mov_col {H p : Cell → Bool} (hH : ∀ c, c.inBox x y z → H c = true → p c = true ∧ 1 ≤ c.c) (hd : ∀ d, d.inBox x y z → p d = true → H d = false → (up d).inBox x y z → H (up d) = false) (j : Nat) : colN x y z j (movD x y z H p) = colN x y z j p := by
  unfold colN
  have e1 := pick_or (x := x) (y := y) (z := z) (p := fun d => (p d && !H d) && onLine y z 2 j d) (q := fun d => (decide ((up d).inBox x y z) && H (up d)) && onLine y z 2 j d) (fun c hc h => by
    simp only [Bool.and_eq_true, decide_eq_true_eq, Bool.not_eq_true'] at h
    have := hd c hc h.1.1.1 h.1.1.2 h.2.1.1
    rw [this] at h
    exact Bool.noConfusion h.2.1.2) hS
  have e2 : (pick x y z fun c => movD x y z H p c && onLine y z 2 j c) = pick x y z fun c => ((p c && !H c) && onLine y z 2 j c) || ((decide ((up c).inBox x y z) && H (up c)) && onLine y z 2 j c) := pick_congr hS fun c _ => by
    unfold movD
    cases (p c && !H c) <;> cases (decide ((up c).inBox x y z) && H (up c)) <;> cases onLine y z 2 j c <;> rfl
  have e3 := mov_up hS (H := H) (q := onLine y z 2 j) (fun c h1 h2 => (hH c h1 h2).2) fun c => up_line
  have e4 := pick_part (x := x) (y := y) (z := z) (fun c => p c && onLine y z 2 j c) H
  have e5 : (pick x y z fun c => (p c && onLine y z 2 j c) && H c) = pick x y z fun d => H d && onLine y z 2 j d := pick_congr hS fun c hc => by
    cases h : H c with
    | false => simp
    | true => rw [(hH c hc h).1]; simp
  have e6 : (pick x y z fun c => (p c && onLine y z 2 j c) && !H c) = pick x y z fun d => (p d && !H d) && onLine y z 2 j d := pick_congr hS fun c hc => by
    cases p c <;> cases H c <;> cases onLine y z 2 j c <;> rfl
  rw [e5, e6] at e4
  rw [e2]
  omega
theorem mov_less {H p : Cell → Bool} (hH : ∀ c, c.inBox x y z → H c = true → p c = true ∧ 1 ≤ c.c) (hx : ∃ c, c.inBox x y z ∧ H c = true) : sumC (pick x y z (movD x y z H p)) < sumC (pick x y z p) := by
  have h1 := sumC_or (fun d => p d && !H d) (fun d => decide ((up d).inBox x y z) && H (up d)) (cellsOf x y z)
  have h3 := sumC_down (l := pick x y z fun d => decide ((up d).inBox x y z) && H (up d)) (pick_ok hS _).nodup (m := pick x y z H) (fun c hc => by
    have := ((mem_pick hS).1 hc).2
    simp only [Bool.and_eq_true, decide_eq_true_eq] at this
    exact (mem_pick hS).2 this) (fun c hc => ((mem_pick hS).1 hc).1.2.2.1) fun c hc => (hH c ((mem_pick hS).1 hc).1 ((mem_pick hS).1 hc).2).2
  have h4 : 0 < (pick x y z H).length := by
    obtain ⟨c, hc, hc2⟩ := hx
    exact List.length_pos_of_mem ((mem_pick hS).2 ⟨hc, hc2⟩)
  have h2 : sumC (pick x y z H) + sumC (pick x y z fun d => p d && !H d) = sumC (pick x y z p) := by
    have := sumC_part p (fun d => p d && H d) (fun c hc => by rw [Bool.and_eq_true] at hc; exact hc.1) (cellsOf x y z)
    have e1 : pick x y z H = (cellsOf x y z).filter fun d => p d && H d := pick_congr hS fun c hc => by
      cases h : H c with
      | false => simp
      | true => rw [(hH c hc h).1]; rfl
    have e2 : (pick x y z fun d => p d && !H d) = (cellsOf x y z).filter fun d => p d && !(p d && H d) := pick_congr hS fun c hc => by
      cases p c <;> cases H c <;> rfl
    rw [e1, e2]
    exact this
  unfold pick at *
  unfold movD
  omega
end
/-- The cells of a column, from the floor. -/
def colL (a b : Int) (n : Nat) : List Cell := (List.range n).map fun k : Nat => ⟨a, b, (k : Int)⟩
theorem colL_len {a b : Int} {n : Nat} : (colL a b n).length = n := by simp [colL]
theorem mem_colL {a b : Int} {n : Nat} {c : Cell} : c ∈ colL a b n ↔ c.a = a ∧ c.b = b ∧ 0 ≤ c.c ∧ c.c < n := by
  unfold colL
  rw [List.mem_map]
  constructor
  · rintro ⟨k, hk, rfl⟩
    rw [List.mem_range] at hk
    exact ⟨rfl, rfl, by simp only; omega, by simp only; omega⟩
  · rintro ⟨h1, h2, h3, h4⟩
    exact ⟨c.c.toNat, List.mem_range.2 (by omega), by rw [cell_eq]; exact ⟨h1.symm, h2.symm, by simp only; omega⟩⟩
theorem colL_nodup {a b : Int} {n : Nat} : (colL a b n).Nodup := by
  unfold colL
  refine List.Pairwise.map _ (fun i j hne h => hne ?_) List.nodup_range
  have : ((i : Nat) : Int) = j := congrArg Cell.c h
  omega
section
variable {x y z : Int} (hS : Sides x y z)
include hS
theorem line_cell {c d : Cell} (hc : c.inBox x y z) (hd : d.inBox x y z) : onLine y z 2 (d.a * y + d.b).toNat c = true ↔ c.a = d.a ∧ c.b = d.b := by
  obtain ⟨hx, hy, hz⟩ := hS
  obtain ⟨⟨_, _⟩, ⟨_, _⟩, ⟨_, _⟩⟩ := hc
  obtain ⟨⟨_, _⟩, ⟨_, _⟩, ⟨_, _⟩⟩ := hd
  unfold onLine lineOf
  rw [decide_eq_true_iff, if_neg (by omega), if_neg (by omega)]
  have e2 : y = 1 ∨ y = 2 ∨ y = 3 ∨ y = 4 := by omega
  rcases e2 with rfl | rfl | rfl | rfl <;> omega
theorem col_at {j : Nat} (hj : j < (x * y).toNat) : ∃ d : Cell, d.inBox x y z ∧ (d.a * y + d.b).toNat = j := by
  obtain ⟨hx, hy, hz⟩ := hS
  refine ⟨⟨(j : Int) / y, (j : Int) % y, 0⟩, ?_, ?_⟩
  · have e2 : y = 1 ∨ y = 2 ∨ y = 3 ∨ y = 4 := by omega
    have e1 : x = 1 ∨ x = 2 ∨ x = 3 ∨ x = 4 := by omega
    refine ⟨⟨?_, ?_⟩, ⟨?_, ?_⟩, ⟨?_, ?_⟩⟩ <;> simp only <;> rcases e1 with rfl | rfl | rfl | rfl <;> rcases e2 with rfl | rfl | rfl | rfl <;> omega
  · have e2 : y = 1 ∨ y = 2 ∨ y = 3 ∨ y = 4 := by omega
    rcases e2 with rfl | rfl | rfl | rfl <;> simp only <;> omega
theorem col_lt {d : Cell} (hd : d.inBox x y z) : (d.a * y + d.b).toNat < (x * y).toNat := by
  obtain ⟨hx, hy, hz⟩ := hS
  obtain ⟨⟨_, _⟩, ⟨_, _⟩, ⟨_, _⟩⟩ := hd
  have e2 : y = 1 ∨ y = 2 ∨ y = 3 ∨ y = 4 := by omega
  rcases e2 with rfl | rfl | rfl | rfl <;> omega
theorem col_le {j : Nat} {p : Cell → Bool} (hj : j < (x * y).toNat) : (colN x y z j p : Int) ≤ z := by
  obtain ⟨d, hd, rfl⟩ := col_at hS hj
  have := nodup_sub (l := pick x y z fun c => p c && onLine y z 2 (d.a * y + d.b).toNat c) (m := colL d.a d.b z.toNat) (pick_ok hS _).nodup fun c hc => by
    obtain ⟨h1, h2⟩ := (mem_pick hS).1 hc
    rw [Bool.and_eq_true] at h2
    obtain ⟨h3, h4⟩ := (line_cell hS h1 hd).1 h2.2
    have := h1.2.2
    exact mem_colL.2 ⟨h3, h4, this.1, by omega⟩
  rw [colL_len] at this
  unfold colN
  have hz := hS.2.2
  omega
/-- The height of the column of a cell, in a view. -/
theorem view_cell {p : Cell → Bool} {c : Cell} (hc : c.inBox x y z) : (viewL x y z 2 (pick x y z p)).getD (c.a * y + c.b).toNat 0 = (colN x y z (c.a * y + c.b).toNat p : Nat) := view_get (col_lt hS hc)
theorem col_stack {p : Cell → Bool} {j : Nat} (hj : j < (x * y).toNat) : colN x y z j (stackP y (viewL x y z 2 (pick x y z p))) = colN x y z j p := by
  have hle := col_le hS (p := p) hj
  obtain ⟨d, hd, rfl⟩ := col_at hS hj
  rw [← colL_len (a := d.a) (b := d.b) (n := colN x y z (d.a * y + d.b).toNat p)]
  unfold colN
  refine same_len (pick_ok hS _).nodup colL_nodup fun c => ?_
  rw [mem_pick hS, mem_colL]
  constructor
  · rintro ⟨h1, h2⟩
    rw [Bool.and_eq_true] at h2
    obtain ⟨h3, h4⟩ := (line_cell hS h1 hd).1 h2.2
    have h5 := of_decide_eq_true h2.1
    rw [view_cell hS h1, h3, h4] at h5
    exact ⟨h3, h4, h1.2.2.1, h5⟩
  · rintro ⟨h1, h2, h3, h4⟩
    have hin : c.inBox x y z := by
      obtain ⟨k1, k2, k3⟩ := hd
      rw [← h1] at k1
      rw [← h2] at k2
      have h4' : c.c < (colN x y z (d.a * y + d.b).toNat p : Nat) := h4
      exact ⟨k1, k2, h3, by omega⟩
    refine ⟨hin, ?_⟩
    rw [Bool.and_eq_true]
    refine ⟨?_, (line_cell hS hin hd).2 ⟨h1, h2⟩⟩
    unfold stackP
    rw [decide_eq_true_iff, view_cell hS hin, h1, h2]
    exact h4
theorem view_stack {p : Cell → Bool} : viewL x y z 2 (pick x y z (stackP y (viewL x y z 2 (pick x y z p)))) = viewL x y z 2 (pick x y z p) := view_ext fun j hj => col_stack hS hj
/-- All cells below a cell of the set are in it. -/
def Filled1 (x y z : Int) (p : Cell → Bool) : Prop := ∀ c, c.inBox x y z → p c = true → 0 < c.c → p (down c) = true
theorem down_in {c : Cell} (hc : c.inBox x y z) (h0 : 0 < c.c) : (down c).inBox x y z := by
  obtain ⟨q1, q2, q3⟩ := hc
  exact ⟨q1, q2, by unfold down; simp only; omega, by unfold down; simp only; omega⟩
theorem filled_all {p : Cell → Bool} (hF : Filled1 x y z p) : ∀ {n : Nat} {c : Cell}, c.inBox x y z → p c = true → c.c = n → ∀ {k : Int}, 0 ≤ k → k ≤ c.c → p ⟨c.a, c.b, k⟩ = true
  | 0, c, hc, hp, hn, k, h0, h1 => by
    rw [show k = c.c by omega]; exact hp
  | n + 1, c, hc, hp, hn, k, h0, h1 => by
    by_cases e : k = c.c
    · rw [e]; exact hp
    have := filled_all hF (n := n) (down_in hS hc (by omega)) (hF c hc hp (by omega)) (by unfold down; simp only; omega) (k := k) h0 (by unfold down; simp only; omega)
    exact this
theorem filled_stack {p : Cell → Bool} (hF : Filled1 x y z p) {c : Cell} (hc : c.inBox x y z) : stackP y (viewL x y z 2 (pick x y z p)) c = p c := by
  rw [Bool.eq_iff_iff]
  unfold stackP
  rw [decide_eq_true_iff, view_cell hS hc]
  have h0 := hc.2.2.1
  constructor
  · intro h
    apply Classical.byContradiction
    intro hp
    have := nodup_sub (l := pick x y z fun e => p e && onLine y z 2 (c.a * y + c.b).toNat e) (m := colL c.a c.b c.c.toNat) (pick_ok hS _).nodup fun e he => by
      obtain ⟨h1, h2⟩ := (mem_pick hS).1 he
      rw [Bool.and_eq_true] at h2
      obtain ⟨h3, h4⟩ := (line_cell hS h1 hc).1 h2.2
      refine mem_colL.2 ⟨h3, h4, h1.2.2.1, ?_⟩
      apply Classical.byContradiction
      intro hlt
      have := filled_all hS hF (n := e.c.toNat) h1 h2.1 (by have := h1.2.2.1; omega) (k := c.c) h0 (by omega)
      rw [h3, h4] at this
      exact hp this
    rw [colL_len] at this
    unfold colN at h
    omega
  · intro hp
    have := nodup_sub (l := colL c.a c.b (c.c.toNat + 1)) (m := pick x y z fun e => p e && onLine y z 2 (c.a * y + c.b).toNat e) colL_nodup fun e he => by
      obtain ⟨h1, h2, h3, h4⟩ := mem_colL.1 he
      have hpe := filled_all hS hF (n := c.c.toNat) hc hp (by omega) (k := e.c) h3 (by omega)
      rw [show (⟨c.a, c.b, e.c⟩ : Cell) = e by rw [cell_eq]; exact ⟨h1.symm, h2.symm, rfl⟩] at hpe
      have hin : e.inBox x y z := by
        obtain ⟨q1, q2, q3⟩ := hc
        rw [← h1] at q1
        rw [← h2] at q2
        exact ⟨q1, q2, h3, by omega⟩
      exact (mem_pick hS).2 ⟨hin, by rw [Bool.and_eq_true]; exact ⟨hpe, (line_cell hS hin hc).2 ⟨h1, h2⟩⟩⟩
    rw [colL_len] at this
    unfold colN
    omega
theorem stack_filled {hs : List Int} : Filled1 x y z (stackP y hs) := fun c hc hp h0 => by
  unfold stackP at *
  have := of_decide_eq_true hp
  refine decide_eq_true ?_
  unfold down
  simp only
  omega
theorem filled_firm {p : Cell → Bool} (hF : Filled1 x y z p) : Firm x y z p := by
  have : ∀ (n : Nat) (c : Cell), c.inBox x y z → p c = true → c.c = n → stand x y z p c = true := by
    intro n
    induction n with
    | zero =>
      intro c hc hp hn
      unfold stand
      rw [reach_iff]
      exact .base hc (by rw [hp]; simp; omega)
    | succ n ih =>
      intro c hc hp hn
      have h := ih (down c) (down_in hS hc (by omega)) (hF c hc hp (by omega)) (by unfold down; simp only; omega)
      unfold stand at *
      rw [reach_iff] at *
      exact .step h (by unfold apart down; simp only; omega) hc hp
  exact fun c hc hp => this c.c.toNat c hc hp (by have := hc.2.2.1; omega)
/-- A cell with nothing below. -/
def looseP (p : Cell → Bool) (c : Cell) : Bool := decide (0 < c.c) && !p (down c)
theorem loose_filled {p : Cell → Bool} : (pick x y z fun c => p c && looseP p c).length = 0 ↔ Filled1 x y z p := by
  rw [List.length_eq_zero_iff]
  unfold pick
  rw [List.filter_eq_nil_iff]
  constructor
  · intro h c hc hp h0
    have := h c ((mem_cellsOf hS).2 hc)
    unfold looseP at this
    rw [hp, decide_eq_true h0] at this
    simpa using this
  · intro h c hc e
    unfold looseP at e
    simp only [Bool.and_eq_true, decide_eq_true_eq, Bool.not_eq_true'] at e
    have := h c ((mem_cellsOf hS).1 hc) e.1 e.2.1
    rw [this] at e
    exact Bool.noConfusion e.2.2
theorem settled_iff {p : Cell → Bool} : pick x y z (stackP y (viewL x y z 2 (pick x y z p))) = pick x y z p ↔ Filled1 x y z p := by
  constructor
  · intro h c hc hp h0
    have h1 : c ∈ pick x y z (stackP y (viewL x y z 2 (pick x y z p))) := by rw [h]; exact (mem_pick hS).2 ⟨hc, hp⟩
    have h2 := stack_filled hS c hc ((mem_pick hS).1 h1).2 h0
    have h3 : down c ∈ pick x y z p := by rw [← h]; exact (mem_pick hS).2 ⟨down_in hS hc h0, h2⟩
    exact ((mem_pick hS).1 h3).2
  · intro h
    exact pick_congr hS fun c hc => filled_stack hS h hc
theorem drop_sum : ∀ (n : Nat) (p : Cell → Bool), sumC (pick x y z p) = n → Filled1 x y z p ∨ sumC (pick x y z (stackP y (viewL x y z 2 (pick x y z p)))) < sumC (pick x y z p) := by
  intro n
  induction n using Nat.strongRecOn with
  | _ n ih =>
    intro p hn
    by_cases hF : Filled1 x y z p
    · exact .inl hF
    refine .inr ?_
    obtain ⟨c, hc, hp, h0, hd⟩ : ∃ c, c.inBox x y z ∧ p c = true ∧ 0 < c.c ∧ ¬ p (down c) = true := by
      apply Classical.byContradiction
      intro hno
      apply hF
      intro c hc hp h0
      apply Classical.byContradiction
      intro hd
      exact hno ⟨c, hc, hp, h0, hd⟩
    have hH : ∀ d : Cell, d.inBox x y z → decide (d = c) = true → p d = true ∧ 1 ≤ d.c := fun d hd e => by
      rw [of_decide_eq_true e]; exact ⟨hp, by omega⟩
    have hv := view_ext (x := x) (y := y) (z := z) (p := movD x y z (fun d => decide (d = c)) p) (q := p) fun j _ => mov_col hS (H := fun d => decide (d = c)) hH (fun d hdb hpd _ _ => by
      refine decide_eq_false fun e => hd ?_
      rw [← e, down_up]
      exact hpd) j
    have hl := mov_less hS (H := fun d => decide (d = c)) (p := p) hH ⟨c, hc, by simp⟩
    rcases ih _ (by omega) (movD x y z (fun d => decide (d = c)) p) rfl with h | h
    · have := (settled_iff hS).2 h
      rw [hv] at this
      rw [this]; exact hl
    · rw [hv] at h
      omega
theorem sink_mov {p : Cell → Bool} {d : Cell} (hd : d.inBox x y z) : sinkNext x y z p d = movD x y z (hang x y z p) p d := by
  unfold sinkNext movD
  congr 1
  unfold hang
  cases hs : stand x y z p d with
  | true => rw [stand_sub hs]; rfl
  | false => cases p d <;> rfl
theorem hang_dis {p : Cell → Bool} (d : Cell) (hd : d.inBox x y z) (hp : p d = true) (hh : hang x y z p d = false) (hu : (up d).inBox x y z) : hang x y z p (up d) = false := by
  unfold hang at *
  rw [hp] at hh
  cases hpu : p (up d) with
  | false => rfl
  | true =>
    have hs : stand x y z p d = true := by simpa using hh
    have : stand x y z p (up d) = true := by
      unfold stand at *
      rw [reach_iff] at *
      exact .step hs (by unfold apart up; simp only; omega) hu hpu
    rw [this]; rfl
theorem sink_view {p : Cell → Bool} : viewL x y z 2 (pick x y z (sinkNext x y z p)) = viewL x y z 2 (pick x y z p) := by
  rw [pick_congr hS fun d hd => sink_mov hS hd]
  refine view_ext fun j _ => mov_col hS (fun c hc hh => ⟨?_, (hang_up hS hc hh).1⟩) (fun d hd hp hh hu => hang_dis hS d hd hp hh hu) j
  unfold hang at hh
  rw [Bool.and_eq_true] at hh
  exact hh.1
theorem sink_stand {p : Cell → Bool} {c : Cell} (h : stand x y z p c = true) : stand x y z (sinkNext x y z p) c = true := by
  have hsn : ∀ e, stand x y z p e = true → sinkNext x y z p e = true := fun e he => by unfold sinkNext; rw [he]; rfl
  have h' := h
  unfold stand at h'
  rw [reach_iff] at h'
  have : stand x y z p c = true ∧ Reach x y z (fun e => sinkNext x y z p e && decide (e.c = 0)) (sinkNext x y z p) c := by
    refine h'.ind (P := fun c => stand x y z p c = true ∧ Reach x y z (fun e => sinkNext x y z p e && decide (e.c = 0)) (sinkNext x y z p) c) (fun e h1 h2 => ?_) (fun a b ha hab hb hq => ?_)
    · have hs : stand x y z p e = true := by unfold stand; rw [reach_iff]; exact .base h1 h2
      rw [Bool.and_eq_true] at h2
      exact ⟨hs, .base h1 (by rw [hsn e hs, h2.2]; rfl)⟩
    · have hs : stand x y z p b = true := by
        have := ha.1
        unfold stand at *
        rw [reach_iff] at *
        exact .step this hab hb hq
      exact ⟨hs, .step ha.2 hab hb (hsn b hs)⟩
  unfold stand
  rw [reach_iff]
  exact this.2
/-- What sinking leaves. -/
theorem sink_law : ∀ (f k : Nat) (p : Cell → Bool), sumC (pick x y z p) < f → k ≤ 3 → (∀ c, c.inBox x y z → hang x y z p c = true → c.c + k ≤ z - 1) →
    Firm x y z (sink x y z f p).1 ∧ (∀ c, stand x y z p c = true → (sink x y z f p).1 c = true) ∧ viewL x y z 2 (pick x y z (sink x y z f p).1) = viewL x y z 2 (pick x y z p) ∧ (sink x y z f p).2 + k ≤ 3 ∧ ((sink x y z f p).2 = 0 ↔ Firm x y z p)
  | 0, _, _, h, _, _ => by omega
  | f + 1, k, p, h, hk, hg => by
    have hz := hS.2.2
    by_cases hF : Firm x y z p
    · have e : sink x y z (f + 1) p = (p, 0) := by simp only [sink, if_pos hF]
      rw [e]
      exact ⟨hF, fun c hc => stand_sub hc, rfl, by simpa using hk, by simpa using hF⟩
    have e : sink x y z (f + 1) p = ((sink x y z f (sinkNext x y z p)).1, (sink x y z f (sinkNext x y z p)).2 + 1) := by simp only [sink, if_neg hF]
    obtain ⟨c, hc, hhc⟩ : ∃ c, c.inBox x y z ∧ hang x y z p c = true := by
      apply Classical.byContradiction
      intro hno
      apply hF
      intro c hc hp
      apply Classical.byContradiction
      intro hs
      exact hno ⟨c, hc, by unfold hang; rw [hp]; simpa using hs⟩
    have h1 := (hang_up hS hc hhc).1
    have h2 := hg c hc hhc
    have hl := sink_less hS hF
    have ih := sink_law f (k + 1) (sinkNext x y z p) (by omega) (by omega) (fun d hd hhd => by
      unfold hang at hhd
      simp only [Bool.and_eq_true, Bool.not_eq_true'] at hhd
      obtain ⟨k1, k2⟩ := hhd
      have k3 : stand x y z p d = false := by
        cases hs : stand x y z p d with
        | false => rfl
        | true => rw [sink_stand hS hs] at k2; exact Bool.noConfusion k2
      unfold sinkNext at k1
      rw [k3, Bool.false_or, Bool.and_eq_true, decide_eq_true_iff] at k1
      have := hg _ k1.1 k1.2
      have h5 : (up d).c = d.c + 1 := rfl
      omega)
    rw [e]
    refine ⟨ih.1, fun d hd => ih.2.1 d (sink_stand hS hd), ih.2.2.1.trans (sink_view hS), ?_, ?_⟩
    · have := ih.2.2.2.1; simp only; omega
    · simp only
      exact ⟨fun e => by omega, fun e => (hF e).elim⟩
end
end Go.Ab

/- The abstract code of some functions (written by a program of mine from the translation, by way of prepF). -/
namespace Go.Ab.C
open Go.Ab
end Go.Ab.C

/- That the program has this code. -/
namespace Go.Ab.K
open Go Go.Ab
end Go.Ab.K

/- Contracts: the reference's mirrored, other, cropped, widened and shifted heaps. -/
namespace Go.Ab
open Go
set_option linter.unusedSimpArgs false
set_option linter.unusedVariables false
set_option maxRecDepth 20000

theorem heapX_box {M N : Mem} {q u : Nat} {g : Hp} {A : Mem → Prop} {old : List LV} (hq : Live N q (.row old true 0)) (ho : old.length = 4) (hu : Live N u (.row (triL g.cs) true 3)) (hql : M.length ≤ q) (hul : M.length ≤ u) (hp : Pre M N)
    (hA : ∀ N', Live N' q (.row [.I g.x, .I g.y, .I g.z, .ref u 0 g.cs.length] true 0) → HeapT M g (.tup [.agg [.I g.x, .I g.y, .I g.z, .ref u 0 g.cs.length], .B true]) N' → Pre M N' → A N') : memK (setCells N q 0 [.I g.x, .I g.y, .I g.z, .ref u 0 g.cs.length]) A := by
  have hne : u ≠ q := by
    rintro rfl
    exact hu.ne_esz hq (by decide) rfl
  refine memK_box hq (by rw [ho]; rfl) fun N3 k1 k2 k3 => hA N3 k2 ⟨u, rfl, live_step hu hne k3, hul⟩ (pre_step hp hql (j := 0) k1 k3)
section
variable {x y z : Int} {t : Nat} {w : Bool} {cs : List Cell} {M : Mem} (h : Live M t (.row (triL cs) w 3)) (hn : cs.length ≤ 1000000000)
include h hn
end
end Go.Ab

/- Contracts: the reference's drops, sums, standing and hanging cubes. -/
namespace Go.Ab
open Go
set_option linter.unusedSimpArgs false
set_option linter.unusedVariables false
set_option maxRecDepth 20000

/-- The cells behind the drop. -/
def drpX (x y z : Int) (cs : List Cell) : List Cell := pick x y z (stackP y (viewL x y z 2 cs))
def inP (cs : List Cell) : Cell → Bool := fun c => decide (c ∈ cs)
noncomputable def stdL (x y z : Int) (cs : List Cell) : List Cell := pick x y z (stand x y z (inP cs))
noncomputable def hngL (x y z : Int) (cs : List Cell) : List Cell := pick x y z (hang x y z (inP cs))
def lsN (cs : List Cell) : Nat := (cs.filter (looseP (inP cs))).length
section
variable (x y z : Int) (cs : List Cell)
noncomputable def drpOf : Option Hp := by
  classical
  exact if HeapOK x y z cs then some ⟨x, y, z, drpX x y z cs⟩ else none
noncomputable def fsOf : Option Int := by
  classical
  exact if HeapOK x y z cs then some ((sumC cs : Int) - sumC (drpX x y z cs)) else none
noncomputable def stdOf : Option (List Cell) := by
  classical
  exact if HeapOK x y z cs then some (stdL x y z cs) else none
noncomputable def hngOf : Option (List Cell) := by
  classical
  exact if HeapOK x y z cs then some (hngL x y z cs) else none
noncomputable def lbOf : Option Int := by
  classical
  exact if HeapOK x y z cs then some (lsN cs : Nat) else none
noncomputable def setOf : Option Bool := by
  classical
  exact if HeapOK x y z cs then some (decide (drpX x y z cs = cs)) else none
end
/-- A list of cells, or none and false; it lies in a block of its own. -/
def CellsX (M : Mem) (r : Option (List Cell)) (v : LV) (N : Mem) : Prop := ∃ u : Nat, v = .tup [.ref u 0 (r.getD []).length, .B r.isSome] ∧ Live N u (.row (triL (r.getD [])) true 3) ∧ Pre M N
theorem cellsX_of {f : FuncId} {args : List LV} {M : Mem} {r : Option (List Cell)} (h : CallsR PG f args M fun v N => (∃ l u, r = some l ∧ v = .tup [.ref u 0 l.length, .B true] ∧ Live N u (.row (triL l) true 3) ∧ Pre M N) ∨ (r = none ∧ (v = .tup [.nil, .B false] ∨ ∃ u, v = .tup [.ref u 0 0, .B false] ∧ Live N u (.row [] true 3)) ∧ Pre M N)) : CallsR PG f args M (CellsX M r) := by
  refine h.den (e := 3) ?_
  rintro v N (⟨l, u, rfl, rfl, hu, hp⟩ | ⟨rfl, rfl | ⟨u, rfl, hu⟩, hp⟩)
  · exact .inl ⟨u, rfl, hu, hp⟩
  · exact .inr ⟨.tup [.ref N.length 0 0, .B false], .inr ⟨_, _, rfl, rfl, .inl .nil, .rfl, trivial⟩, N.length, rfl, Live.new, hp.trans (Pre.app _ _)⟩
  · exact .inl ⟨u, rfl, hu, hp⟩
theorem cellsX_no {M : Mem} {r : Option (List Cell)} {u : Nat} {v : LV} {N : Mem} (hr : r = none) (hv : v = .tup [.ref u 0 0, .B false]) (hu : Live N u (.row [] true 3)) (hp : Pre M N) : (∃ l u, r = some l ∧ v = .tup [.ref u 0 l.length, .B true] ∧ Live N u (.row (triL l) true 3) ∧ Pre M N) ∨ (r = none ∧ (v = .tup [.nil, .B false] ∨ ∃ u, v = .tup [.ref u 0 0, .B false] ∧ Live N u (.row [] true 3)) ∧ Pre M N) := .inr ⟨hr, .inr ⟨u, hv, hu⟩, hp⟩
theorem cellsX_nil {M : Mem} {r : Option (List Cell)} {v : LV} {N : Mem} (hr : r = none) (hv : v = .tup [.nil, .B false]) (hp : Pre M N) : (∃ l u, r = some l ∧ v = .tup [.ref u 0 l.length, .B true] ∧ Live N u (.row (triL l) true 3) ∧ Pre M N) ∨ (r = none ∧ (v = .tup [.nil, .B false] ∨ ∃ u, v = .tup [.ref u 0 0, .B false] ∧ Live N u (.row [] true 3)) ∧ Pre M N) := .inr ⟨hr, .inl hv, hp⟩
theorem cellsX_yes {M : Mem} {r : Option (List Cell)} {l : List Cell} {u : Nat} {v : LV} {N : Mem} (hr : r = some l) (hv : v = .tup [.ref u 0 l.length, .B true]) (hu : Live N u (.row (triL l) true 3)) (hp : Pre M N) : (∃ l u, r = some l ∧ v = .tup [.ref u 0 l.length, .B true] ∧ Live N u (.row (triL l) true 3) ∧ Pre M N) ∨ (r = none ∧ (v = .tup [.nil, .B false] ∨ ∃ u, v = .tup [.ref u 0 0, .B false] ∧ Live N u (.row [] true 3)) ∧ Pre M N) := .inl ⟨l, u, hr, hv, hu, hp⟩
theorem heap_pick {x y z : Int} {cs : List Cell} (hH : HeapOK x y z cs) : pick x y z (inP cs) = cs := hH.pick.symm
theorem view_bound {x y z : Int} {cs : List Cell} (hH : HeapOK x y z cs) : ((viewL x y z 2 cs).length : Int) = x * y := by
  rw [viewL_len]
  have := vol_bound hH.1
  show ((x * y).toNat : Int) = x * y
  omega
theorem sumC_small {l : List Cell} : (∀ c ∈ l, 0 ≤ c.c ∧ c.c ≤ 3) → sumC l ≤ 3 * l.length := by
  induction l with
  | nil => intro _; simp [sumC]
  | cons a l ih =>
    intro h
    have := ih fun c hc => h c (by simp [hc])
    have h2 := h a (by simp)
    rw [sumC_cons, List.length_cons]; omega
theorem sumC_heap {x y z : Int} {cs : List Cell} (hH : HeapOK x y z cs) : (∀ c ∈ cs, 0 ≤ c.c ∧ c.c ≤ 3) ∧ sumC cs ≤ 192 := by
  have h1 : ∀ c ∈ cs, 0 ≤ c.c ∧ c.c ≤ 3 := fun c hc => by
    have := (hH.mem hc).2.2
    have := hH.1.2.2
    omega
  have := sumC_small h1
  have := hH.len
  exact ⟨h1, by omega⟩
theorem sumC_take {l : List Cell} {k : Nat} (hk : k < l.length) : sumC (l.take (k + 1)) = sumC (l.take k) + (l.getD k default).c.toNat := by
  rw [take_snoc' (d := default) hk]
  unfold sumC
  simp
section
variable {x y z : Int} {t : Nat} {w : Bool} {cs : List Cell} {M : Mem} (h : Live M t (.row (triL cs) w 3))
include h
theorem h_l7Drop (hH : HeapOK x y z cs) : CallsR PG F.spec_l7Drop [.agg [.I x, .I y, .I z, .ref t 0 cs.length]] M fun v N => HeapV M x y z (drpX x y z cs) v N ∧ Pre M N := by
  have hv := view_bound hH
  refine callsR_run K.spec_l7Drop rfl ?_
  simp (disch := omega) only [C.spec_l7Drop, ↓SXd, SXu, slBounds, ↓sop, ↓aop, ↓reduceIte, LV.cells, AOp.dst, LV.I, LV.B, LV.U, LV.S, LV.nil, Nat.reduceEqDiff, Nat.reduceAdd, Nat.reduceMul, Nat.reduceSub, Nat.reduceLeDiff, Nat.reduceBEq, Nat.reduceDiv, Nat.reduceMod, Int.reduceToNat, Int.reduceLT, Int.reduceLE, Int.reduceAdd, Int.reduceSub, Int.reduceMul, Int.reduceEq, Int.reduceNeg, reduceCtorEq, resV, resAll, ARes.ev, LV.flat, ite_true, ite_false, exists_eq_left', exists_eq_left, keyOf, implies_true, fillC, capOf]
  refine callN_of (h_l2Heights (Has.app h.has) hH) ?_
  intro u N hu hp hb
  simp (disch := omega) only [↓SXd, SXu, slBounds, ↓sop, ↓aop, ↓reduceIte, LV.cells, AOp.dst, LV.I, LV.B, LV.U, LV.S, LV.nil, Nat.reduceEqDiff, Nat.reduceAdd, Nat.reduceMul, Nat.reduceSub, Nat.reduceLeDiff, Nat.reduceBEq, Nat.reduceDiv, Nat.reduceMod, Int.reduceToNat, Int.reduceLT, Int.reduceLE, Int.reduceAdd, Int.reduceSub, Int.reduceMul, Int.reduceEq, Int.reduceNeg, reduceCtorEq, resV, resAll, ARes.ev, LV.flat, ite_true, ite_false, exists_eq_left', exists_eq_left, keyOf, implies_true, fillC, capOf]
  refine ⟨fun b hb' => by subst hb'; exact Live.new.pre hp, ?_⟩
  refine callR_of (h_l2Stack hH.1 hb.has hv) ?_
  rintro _ N2 ⟨w2, rfl, hw2, hwl, hp2⟩
  simp only [List.length_append, List.length_cons, List.length_nil] at hu
  have hN := hp.1
  simp only [List.length_append, List.length_cons, List.length_nil] at hN
  have b2 : Live N2 (M.length + 1) (.row [.I 0, .I 0, .I 0, .nil] true 0) := ((Live.newj (j := 1) rfl).pre hp).pre hp2
  have hw2l := hw2.lt
  have hne := hw2.ne_esz b2 (by decide)
  simp (disch := omega) only [↓SXd, SXu, slBounds, ↓sop, ↓aop, ↓reduceIte, LV.cells, AOp.dst, LV.I, LV.B, LV.U, LV.S, LV.nil, Nat.reduceEqDiff, Nat.reduceAdd, Nat.reduceMul, Nat.reduceSub, Nat.reduceLeDiff, Nat.reduceBEq, Nat.reduceDiv, Nat.reduceMod, Int.reduceToNat, Int.reduceLT, Int.reduceLE, Int.reduceAdd, Int.reduceSub, Int.reduceMul, Int.reduceEq, Int.reduceNeg, reduceCtorEq, resV, resAll, ARes.ev, LV.flat, ite_true, ite_false, exists_eq_left', exists_eq_left, keyOf, implies_true, fillC, capOf]
  refine memK_box b2 (by simp) fun N3 k1 k2 k3 => ?_
  simp (disch := omega) only [k2.cells, ↓SXd, SXu, slBounds, ↓sop, ↓aop, ↓reduceIte, LV.cells, AOp.dst, LV.I, LV.B, LV.U, LV.S, LV.nil, Nat.reduceEqDiff, Nat.reduceAdd, Nat.reduceMul, Nat.reduceSub, Nat.reduceLeDiff, Nat.reduceBEq, Nat.reduceDiv, Nat.reduceMod, Int.reduceToNat, Int.reduceLT, Int.reduceLE, Int.reduceAdd, Int.reduceSub, Int.reduceMul, Int.reduceEq, Int.reduceNeg, reduceCtorEq, resV, resAll, ARes.ev, LV.flat, ite_true, ite_false, exists_eq_left', exists_eq_left, keyOf, implies_true, fillC, capOf]
  exact ⟨⟨w2, rfl, live_step hw2 hne k3, by omega⟩, pre_step (((Pre.app _ _).trans hp).trans hp2) (by omega) (j := 0) k1 k3⟩
theorem h_sDropHeap (hn : cs.length ≤ 1000000000) : CallsR PG F.spec_DropHeap [.agg [.I x, .I y, .I z, .ref t 0 cs.length]] M (HeapX M (drpOf x y z cs)) := by
  refine heapX_of ?_
  refine callsR_run K.spec_DropHeap rfl ?_
  simp (disch := omega) only [C.spec_DropHeap, ↓SXd, SXu, slBounds, ↓sop, ↓aop, ↓reduceIte, LV.cells, AOp.dst, LV.I, LV.B, LV.U, LV.S, LV.nil, Nat.reduceEqDiff, Nat.reduceAdd, Nat.reduceMul, Nat.reduceSub, Nat.reduceLeDiff, Nat.reduceBEq, Nat.reduceDiv, Nat.reduceMod, Int.reduceToNat, Int.reduceLT, Int.reduceLE, Int.reduceAdd, Int.reduceSub, Int.reduceMul, Int.reduceEq, Int.reduceNeg, reduceCtorEq, resV, resAll, ARes.ev, LV.flat, ite_true, ite_false, exists_eq_left', exists_eq_left, keyOf, implies_true, fillC, capOf]
  refine callK_of (h_l2Heap (Has.app h.has) hn) ?_
  simp (disch := omega) only [↓SXd, SXu, slBounds, ↓sop, ↓aop, ↓reduceIte, LV.cells, AOp.dst, LV.I, LV.B, LV.U, LV.S, LV.nil, Nat.reduceEqDiff, Nat.reduceAdd, Nat.reduceMul, Nat.reduceSub, Nat.reduceLeDiff, Nat.reduceBEq, Nat.reduceDiv, Nat.reduceMod, Int.reduceToNat, Int.reduceLT, Int.reduceLE, Int.reduceAdd, Int.reduceSub, Int.reduceMul, Int.reduceEq, Int.reduceNeg, reduceCtorEq, resV, resAll, ARes.ev, LV.flat, ite_true, ite_false, exists_eq_left', exists_eq_left, keyOf, implies_true, fillC, capOf]
  by_cases hH : HeapOK x y z cs
  rotate_left
  · simp (disch := omega) only [hH, splice, ↓SXd, SXu, slBounds, ↓sop, ↓aop, ↓reduceIte, LV.cells, AOp.dst, LV.I, LV.B, LV.U, LV.S, LV.nil, Nat.reduceEqDiff, Nat.reduceAdd, Nat.reduceMul, Nat.reduceSub, Nat.reduceLeDiff, Nat.reduceBEq, Nat.reduceDiv, Nat.reduceMod, Int.reduceToNat, Int.reduceLT, Int.reduceLE, Int.reduceAdd, Int.reduceSub, Int.reduceMul, Int.reduceEq, Int.reduceNeg, reduceCtorEq, resV, resAll, ARes.ev, LV.flat, ite_true, ite_false, exists_eq_left', exists_eq_left, keyOf, implies_true, fillC, capOf]
    exact heapX_no (if_neg fun e => hH e) rfl (Pre.app _ _)
  have hif : drpOf x y z cs = some ⟨x, y, z, drpX x y z cs⟩ := if_pos hH
  rw [hif]
  simp (disch := omega) only [hH, ↓SXd, SXu, slBounds, ↓sop, ↓aop, ↓reduceIte, LV.cells, AOp.dst, LV.I, LV.B, LV.U, LV.S, LV.nil, Nat.reduceEqDiff, Nat.reduceAdd, Nat.reduceMul, Nat.reduceSub, Nat.reduceLeDiff, Nat.reduceBEq, Nat.reduceDiv, Nat.reduceMod, Int.reduceToNat, Int.reduceLT, Int.reduceLE, Int.reduceAdd, Int.reduceSub, Int.reduceMul, Int.reduceEq, Int.reduceNeg, reduceCtorEq, resV, resAll, ARes.ev, LV.flat, ite_true, ite_false, exists_eq_left', exists_eq_left, keyOf, implies_true, fillC, capOf]
  refine callR_of (h_l7Drop h.app hH) ?_
  rintro _ N ⟨⟨u, rfl, hu, hul⟩, hp⟩
  rw [List.length_append] at hul
  simp only [List.length_cons, List.length_nil] at hul
  simp (disch := omega) only [↓SXd, SXu, slBounds, ↓sop, ↓aop, ↓reduceIte, LV.cells, AOp.dst, LV.I, LV.B, LV.U, LV.S, LV.nil, Nat.reduceEqDiff, Nat.reduceAdd, Nat.reduceMul, Nat.reduceSub, Nat.reduceLeDiff, Nat.reduceBEq, Nat.reduceDiv, Nat.reduceMod, Int.reduceToNat, Int.reduceLT, Int.reduceLE, Int.reduceAdd, Int.reduceSub, Int.reduceMul, Int.reduceEq, Int.reduceNeg, reduceCtorEq, resV, resAll, ARes.ev, LV.flat, ite_true, ite_false, exists_eq_left', exists_eq_left, keyOf, implies_true, fillC, capOf]
  refine heapX_box (g := ⟨x, y, z, drpX x y z cs⟩) ((Live.newj (j := 1) rfl).pre hp) rfl hu (by omega) (by omega) ((Pre.app _ _).trans hp) fun N' e1 e2 e3 => ?_
  simp (disch := omega) only [e1.cells, ↓SXd, SXu, slBounds, ↓sop, ↓aop, ↓reduceIte, LV.cells, AOp.dst, LV.I, LV.B, LV.U, LV.S, LV.nil, Nat.reduceEqDiff, Nat.reduceAdd, Nat.reduceMul, Nat.reduceSub, Nat.reduceLeDiff, Nat.reduceBEq, Nat.reduceDiv, Nat.reduceMod, Int.reduceToNat, Int.reduceLT, Int.reduceLE, Int.reduceAdd, Int.reduceSub, Int.reduceMul, Int.reduceEq, Int.reduceNeg, reduceCtorEq, resV, resAll, ARes.ev, LV.flat, ite_true, ite_false, exists_eq_left', exists_eq_left, keyOf, implies_true, fillC, capOf]
  exact .inl ⟨e2, e3⟩
end
theorem h_l5Same {x y z : Int} {t t' : Nat} {w w' : Bool} {cs ds : List Cell} {M : Mem} (h : Live M t (.row (triL cs) w 3)) (h' : Live M t' (.row (triL ds) w' 3)) (hn : cs.length ≤ 1000000) (hn' : ds.length ≤ 1000000) :
    CallsTo PG F.spec_l5Same [.agg [.I x, .I y, .I z, .ref t 0 cs.length], .agg [.I x, .I y, .I z, .ref t' 0 ds.length]] M (.B (decide (cs = ds))) M := by
  have ht := h.lt
  have ht' := h'.lt
  refine calls_run K.spec_l5Same rfl ?_
  by_cases hl : (cs.length : Int) = ds.length
  rotate_left
  · rw [decide_eq_false (fun e => hl (by rw [e]))]
    simp (disch := omega) only [C.spec_l5Same, hl, ↓SXd, SXu, slBounds, ↓sop, ↓aop, ↓reduceIte, LV.cells, AOp.dst, LV.I, LV.B, LV.U, LV.S, LV.nil, Nat.reduceEqDiff, Nat.reduceAdd, Nat.reduceMul, Nat.reduceSub, Nat.reduceLeDiff, Nat.reduceBEq, Nat.reduceDiv, Nat.reduceMod, Int.reduceToNat, Int.reduceLT, Int.reduceLE, Int.reduceAdd, Int.reduceSub, Int.reduceMul, Int.reduceEq, Int.reduceNeg, reduceCtorEq, resV, resAll, ARes.ev, LV.flat, ite_true, ite_false, exists_eq_left', exists_eq_left, keyOf, implies_true, fillC, capOf]
    exact cmp_drop rfl
  have hln : cs.length = ds.length := by omega
  simp (disch := omega) only [C.spec_l5Same, hl, ↓SXd, SXu, slBounds, ↓sop, ↓aop, ↓reduceIte, LV.cells, AOp.dst, LV.I, LV.B, LV.U, LV.S, LV.nil, Nat.reduceEqDiff, Nat.reduceAdd, Nat.reduceMul, Nat.reduceSub, Nat.reduceLeDiff, Nat.reduceBEq, Nat.reduceDiv, Nat.reduceMod, Int.reduceToNat, Int.reduceLT, Int.reduceLE, Int.reduceAdd, Int.reduceSub, Int.reduceMul, Int.reduceEq, Int.reduceNeg, reduceCtorEq, resV, resAll, ARes.ev, LV.flat, ite_true, ite_false, exists_eq_left', exists_eq_left, keyOf, implies_true, fillC, capOf]
  refine ev_loop (fun m fr M' => ∃ k : Nat, k + m = cs.length ∧ Pre M M' ∧ Live M' M.length (.row [.I x, .I y, .I z, .ref t 0 cs.length] true 0) ∧ Live M' (M.length + 1) (.row [.I x, .I y, .I z, .ref t' 0 ds.length] true 0) ∧ fr 2 = .ptr M.length 0 ∧ fr 3 = .ptr (M.length + 1) 0 ∧ fr 5 = .I k ∧ ∀ j, j < k → cs.getD j default = ds.getD j default) cs.length
    ⟨0, by omega, Pre.app _ _, Live.new, Live.newj rfl, rfl, rfl, rfl, by omega⟩ ?_
  rintro m fr M' ⟨k, hk, hpre, b2, b3, f2, f3, f5, hj⟩
  simp (disch := omega) only [f2, f3, f5, b2.cell, ↓SXd, SXu, slBounds, ↓sop, ↓aop, ↓reduceIte, LV.cells, AOp.dst, LV.I, LV.B, LV.U, LV.S, LV.nil, Nat.reduceEqDiff, Nat.reduceAdd, Nat.reduceMul, Nat.reduceSub, Nat.reduceLeDiff, Nat.reduceBEq, Nat.reduceDiv, Nat.reduceMod, Int.reduceToNat, Int.reduceLT, Int.reduceLE, Int.reduceAdd, Int.reduceSub, Int.reduceMul, Int.reduceEq, Int.reduceNeg, reduceCtorEq, resV, resAll, ARes.ev, LV.flat, ite_true, ite_false, exists_eq_left', exists_eq_left, keyOf, implies_true, fillC, capOf]
  refine condC_dec (fun hlt => ?_) (fun hlt => ?_)
  · have hg := (h.pre hpre).tri0 (k := k) (by omega)
    have hg' := (h'.pre hpre).tri0 (k := k) (by omega)
    simp (disch := omega) only [f2, f3, f5, b2.cell, b3.cell, hg, hg', Cell.row, eqV, eqC, if_true, ite_true, Bool.and_true, Nat.zero_add, ↓SXd, SXu, slBounds, ↓sop, ↓aop, ↓reduceIte, LV.cells, AOp.dst, LV.I, LV.B, LV.U, LV.S, LV.nil, Nat.reduceEqDiff, Nat.reduceAdd, Nat.reduceMul, Nat.reduceSub, Nat.reduceLeDiff, Nat.reduceBEq, Nat.reduceDiv, Nat.reduceMod, Int.reduceToNat, Int.reduceLT, Int.reduceLE, Int.reduceAdd, Int.reduceSub, Int.reduceMul, Int.reduceEq, Int.reduceNeg, reduceCtorEq, resV, resAll, ARes.ev, LV.flat, ite_true, ite_false, exists_eq_left', exists_eq_left, keyOf, implies_true, fillC, capOf]
    rw [beq3]
    by_cases he : cs.getD k default = ds.getD k default
    · simp (disch := omega) only [f2, f3, f5, he, ↓SXd, SXu, slBounds, ↓sop, ↓aop, ↓reduceIte, LV.cells, AOp.dst, LV.I, LV.B, LV.U, LV.S, LV.nil, Nat.reduceEqDiff, Nat.reduceAdd, Nat.reduceMul, Nat.reduceSub, Nat.reduceLeDiff, Nat.reduceBEq, Nat.reduceDiv, Nat.reduceMod, Int.reduceToNat, Int.reduceLT, Int.reduceLE, Int.reduceAdd, Int.reduceSub, Int.reduceMul, Int.reduceEq, Int.reduceNeg, reduceCtorEq, resV, resAll, ARes.ev, LV.flat, ite_true, ite_false, exists_eq_left', exists_eq_left, keyOf, implies_true, fillC, capOf]
      exact ⟨m - 1, by omega, k + 1, by omega, hpre, b2, b3, f2, f3, eqI (natI _), fun j hj1 => by
        rcases Nat.lt_or_ge j k with h2 | h2
        · exact hj j h2
        · rw [show j = k by omega]; exact he⟩
    · simp (disch := omega) only [f2, f3, f5, he, ↓SXd, SXu, slBounds, ↓sop, ↓aop, ↓reduceIte, LV.cells, AOp.dst, LV.I, LV.B, LV.U, LV.S, LV.nil, Nat.reduceEqDiff, Nat.reduceAdd, Nat.reduceMul, Nat.reduceSub, Nat.reduceLeDiff, Nat.reduceBEq, Nat.reduceDiv, Nat.reduceMod, Int.reduceToNat, Int.reduceLT, Int.reduceLE, Int.reduceAdd, Int.reduceSub, Int.reduceMul, Int.reduceEq, Int.reduceNeg, reduceCtorEq, resV, resAll, ARes.ev, LV.flat, ite_true, ite_false, exists_eq_left', exists_eq_left, keyOf, implies_true, fillC, capOf]
      rw [decide_eq_false (fun e => he (by rw [e]))]
      exact cmp_pre hpre rfl
  · simp (disch := omega) only [f2, f3, f5, ↓SXd, SXu, slBounds, ↓sop, ↓aop, ↓reduceIte, LV.cells, AOp.dst, LV.I, LV.B, LV.U, LV.S, LV.nil, Nat.reduceEqDiff, Nat.reduceAdd, Nat.reduceMul, Nat.reduceSub, Nat.reduceLeDiff, Nat.reduceBEq, Nat.reduceDiv, Nat.reduceMod, Int.reduceToNat, Int.reduceLT, Int.reduceLE, Int.reduceAdd, Int.reduceSub, Int.reduceMul, Int.reduceEq, Int.reduceNeg, reduceCtorEq, resV, resAll, ARes.ev, LV.flat, ite_true, ite_false, exists_eq_left', exists_eq_left, keyOf, implies_true, fillC, capOf]
    have hcd : cs = ds := by
      apply List.ext_getElem hln
      intro i h2 h3
      have := hj i (by omega)
      simpa [h2, h3] using this
    rw [decide_eq_true hcd]
    exact cmp_pre hpre rfl
section
variable {x y z : Int} {t : Nat} {w : Bool} {cs : List Cell} {M : Mem} (h : Live M t (.row (triL cs) w 3))
include h
theorem h_l7Sum (hH : HeapOK x y z cs) : CallsTo PG F.spec_l7Sum [.agg [.I x, .I y, .I z, .ref t 0 cs.length]] M (.I (sumC cs : Nat)) M := by
  have ht := h.lt
  have hlen := hH.len
  refine calls_run K.spec_l7Sum rfl ?_
  simp (disch := omega) only [C.spec_l7Sum, ↓SXd, SXu, slBounds, ↓sop, ↓aop, ↓reduceIte, LV.cells, AOp.dst, LV.I, LV.B, LV.U, LV.S, LV.nil, Nat.reduceEqDiff, Nat.reduceAdd, Nat.reduceMul, Nat.reduceSub, Nat.reduceLeDiff, Nat.reduceBEq, Nat.reduceDiv, Nat.reduceMod, Int.reduceToNat, Int.reduceLT, Int.reduceLE, Int.reduceAdd, Int.reduceSub, Int.reduceMul, Int.reduceEq, Int.reduceNeg, reduceCtorEq, resV, resAll, ARes.ev, LV.flat, ite_true, ite_false, exists_eq_left', exists_eq_left, keyOf, implies_true, fillC, capOf]
  refine ev_loop (fun m fr M' => ∃ k : Nat, k + m = cs.length ∧ Pre M M' ∧ Live M' M.length (.row [.I x, .I y, .I z, .ref t 0 cs.length] true 0) ∧ fr 1 = .ptr M.length 0 ∧ fr 3 = .I (sumC (cs.take k) : Nat) ∧ fr 4 = .I k) cs.length
    ⟨0, by omega, Pre.app _ _, Live.new, rfl, rfl, rfl⟩ ?_
  rintro m fr M' ⟨k, hk, hpre, b1, f1, f3, f4⟩
  simp (disch := omega) only [f1, f3, f4, b1.cell, ↓SXd, SXu, slBounds, ↓sop, ↓aop, ↓reduceIte, LV.cells, AOp.dst, LV.I, LV.B, LV.U, LV.S, LV.nil, Nat.reduceEqDiff, Nat.reduceAdd, Nat.reduceMul, Nat.reduceSub, Nat.reduceLeDiff, Nat.reduceBEq, Nat.reduceDiv, Nat.reduceMod, Int.reduceToNat, Int.reduceLT, Int.reduceLE, Int.reduceAdd, Int.reduceSub, Int.reduceMul, Int.reduceEq, Int.reduceNeg, reduceCtorEq, resV, resAll, ARes.ev, LV.flat, ite_true, ite_false, exists_eq_left', exists_eq_left, keyOf, implies_true, fillC, capOf]
  refine condC_dec (fun hlt => ?_) (fun hlt => ?_)
  · have hkl : k < cs.length := by omega
    have hg := Tri.get_c (h.pre hpre).has hkl
    have hst := sumC_take hkl
    have hc := (sumC_heap hH).1 _ (getD_mem' (d := default) hkl)
    have hb := sumC_small (l := cs.take k) fun c hc => (sumC_heap hH).1 c (List.mem_of_mem_take hc)
    have htl := List.length_take_le k cs
    rw [Nat.zero_add] at hg
    simp (disch := omega) only [f1, f3, f4, b1.cell, hg, Nat.mul_one, Nat.zero_add, ↓SXd, SXu, slBounds, ↓sop, ↓aop, ↓reduceIte, LV.cells, AOp.dst, LV.I, LV.B, LV.U, LV.S, LV.nil, Nat.reduceEqDiff, Nat.reduceAdd, Nat.reduceMul, Nat.reduceSub, Nat.reduceLeDiff, Nat.reduceBEq, Nat.reduceDiv, Nat.reduceMod, Int.reduceToNat, Int.reduceLT, Int.reduceLE, Int.reduceAdd, Int.reduceSub, Int.reduceMul, Int.reduceEq, Int.reduceNeg, reduceCtorEq, resV, resAll, ARes.ev, LV.flat, ite_true, ite_false, exists_eq_left', exists_eq_left, keyOf, implies_true, fillC, capOf]
    exact ⟨m - 1, by omega, k + 1, by omega, hpre, b1, f1, eqI (by rw [hst]; omega), eqI (natI _)⟩
  · simp (disch := omega) only [f1, f3, f4, ↓SXd, SXu, slBounds, ↓sop, ↓aop, ↓reduceIte, LV.cells, AOp.dst, LV.I, LV.B, LV.U, LV.S, LV.nil, Nat.reduceEqDiff, Nat.reduceAdd, Nat.reduceMul, Nat.reduceSub, Nat.reduceLeDiff, Nat.reduceBEq, Nat.reduceDiv, Nat.reduceMod, Int.reduceToNat, Int.reduceLT, Int.reduceLE, Int.reduceAdd, Int.reduceSub, Int.reduceMul, Int.reduceEq, Int.reduceNeg, reduceCtorEq, resV, resAll, ARes.ev, LV.flat, ite_true, ite_false, exists_eq_left', exists_eq_left, keyOf, implies_true, fillC, capOf]
    have : k = cs.length := by omega
    subst this
    rw [List.take_length]
    exact cmp_pre hpre rfl
theorem drp_ok (hH : HeapOK x y z cs) : HeapOK x y z (drpX x y z cs) := by
  clear h
  exact pick_ok hH.1 _
theorem h_sIsSettled (hn : cs.length ≤ 1000000000) : CallsR PG F.spec_IsSettled [.agg [.I x, .I y, .I z, .ref t 0 cs.length]] M fun v N => v = .tup [.B ((setOf x y z cs).getD false), .B (setOf x y z cs).isSome] ∧ Pre M N := by
  refine callsR_run K.spec_IsSettled rfl ?_
  simp (disch := omega) only [C.spec_IsSettled, ↓SXd, SXu, slBounds, ↓sop, ↓aop, ↓reduceIte, LV.cells, AOp.dst, LV.I, LV.B, LV.U, LV.S, LV.nil, Nat.reduceEqDiff, Nat.reduceAdd, Nat.reduceMul, Nat.reduceSub, Nat.reduceLeDiff, Nat.reduceBEq, Nat.reduceDiv, Nat.reduceMod, Int.reduceToNat, Int.reduceLT, Int.reduceLE, Int.reduceAdd, Int.reduceSub, Int.reduceMul, Int.reduceEq, Int.reduceNeg, reduceCtorEq, resV, resAll, ARes.ev, LV.flat, ite_true, ite_false, exists_eq_left', exists_eq_left, keyOf, implies_true, fillC, capOf]
  refine callK_of (h_l2Heap (Has.app h.has) hn) ?_
  simp (disch := omega) only [↓SXd, SXu, slBounds, ↓sop, ↓aop, ↓reduceIte, LV.cells, AOp.dst, LV.I, LV.B, LV.U, LV.S, LV.nil, Nat.reduceEqDiff, Nat.reduceAdd, Nat.reduceMul, Nat.reduceSub, Nat.reduceLeDiff, Nat.reduceBEq, Nat.reduceDiv, Nat.reduceMod, Int.reduceToNat, Int.reduceLT, Int.reduceLE, Int.reduceAdd, Int.reduceSub, Int.reduceMul, Int.reduceEq, Int.reduceNeg, reduceCtorEq, resV, resAll, ARes.ev, LV.flat, ite_true, ite_false, exists_eq_left', exists_eq_left, keyOf, implies_true, fillC, capOf]
  by_cases hH : HeapOK x y z cs
  rotate_left
  · rw [show setOf x y z cs = none from if_neg hH]
    simp (disch := omega) only [hH, ↓SXd, SXu, slBounds, ↓sop, ↓aop, ↓reduceIte, LV.cells, AOp.dst, LV.I, LV.B, LV.U, LV.S, LV.nil, Nat.reduceEqDiff, Nat.reduceAdd, Nat.reduceMul, Nat.reduceSub, Nat.reduceLeDiff, Nat.reduceBEq, Nat.reduceDiv, Nat.reduceMod, Int.reduceToNat, Int.reduceLT, Int.reduceLE, Int.reduceAdd, Int.reduceSub, Int.reduceMul, Int.reduceEq, Int.reduceNeg, reduceCtorEq, resV, resAll, ARes.ev, LV.flat, ite_true, ite_false, exists_eq_left', exists_eq_left, keyOf, implies_true, fillC, capOf]
    exact ⟨rfl, Pre.app _ _⟩
  rw [show setOf x y z cs = some (decide (drpX x y z cs = cs)) from if_pos hH]
  have hlen := hH.len
  have hdl := (drp_ok h hH).len
  simp (disch := omega) only [hH, ↓SXd, SXu, slBounds, ↓sop, ↓aop, ↓reduceIte, LV.cells, AOp.dst, LV.I, LV.B, LV.U, LV.S, LV.nil, Nat.reduceEqDiff, Nat.reduceAdd, Nat.reduceMul, Nat.reduceSub, Nat.reduceLeDiff, Nat.reduceBEq, Nat.reduceDiv, Nat.reduceMod, Int.reduceToNat, Int.reduceLT, Int.reduceLE, Int.reduceAdd, Int.reduceSub, Int.reduceMul, Int.reduceEq, Int.reduceNeg, reduceCtorEq, resV, resAll, ARes.ev, LV.flat, ite_true, ite_false, exists_eq_left', exists_eq_left, keyOf, implies_true, fillC, capOf]
  refine callR_of (h_l7Drop h.app hH) ?_
  rintro _ N ⟨⟨u, rfl, hu, hul⟩, hp⟩
  simp (disch := omega) only [↓SXd, SXu, slBounds, ↓sop, ↓aop, ↓reduceIte, LV.cells, AOp.dst, LV.I, LV.B, LV.U, LV.S, LV.nil, Nat.reduceEqDiff, Nat.reduceAdd, Nat.reduceMul, Nat.reduceSub, Nat.reduceLeDiff, Nat.reduceBEq, Nat.reduceDiv, Nat.reduceMod, Int.reduceToNat, Int.reduceLT, Int.reduceLE, Int.reduceAdd, Int.reduceSub, Int.reduceMul, Int.reduceEq, Int.reduceNeg, reduceCtorEq, resV, resAll, ARes.ev, LV.flat, ite_true, ite_false, exists_eq_left', exists_eq_left, keyOf, implies_true, fillC, capOf]
  refine ⟨fun b hb' => by subst hb'; exact Live.new.pre hp, ?_⟩
  refine callK_of (h_l5Same hu (h.app.pre hp) (by omega) (by omega)) ?_
  simp (disch := omega) only [↓SXd, SXu, slBounds, ↓sop, ↓aop, ↓reduceIte, LV.cells, AOp.dst, LV.I, LV.B, LV.U, LV.S, LV.nil, Nat.reduceEqDiff, Nat.reduceAdd, Nat.reduceMul, Nat.reduceSub, Nat.reduceLeDiff, Nat.reduceBEq, Nat.reduceDiv, Nat.reduceMod, Int.reduceToNat, Int.reduceLT, Int.reduceLE, Int.reduceAdd, Int.reduceSub, Int.reduceMul, Int.reduceEq, Int.reduceNeg, reduceCtorEq, resV, resAll, ARes.ev, LV.flat, ite_true, ite_false, exists_eq_left', exists_eq_left, keyOf, implies_true, fillC, capOf]
  exact ⟨rfl, (Pre.app _ _).trans hp⟩
theorem h_sFallSum (hn : cs.length ≤ 1000000000) : CallsR PG F.spec_FallSum [.agg [.I x, .I y, .I z, .ref t 0 cs.length]] M fun v N => v = .tup [.I ((fsOf x y z cs).getD 0), .B (fsOf x y z cs).isSome] ∧ Pre M N := by
  refine callsR_run K.spec_FallSum rfl ?_
  simp (disch := omega) only [C.spec_FallSum, ↓SXd, SXu, slBounds, ↓sop, ↓aop, ↓reduceIte, LV.cells, AOp.dst, LV.I, LV.B, LV.U, LV.S, LV.nil, Nat.reduceEqDiff, Nat.reduceAdd, Nat.reduceMul, Nat.reduceSub, Nat.reduceLeDiff, Nat.reduceBEq, Nat.reduceDiv, Nat.reduceMod, Int.reduceToNat, Int.reduceLT, Int.reduceLE, Int.reduceAdd, Int.reduceSub, Int.reduceMul, Int.reduceEq, Int.reduceNeg, reduceCtorEq, resV, resAll, ARes.ev, LV.flat, ite_true, ite_false, exists_eq_left', exists_eq_left, keyOf, implies_true, fillC, capOf]
  refine callK_of (h_l2Heap (Has.app h.has) hn) ?_
  simp (disch := omega) only [↓SXd, SXu, slBounds, ↓sop, ↓aop, ↓reduceIte, LV.cells, AOp.dst, LV.I, LV.B, LV.U, LV.S, LV.nil, Nat.reduceEqDiff, Nat.reduceAdd, Nat.reduceMul, Nat.reduceSub, Nat.reduceLeDiff, Nat.reduceBEq, Nat.reduceDiv, Nat.reduceMod, Int.reduceToNat, Int.reduceLT, Int.reduceLE, Int.reduceAdd, Int.reduceSub, Int.reduceMul, Int.reduceEq, Int.reduceNeg, reduceCtorEq, resV, resAll, ARes.ev, LV.flat, ite_true, ite_false, exists_eq_left', exists_eq_left, keyOf, implies_true, fillC, capOf]
  by_cases hH : HeapOK x y z cs
  rotate_left
  · rw [show fsOf x y z cs = none from if_neg hH]
    simp (disch := omega) only [hH, ↓SXd, SXu, slBounds, ↓sop, ↓aop, ↓reduceIte, LV.cells, AOp.dst, LV.I, LV.B, LV.U, LV.S, LV.nil, Nat.reduceEqDiff, Nat.reduceAdd, Nat.reduceMul, Nat.reduceSub, Nat.reduceLeDiff, Nat.reduceBEq, Nat.reduceDiv, Nat.reduceMod, Int.reduceToNat, Int.reduceLT, Int.reduceLE, Int.reduceAdd, Int.reduceSub, Int.reduceMul, Int.reduceEq, Int.reduceNeg, reduceCtorEq, resV, resAll, ARes.ev, LV.flat, ite_true, ite_false, exists_eq_left', exists_eq_left, keyOf, implies_true, fillC, capOf]
    exact ⟨rfl, Pre.app _ _⟩
  rw [show fsOf x y z cs = some ((sumC cs : Int) - sumC (drpX x y z cs)) from if_pos hH]
  have hD := drp_ok h hH
  have s1 := (sumC_heap hH).2
  have s2 := (sumC_heap hD).2
  simp (disch := omega) only [hH, ↓SXd, SXu, slBounds, ↓sop, ↓aop, ↓reduceIte, LV.cells, AOp.dst, LV.I, LV.B, LV.U, LV.S, LV.nil, Nat.reduceEqDiff, Nat.reduceAdd, Nat.reduceMul, Nat.reduceSub, Nat.reduceLeDiff, Nat.reduceBEq, Nat.reduceDiv, Nat.reduceMod, Int.reduceToNat, Int.reduceLT, Int.reduceLE, Int.reduceAdd, Int.reduceSub, Int.reduceMul, Int.reduceEq, Int.reduceNeg, reduceCtorEq, resV, resAll, ARes.ev, LV.flat, ite_true, ite_false, exists_eq_left', exists_eq_left, keyOf, implies_true, fillC, capOf]
  refine callK_of (h_l7Sum h.app hH) ?_
  simp (disch := omega) only [↓SXd, SXu, slBounds, ↓sop, ↓aop, ↓reduceIte, LV.cells, AOp.dst, LV.I, LV.B, LV.U, LV.S, LV.nil, Nat.reduceEqDiff, Nat.reduceAdd, Nat.reduceMul, Nat.reduceSub, Nat.reduceLeDiff, Nat.reduceBEq, Nat.reduceDiv, Nat.reduceMod, Int.reduceToNat, Int.reduceLT, Int.reduceLE, Int.reduceAdd, Int.reduceSub, Int.reduceMul, Int.reduceEq, Int.reduceNeg, reduceCtorEq, resV, resAll, ARes.ev, LV.flat, ite_true, ite_false, exists_eq_left', exists_eq_left, keyOf, implies_true, fillC, capOf]
  refine callR_of (h_l7Drop h.app hH) ?_
  rintro _ N ⟨⟨u, rfl, hu, hul⟩, hp⟩
  simp (disch := omega) only [↓SXd, SXu, slBounds, ↓sop, ↓aop, ↓reduceIte, LV.cells, AOp.dst, LV.I, LV.B, LV.U, LV.S, LV.nil, Nat.reduceEqDiff, Nat.reduceAdd, Nat.reduceMul, Nat.reduceSub, Nat.reduceLeDiff, Nat.reduceBEq, Nat.reduceDiv, Nat.reduceMod, Int.reduceToNat, Int.reduceLT, Int.reduceLE, Int.reduceAdd, Int.reduceSub, Int.reduceMul, Int.reduceEq, Int.reduceNeg, reduceCtorEq, resV, resAll, ARes.ev, LV.flat, ite_true, ite_false, exists_eq_left', exists_eq_left, keyOf, implies_true, fillC, capOf]
  refine callK_of (h_l7Sum hu hD) ?_
  simp (disch := omega) only [↓SXd, SXu, slBounds, ↓sop, ↓aop, ↓reduceIte, LV.cells, AOp.dst, LV.I, LV.B, LV.U, LV.S, LV.nil, Nat.reduceEqDiff, Nat.reduceAdd, Nat.reduceMul, Nat.reduceSub, Nat.reduceLeDiff, Nat.reduceBEq, Nat.reduceDiv, Nat.reduceMod, Int.reduceToNat, Int.reduceLT, Int.reduceLE, Int.reduceAdd, Int.reduceSub, Int.reduceMul, Int.reduceEq, Int.reduceNeg, reduceCtorEq, resV, resAll, ARes.ev, LV.flat, ite_true, ite_false, exists_eq_left', exists_eq_left, keyOf, implies_true, fillC, capOf]
  exact ⟨rfl, (Pre.app _ _).trans hp⟩
theorem h_sStanding (hn : cs.length ≤ 1000000000) : CallsR PG F.spec_StandingCubes [.agg [.I x, .I y, .I z, .ref t 0 cs.length]] M (CellsX M (stdOf x y z cs)) := by
  refine cellsX_of ?_
  refine callsR_run K.spec_StandingCubes rfl ?_
  simp (disch := omega) only [C.spec_StandingCubes, ↓SXd, SXu, slBounds, ↓sop, ↓aop, ↓reduceIte, LV.cells, AOp.dst, LV.I, LV.B, LV.U, LV.S, LV.nil, Nat.reduceEqDiff, Nat.reduceAdd, Nat.reduceMul, Nat.reduceSub, Nat.reduceLeDiff, Nat.reduceBEq, Nat.reduceDiv, Nat.reduceMod, Int.reduceToNat, Int.reduceLT, Int.reduceLE, Int.reduceAdd, Int.reduceSub, Int.reduceMul, Int.reduceEq, Int.reduceNeg, reduceCtorEq, resV, resAll, ARes.ev, LV.flat, ite_true, ite_false, exists_eq_left', exists_eq_left, keyOf, implies_true, fillC, capOf]
  refine callK_of (h_l2Heap (Has.app h.has) hn) ?_
  simp (disch := omega) only [↓SXd, SXu, slBounds, ↓sop, ↓aop, ↓reduceIte, LV.cells, AOp.dst, LV.I, LV.B, LV.U, LV.S, LV.nil, Nat.reduceEqDiff, Nat.reduceAdd, Nat.reduceMul, Nat.reduceSub, Nat.reduceLeDiff, Nat.reduceBEq, Nat.reduceDiv, Nat.reduceMod, Int.reduceToNat, Int.reduceLT, Int.reduceLE, Int.reduceAdd, Int.reduceSub, Int.reduceMul, Int.reduceEq, Int.reduceNeg, reduceCtorEq, resV, resAll, ARes.ev, LV.flat, ite_true, ite_false, exists_eq_left', exists_eq_left, keyOf, implies_true, fillC, capOf]
  by_cases hH : HeapOK x y z cs
  rotate_left
  · simp (disch := omega) only [hH, ↓SXd, SXu, slBounds, ↓sop, ↓aop, ↓reduceIte, LV.cells, AOp.dst, LV.I, LV.B, LV.U, LV.S, LV.nil, Nat.reduceEqDiff, Nat.reduceAdd, Nat.reduceMul, Nat.reduceSub, Nat.reduceLeDiff, Nat.reduceBEq, Nat.reduceDiv, Nat.reduceMod, Int.reduceToNat, Int.reduceLT, Int.reduceLE, Int.reduceAdd, Int.reduceSub, Int.reduceMul, Int.reduceEq, Int.reduceNeg, reduceCtorEq, resV, resAll, ARes.ev, LV.flat, ite_true, ite_false, exists_eq_left', exists_eq_left, keyOf, implies_true, fillC, capOf]
    exact cellsX_no (if_neg hH) rfl (Live.newj (j := 1) rfl) (Pre.app _ _)
  have hc := h_l7Parted (x := x) (y := y) (z := z) (hang := false) (M := M ++ [some (.row [.I x, .I y, .I z, .ref t 0 cs.length] true 0)]) h.app hH
  rw [parted_f hH.1] at hc
  simp (disch := omega) only [hH, ↓SXd, SXu, slBounds, ↓sop, ↓aop, ↓reduceIte, LV.cells, AOp.dst, LV.I, LV.B, LV.U, LV.S, LV.nil, Nat.reduceEqDiff, Nat.reduceAdd, Nat.reduceMul, Nat.reduceSub, Nat.reduceLeDiff, Nat.reduceBEq, Nat.reduceDiv, Nat.reduceMod, Int.reduceToNat, Int.reduceLT, Int.reduceLE, Int.reduceAdd, Int.reduceSub, Int.reduceMul, Int.reduceEq, Int.reduceNeg, reduceCtorEq, resV, resAll, ARes.ev, LV.flat, ite_true, ite_false, exists_eq_left', exists_eq_left, keyOf, implies_true, fillC, capOf]
  refine callN_of (hc) ?_
  intro u N hu hp hb
  simp (disch := omega) only [↓SXd, SXu, slBounds, ↓sop, ↓aop, ↓reduceIte, LV.cells, AOp.dst, LV.I, LV.B, LV.U, LV.S, LV.nil, Nat.reduceEqDiff, Nat.reduceAdd, Nat.reduceMul, Nat.reduceSub, Nat.reduceLeDiff, Nat.reduceBEq, Nat.reduceDiv, Nat.reduceMod, Int.reduceToNat, Int.reduceLT, Int.reduceLE, Int.reduceAdd, Int.reduceSub, Int.reduceMul, Int.reduceEq, Int.reduceNeg, reduceCtorEq, resV, resAll, ARes.ev, LV.flat, ite_true, ite_false, exists_eq_left', exists_eq_left, keyOf, implies_true, fillC, capOf]
  exact cellsX_yes (if_pos hH) rfl hb ((Pre.app _ _).trans hp)
theorem h_sHanging (hn : cs.length ≤ 1000000000) : CallsR PG F.spec_HangingCubes [.agg [.I x, .I y, .I z, .ref t 0 cs.length]] M (CellsX M (hngOf x y z cs)) := by
  refine cellsX_of ?_
  refine callsR_run K.spec_HangingCubes rfl ?_
  simp (disch := omega) only [C.spec_HangingCubes, ↓SXd, SXu, slBounds, ↓sop, ↓aop, ↓reduceIte, LV.cells, AOp.dst, LV.I, LV.B, LV.U, LV.S, LV.nil, Nat.reduceEqDiff, Nat.reduceAdd, Nat.reduceMul, Nat.reduceSub, Nat.reduceLeDiff, Nat.reduceBEq, Nat.reduceDiv, Nat.reduceMod, Int.reduceToNat, Int.reduceLT, Int.reduceLE, Int.reduceAdd, Int.reduceSub, Int.reduceMul, Int.reduceEq, Int.reduceNeg, reduceCtorEq, resV, resAll, ARes.ev, LV.flat, ite_true, ite_false, exists_eq_left', exists_eq_left, keyOf, implies_true, fillC, capOf]
  refine callK_of (h_l2Heap (Has.app h.has) hn) ?_
  simp (disch := omega) only [↓SXd, SXu, slBounds, ↓sop, ↓aop, ↓reduceIte, LV.cells, AOp.dst, LV.I, LV.B, LV.U, LV.S, LV.nil, Nat.reduceEqDiff, Nat.reduceAdd, Nat.reduceMul, Nat.reduceSub, Nat.reduceLeDiff, Nat.reduceBEq, Nat.reduceDiv, Nat.reduceMod, Int.reduceToNat, Int.reduceLT, Int.reduceLE, Int.reduceAdd, Int.reduceSub, Int.reduceMul, Int.reduceEq, Int.reduceNeg, reduceCtorEq, resV, resAll, ARes.ev, LV.flat, ite_true, ite_false, exists_eq_left', exists_eq_left, keyOf, implies_true, fillC, capOf]
  by_cases hH : HeapOK x y z cs
  rotate_left
  · simp (disch := omega) only [hH, ↓SXd, SXu, slBounds, ↓sop, ↓aop, ↓reduceIte, LV.cells, AOp.dst, LV.I, LV.B, LV.U, LV.S, LV.nil, Nat.reduceEqDiff, Nat.reduceAdd, Nat.reduceMul, Nat.reduceSub, Nat.reduceLeDiff, Nat.reduceBEq, Nat.reduceDiv, Nat.reduceMod, Int.reduceToNat, Int.reduceLT, Int.reduceLE, Int.reduceAdd, Int.reduceSub, Int.reduceMul, Int.reduceEq, Int.reduceNeg, reduceCtorEq, resV, resAll, ARes.ev, LV.flat, ite_true, ite_false, exists_eq_left', exists_eq_left, keyOf, implies_true, fillC, capOf]
    exact cellsX_no (if_neg hH) rfl (Live.newj (j := 1) rfl) (Pre.app _ _)
  have hc := h_l7Parted (x := x) (y := y) (z := z) (hang := true) (M := M ++ [some (.row [.I x, .I y, .I z, .ref t 0 cs.length] true 0)]) h.app hH
  rw [parted_t hH.1] at hc
  simp (disch := omega) only [hH, ↓SXd, SXu, slBounds, ↓sop, ↓aop, ↓reduceIte, LV.cells, AOp.dst, LV.I, LV.B, LV.U, LV.S, LV.nil, Nat.reduceEqDiff, Nat.reduceAdd, Nat.reduceMul, Nat.reduceSub, Nat.reduceLeDiff, Nat.reduceBEq, Nat.reduceDiv, Nat.reduceMod, Int.reduceToNat, Int.reduceLT, Int.reduceLE, Int.reduceAdd, Int.reduceSub, Int.reduceMul, Int.reduceEq, Int.reduceNeg, reduceCtorEq, resV, resAll, ARes.ev, LV.flat, ite_true, ite_false, exists_eq_left', exists_eq_left, keyOf, implies_true, fillC, capOf]
  refine callN_of (hc) ?_
  intro u N hu hp hb
  simp (disch := omega) only [↓SXd, SXu, slBounds, ↓sop, ↓aop, ↓reduceIte, LV.cells, AOp.dst, LV.I, LV.B, LV.U, LV.S, LV.nil, Nat.reduceEqDiff, Nat.reduceAdd, Nat.reduceMul, Nat.reduceSub, Nat.reduceLeDiff, Nat.reduceBEq, Nat.reduceDiv, Nat.reduceMod, Int.reduceToNat, Int.reduceLT, Int.reduceLE, Int.reduceAdd, Int.reduceSub, Int.reduceMul, Int.reduceEq, Int.reduceNeg, reduceCtorEq, resV, resAll, ARes.ev, LV.flat, ite_true, ite_false, exists_eq_left', exists_eq_left, keyOf, implies_true, fillC, capOf]
  exact cellsX_yes (if_pos hH) rfl hb ((Pre.app _ _).trans hp)
theorem ls_take {k : Nat} (hk : k < cs.length) : ((cs.take (k + 1)).filter (looseP (inP cs))).length = ((cs.take k).filter (looseP (inP cs))).length + (if looseP (inP cs) (cs.getD k default) then 1 else 0) := by
  clear h
  rw [take_snoc' (d := default) hk, List.filter_append, List.length_append]
  simp only [List.filter_cons, List.filter_nil]
  split <;> simp
theorem h_sLooseBottom (hn : cs.length ≤ 1000000000) : CallsTo PG F.spec_LooseBottom [.agg [.I x, .I y, .I z, .ref t 0 cs.length]] M (.tup [.I ((lbOf x y z cs).getD 0), .B (lbOf x y z cs).isSome]) M := by
  have ht := h.lt
  refine calls_run K.spec_LooseBottom rfl ?_
  simp (disch := omega) only [C.spec_LooseBottom, ↓SXd, SXu, slBounds, ↓sop, ↓aop, ↓reduceIte, LV.cells, AOp.dst, LV.I, LV.B, LV.U, LV.S, LV.nil, Nat.reduceEqDiff, Nat.reduceAdd, Nat.reduceMul, Nat.reduceSub, Nat.reduceLeDiff, Nat.reduceBEq, Nat.reduceDiv, Nat.reduceMod, Int.reduceToNat, Int.reduceLT, Int.reduceLE, Int.reduceAdd, Int.reduceSub, Int.reduceMul, Int.reduceEq, Int.reduceNeg, reduceCtorEq, resV, resAll, ARes.ev, LV.flat, ite_true, ite_false, exists_eq_left', exists_eq_left, keyOf, implies_true, fillC, capOf]
  refine callK_of (h_l2Heap (Has.app h.has) hn) ?_
  simp (disch := omega) only [↓SXd, SXu, slBounds, ↓sop, ↓aop, ↓reduceIte, LV.cells, AOp.dst, LV.I, LV.B, LV.U, LV.S, LV.nil, Nat.reduceEqDiff, Nat.reduceAdd, Nat.reduceMul, Nat.reduceSub, Nat.reduceLeDiff, Nat.reduceBEq, Nat.reduceDiv, Nat.reduceMod, Int.reduceToNat, Int.reduceLT, Int.reduceLE, Int.reduceAdd, Int.reduceSub, Int.reduceMul, Int.reduceEq, Int.reduceNeg, reduceCtorEq, resV, resAll, ARes.ev, LV.flat, ite_true, ite_false, exists_eq_left', exists_eq_left, keyOf, implies_true, fillC, capOf]
  by_cases hH : HeapOK x y z cs
  rotate_left
  · rw [show lbOf x y z cs = none from if_neg hH]
    simp (disch := omega) only [hH, ↓SXd, SXu, slBounds, ↓sop, ↓aop, ↓reduceIte, LV.cells, AOp.dst, LV.I, LV.B, LV.U, LV.S, LV.nil, Nat.reduceEqDiff, Nat.reduceAdd, Nat.reduceMul, Nat.reduceSub, Nat.reduceLeDiff, Nat.reduceBEq, Nat.reduceDiv, Nat.reduceMod, Int.reduceToNat, Int.reduceLT, Int.reduceLE, Int.reduceAdd, Int.reduceSub, Int.reduceMul, Int.reduceEq, Int.reduceNeg, reduceCtorEq, resV, resAll, ARes.ev, LV.flat, ite_true, ite_false, exists_eq_left', exists_eq_left, keyOf, implies_true, fillC, capOf]
    exact cmp_drop rfl
  rw [show lbOf x y z cs = some (lsN cs : Nat) from if_pos hH]
  have hlen := hH.len
  simp (disch := omega) only [hH, ↓SXd, SXu, slBounds, ↓sop, ↓aop, ↓reduceIte, LV.cells, AOp.dst, LV.I, LV.B, LV.U, LV.S, LV.nil, Nat.reduceEqDiff, Nat.reduceAdd, Nat.reduceMul, Nat.reduceSub, Nat.reduceLeDiff, Nat.reduceBEq, Nat.reduceDiv, Nat.reduceMod, Int.reduceToNat, Int.reduceLT, Int.reduceLE, Int.reduceAdd, Int.reduceSub, Int.reduceMul, Int.reduceEq, Int.reduceNeg, reduceCtorEq, resV, resAll, ARes.ev, LV.flat, ite_true, ite_false, exists_eq_left', exists_eq_left, keyOf, implies_true, fillC, capOf]
  refine ev_loop (fun m fr M' => ∃ k : Nat, k + m = cs.length ∧ Pre M M' ∧ Live M' M.length (.row [.I x, .I y, .I z, .ref t 0 cs.length] true 0) ∧ fr 1 = .ptr M.length 0 ∧ fr 4 = .I (((cs.take k).filter (looseP (inP cs))).length : Nat) ∧ fr 5 = .I k) cs.length
    ⟨0, by omega, Pre.app _ _, Live.new, rfl, rfl, rfl⟩ ?_
  rintro m fr M' ⟨k, hk, hpre, b1, f1, f4, f5⟩
  simp (disch := omega) only [f1, f4, f5, b1.cell, ↓SXd, SXu, slBounds, ↓sop, ↓aop, ↓reduceIte, LV.cells, AOp.dst, LV.I, LV.B, LV.U, LV.S, LV.nil, Nat.reduceEqDiff, Nat.reduceAdd, Nat.reduceMul, Nat.reduceSub, Nat.reduceLeDiff, Nat.reduceBEq, Nat.reduceDiv, Nat.reduceMod, Int.reduceToNat, Int.reduceLT, Int.reduceLE, Int.reduceAdd, Int.reduceSub, Int.reduceMul, Int.reduceEq, Int.reduceNeg, reduceCtorEq, resV, resAll, ARes.ev, LV.flat, ite_true, ite_false, exists_eq_left', exists_eq_left, keyOf, implies_true, fillC, capOf]
  refine condC_dec (fun hlt => ?_) (fun hlt => ?_)
  · have hkl : k < cs.length := by omega
    have hg := (h.pre hpre).tri0 hkl
    have hst := ls_take h hkl
    have hc := (sumC_heap hH).1 _ (getD_mem' (d := default) hkl)
    have hfl := List.length_filter_le (looseP (inP cs)) (cs.take k)
    have htl := List.length_take_le k cs
    generalize cs.getD k default = c at hg hst hc
    have hb1 := b1.lt
    have ep1 : Pre M (M' ++ [some (.row [.I c.a, .I c.b, .I (c.c - 1)] true 0)]) := hpre.trans (Pre.app _ _)
    have eb1 := b1.app (L := [some (.row [.I c.a, .I c.b, .I (c.c - 1)] true 0)])
    simp (disch := omega) only [f1, f4, f5, b1.cell, hg, Cell.row, splice, Nat.mul_one, Nat.zero_add, ↓SXd, SXu, slBounds, ↓sop, ↓aop, ↓reduceIte, LV.cells, AOp.dst, LV.I, LV.B, LV.U, LV.S, LV.nil, Nat.reduceEqDiff, Nat.reduceAdd, Nat.reduceMul, Nat.reduceSub, Nat.reduceLeDiff, Nat.reduceBEq, Nat.reduceDiv, Nat.reduceMod, Int.reduceToNat, Int.reduceLT, Int.reduceLE, Int.reduceAdd, Int.reduceSub, Int.reduceMul, Int.reduceEq, Int.reduceNeg, reduceCtorEq, resV, resAll, ARes.ev, LV.flat, ite_true, ite_false, exists_eq_left', exists_eq_left, keyOf, implies_true, fillC, capOf]
    by_cases h0 : c.c - 1 ≥ 0
    · simp (disch := omega) only [f1, f4, f5, h0, eb1.cells, ↓SXd, SXu, slBounds, ↓sop, ↓aop, ↓reduceIte, LV.cells, AOp.dst, LV.I, LV.B, LV.U, LV.S, LV.nil, Nat.reduceEqDiff, Nat.reduceAdd, Nat.reduceMul, Nat.reduceSub, Nat.reduceLeDiff, Nat.reduceBEq, Nat.reduceDiv, Nat.reduceMod, Int.reduceToNat, Int.reduceLT, Int.reduceLE, Int.reduceAdd, Int.reduceSub, Int.reduceMul, Int.reduceEq, Int.reduceNeg, reduceCtorEq, resV, resAll, ARes.ev, LV.flat, ite_true, ite_false, exists_eq_left', exists_eq_left, keyOf, implies_true, fillC, capOf]
      refine callK_of (h_l2Has (Has.app (h.pre hpre).has) hn) ?_
      simp (disch := omega) only [f1, f4, f5, ↓SXd, SXu, slBounds, ↓sop, ↓aop, ↓reduceIte, LV.cells, AOp.dst, LV.I, LV.B, LV.U, LV.S, LV.nil, Nat.reduceEqDiff, Nat.reduceAdd, Nat.reduceMul, Nat.reduceSub, Nat.reduceLeDiff, Nat.reduceBEq, Nat.reduceDiv, Nat.reduceMod, Int.reduceToNat, Int.reduceLT, Int.reduceLE, Int.reduceAdd, Int.reduceSub, Int.reduceMul, Int.reduceEq, Int.reduceNeg, reduceCtorEq, resV, resAll, ARes.ev, LV.flat, ite_true, ite_false, exists_eq_left', exists_eq_left, keyOf, implies_true, fillC, capOf]
      rw [show (⟨c.a, c.b, c.c - 1⟩ : Cell) = down c from rfl]
      have hlp : looseP (inP cs) c = !decide (down c ∈ cs) := by
        unfold looseP inP
        rw [decide_eq_true (show 0 < c.c by omega)]; rfl
      rw [hlp] at hst
      by_cases hm : down c ∈ cs
      · rw [decide_eq_true hm] at hst ⊢
        rw [if_neg (by simp)] at hst
        simp (disch := omega) only [f1, f4, f5, ↓SXd, SXu, slBounds, ↓sop, ↓aop, ↓reduceIte, LV.cells, AOp.dst, LV.I, LV.B, LV.U, LV.S, LV.nil, Nat.reduceEqDiff, Nat.reduceAdd, Nat.reduceMul, Nat.reduceSub, Nat.reduceLeDiff, Nat.reduceBEq, Nat.reduceDiv, Nat.reduceMod, Int.reduceToNat, Int.reduceLT, Int.reduceLE, Int.reduceAdd, Int.reduceSub, Int.reduceMul, Int.reduceEq, Int.reduceNeg, reduceCtorEq, resV, resAll, ARes.ev, LV.flat, ite_true, ite_false, exists_eq_left', exists_eq_left, keyOf, implies_true, fillC, capOf]
        exact ⟨m - 1, by omega, k + 1, by omega, ep1, eb1, f1, by rw [hst]; exact f4, eqI (natI _)⟩
      · rw [decide_eq_false hm] at hst ⊢
        rw [if_pos (by rfl)] at hst
        simp (disch := omega) only [f1, f4, f5, ↓SXd, SXu, slBounds, ↓sop, ↓aop, ↓reduceIte, LV.cells, AOp.dst, LV.I, LV.B, LV.U, LV.S, LV.nil, Nat.reduceEqDiff, Nat.reduceAdd, Nat.reduceMul, Nat.reduceSub, Nat.reduceLeDiff, Nat.reduceBEq, Nat.reduceDiv, Nat.reduceMod, Int.reduceToNat, Int.reduceLT, Int.reduceLE, Int.reduceAdd, Int.reduceSub, Int.reduceMul, Int.reduceEq, Int.reduceNeg, reduceCtorEq, resV, resAll, ARes.ev, LV.flat, ite_true, ite_false, exists_eq_left', exists_eq_left, keyOf, implies_true, fillC, capOf]
        exact ⟨m - 1, by omega, k + 1, by omega, ep1, eb1, f1, eqI (by rw [hst]; omega), eqI (natI _)⟩
    · have hlp : looseP (inP cs) c = false := by
        unfold looseP
        rw [decide_eq_false (show ¬ 0 < c.c by omega)]; rfl
      rw [hlp, if_neg (by simp)] at hst
      simp (disch := omega) only [f1, f4, f5, h0, ↓SXd, SXu, slBounds, ↓sop, ↓aop, ↓reduceIte, LV.cells, AOp.dst, LV.I, LV.B, LV.U, LV.S, LV.nil, Nat.reduceEqDiff, Nat.reduceAdd, Nat.reduceMul, Nat.reduceSub, Nat.reduceLeDiff, Nat.reduceBEq, Nat.reduceDiv, Nat.reduceMod, Int.reduceToNat, Int.reduceLT, Int.reduceLE, Int.reduceAdd, Int.reduceSub, Int.reduceMul, Int.reduceEq, Int.reduceNeg, reduceCtorEq, resV, resAll, ARes.ev, LV.flat, ite_true, ite_false, exists_eq_left', exists_eq_left, keyOf, implies_true, fillC, capOf]
      exact ⟨m - 1, by omega, k + 1, by omega, ep1, eb1, f1, by rw [hst]; exact f4, eqI (natI _)⟩
  · simp (disch := omega) only [f1, f4, f5, ↓SXd, SXu, slBounds, ↓sop, ↓aop, ↓reduceIte, LV.cells, AOp.dst, LV.I, LV.B, LV.U, LV.S, LV.nil, Nat.reduceEqDiff, Nat.reduceAdd, Nat.reduceMul, Nat.reduceSub, Nat.reduceLeDiff, Nat.reduceBEq, Nat.reduceDiv, Nat.reduceMod, Int.reduceToNat, Int.reduceLT, Int.reduceLE, Int.reduceAdd, Int.reduceSub, Int.reduceMul, Int.reduceEq, Int.reduceNeg, reduceCtorEq, resV, resAll, ARes.ev, LV.flat, ite_true, ite_false, exists_eq_left', exists_eq_left, keyOf, implies_true, fillC, capOf]
    have : k = cs.length := by omega
    subst this
    rw [List.take_length]
    exact cmp_pre hpre rfl
end
end Go.Ab

/- The abstract code of some functions (written by a program of mine from the translation, by way of prepF). -/
namespace Go.Ab.C
open Go.Ab
def impl_box_parts : AFn :=
  ⟨2, 25, [.tmp 4],
    .seq (.ops [(none, .box 2 (.t 0)),
       (none, .mv 4 (.c .nil))])
    (.seq (.ops [(none, .buildSl 7 0 1 [] []),
        (none, .mv 5 (.t 7))])
     (.seq (.block 0 (.loop (.seq (.seq (.ops [(none, .mv 8 (.t 1)),
             (none, .bin 9 .neq (.t 8) (.c (.U 0)))])
          (.cond (.t 9) (.skip)
           (.exit 0)))
         (.block 1 (.seq (.ops [(none, .loadN 10 3 (.t 2)),
              (none, .mv 11 (.t 1)),
              (none, .mv 12 (.t 1)),
              (none, .un 13 .neg (.t 12)),
              (none, .bin 14 .and (.t 11) (.t 13)),
              (none, .mv 15 (.t 1)),
              (none, .call (some 16) F.impl_box_grown [(.t 10), (.t 14), (.t 15)]),
              (none, .mv 6 (.t 16))])
           (.seq (.ops [(none, .mv 17 (.t 5)),
               (none, .mv 18 (.t 6)),
               (none, .buildSl 19 1 1 [(.U 0)] [(0, 1, (.t 18))]),
               (none, .append 20 1 8 (.t 17) (.t 19)),
               (none, .mv 5 (.t 20))])
            (.ops [(none, .mv 21 (.t 1)),
               (none, .mv 22 (.t 6)),
               (none, .bin 23 .andNot (.t 21) (.t 22)),
               (none, .mv 1 (.t 23))])))))))
      (.seq (.ops [(none, .mv 24 (.t 5)),
          (none, .mv 4 (.t 24))])
       (.ret))))⟩
end Go.Ab.C

/- That the program has this code. -/
namespace Go.Ab.K
open Go Go.Ab
theorem impl_box_parts : prepF Go.Proofs.Try.prog F.impl_box_parts = some C.impl_box_parts := by kernel_rfl
end Go.Ab.K

/- Contracts: parts of sets, lists of sets; the program's CavitiesOf. -/
namespace Go.Ab
open Go
set_option linter.unusedSimpArgs false
set_option linter.unusedVariables false

/-- Sets, as the elements of a slice. -/
def setL (x y z : Int) (L : List (List Cell)) : List LV := L.map fun l => .W (bs x y z fun d => decide (d ∈ l))
theorem setL_lo {x y z : Int} {n : Nat} {L : List (List Cell)} : (setL x y z L).all (LV.lo1 n) = true := by
  rw [List.all_eq_true]; intro v hv
  obtain ⟨l, _, rfl⟩ := List.mem_map.1 hv
  rfl
theorem setL_len {x y z : Int} {L : List (List Cell)} : (setL x y z L).length = L.length := by simp [setL]
theorem setL_get {x y z : Int} {L : List (List Cell)} {i : Nat} (h : i < L.length) : (setL x y z L)[i]? = some (.W (bs x y z fun d => decide (d ∈ L.getD i []))) := by
  simp [setL, h]

section
variable {x y z : Int} (hS : Sides x y z)
include hS
theorem parts_pick : ∀ {f : Nat} {q : Cell → Bool}, ∀ l ∈ parts x y z f q, l = pick x y z fun d => decide (d ∈ l)
  | 0, _, l, h => by simp [parts] at h
  | f + 1, q, l, h => by
    simp only [parts] at h
    split at h
    · simp at h
    · rcases List.mem_cons.1 h with rfl | h
      · exact (pick_ok hS _).pick
      · exact parts_pick l h

theorem g_parts {q : Cell → Bool} {M : Mem} : CallsTo PG F.impl_box_parts [.agg [.I x, .I y, .I z], .W (bs x y z q)] M (.ref M.length 0 (parts x y z 65 q).length) (M ++ [some (.row (setL x y z (parts x y z 65 q)) true 1)]) := by
  refine calls_run K.impl_box_parts rfl ?_
  simp (disch := omega) only [C.impl_box_parts, ↓SXd, SXu, slBounds, ↓sop, ↓aop, ↓reduceIte, LV.cells, AOp.dst, LV.I, LV.B, LV.U, LV.S, LV.nil, Nat.reduceEqDiff, Nat.reduceAdd, Nat.reduceMul, Nat.reduceSub, Nat.reduceLeDiff, Nat.reduceBEq, Nat.reduceDiv, Nat.reduceMod, Int.reduceToNat, Int.reduceLT, Int.reduceLE, Int.reduceAdd, Int.reduceSub, Int.reduceMul, Int.reduceEq, Int.reduceNeg, reduceCtorEq, resV, resAll, ARes.ev, LV.flat, ite_true, ite_false, exists_eq_left', exists_eq_left, keyOf, implies_true, fillC, capOf]
  refine ev_loop (fun m fr M' => ∃ (p : Cell → Bool) (u : Nat) (L : List (List Cell)), parts x y z 65 q = L ++ parts x y z m p ∧ (pick x y z p).length < m ∧ L.length ≤ 65 ∧ Pre M M' ∧ Live M' M.length (.row [.I x, .I y, .I z] true 0) ∧ Live M' u (.row (setL x y z L) true 1) ∧ M.length < u ∧
    fr 1 = .W (bs x y z p) ∧ fr 2 = .ptr M.length 0 ∧ fr 5 = .ref u 0 L.length) 65
    ⟨q, M.length + 1, [], rfl, by have := pick_len hS q; omega, by simp, Pre.app _ _, Live.new, Live.newj rfl, by omega, rfl, rfl, rfl⟩ ?_
  rintro m fr M' ⟨p, u, L, hparts, hfuel, hL, hpre, hbox, hout, hu, f1, f2, f5⟩
  obtain ⟨m', rfl⟩ : ∃ m', m = m' + 1 := ⟨m - 1, by omega⟩
  simp (disch := omega) only [f1, f2, f5, ↓SXd, SXu, slBounds, ↓sop, ↓aop, ↓reduceIte, LV.cells, AOp.dst, LV.I, LV.B, LV.U, LV.S, LV.nil, Nat.reduceEqDiff, Nat.reduceAdd, Nat.reduceMul, Nat.reduceSub, Nat.reduceLeDiff, Nat.reduceBEq, Nat.reduceDiv, Nat.reduceMod, Int.reduceToNat, Int.reduceLT, Int.reduceLE, Int.reduceAdd, Int.reduceSub, Int.reduceMul, Int.reduceEq, Int.reduceNeg, reduceCtorEq, resV, resAll, ARes.ev, LV.flat, ite_true, ite_false, exists_eq_left', exists_eq_left, keyOf, implies_true, fillC, capOf]
  by_cases hz : bs x y z p = 0#64
  · simp (disch := omega) only [f1, f2, f5, hz, ↓SXd, SXu, slBounds, ↓sop, ↓aop, ↓reduceIte, LV.cells, AOp.dst, LV.I, LV.B, LV.U, LV.S, LV.nil, Nat.reduceEqDiff, Nat.reduceAdd, Nat.reduceMul, Nat.reduceSub, Nat.reduceLeDiff, Nat.reduceBEq, Nat.reduceDiv, Nat.reduceMod, Int.reduceToNat, Int.reduceLT, Int.reduceLE, Int.reduceAdd, Int.reduceSub, Int.reduceMul, Int.reduceEq, Int.reduceNeg, reduceCtorEq, resV, resAll, ARes.ev, LV.flat, ite_true, ite_false, exists_eq_left', exists_eq_left, keyOf, implies_true, fillC, capOf]
    have hnil : pick x y z p = [] := by
      have := (bs_zero hS).1 hz
      unfold pick; rw [List.filter_eq_nil_iff]
      intro c hc; rw [this c ((mem_cellsOf hS).1 hc)]; simp
    rw [show parts x y z (m' + 1) p = [] by simp only [parts, hnil], List.append_nil] at hparts
    rw [hparts]
    exact cmp_keepL hpre (by omega) hout setL_lo (by simp [rn, rn0, rn1])
  · obtain ⟨c, rs, hpk⟩ : ∃ c rs, pick x y z p = c :: rs := by
      cases hh : pick x y z p with
      | nil => exact absurd ((bs_zero hS).2 fun c hc => by
          cases hpc : p c with
          | false => rfl
          | true => have := (mem_pick hS).2 ⟨hc, hpc⟩; rw [hh] at this; cases this) hz
      | cons c rs => exact ⟨c, rs, rfl⟩
    have hcq := (mem_pick hS (p := p) (c := c)).1 (by rw [hpk]; simp)
    have hlow : ∀ d, d.inBox x y z → p d = true → ¬ d.lt c := fun d hd hpd hlt => by
      have hm := (mem_pick hS).2 ⟨hd, hpd⟩
      have hs := pick_sorted hS p
      rw [hpk] at hm hs
      rcases List.mem_cons.1 hm with rfl | hm
      · exact Cell.lt_irrefl _ hlt
      · exact Cell.lt_irrefl _ (Cell.lt_trans hlt ((List.pairwise_cons.1 hs).1 d hm))
    have hpp : parts x y z (m' + 1) p = pick x y z (reach x y z (fun d => decide (d = c)) p) :: parts x y z m' fun d => p d && !reach x y z (fun d => decide (d = c)) p d := by simp only [parts, hpk]
    rw [hpp] at hparts
    simp (disch := omega) only [f1, f2, f5, hz, hbox.cells, ↓SXd, SXu, slBounds, ↓sop, ↓aop, ↓reduceIte, LV.cells, AOp.dst, LV.I, LV.B, LV.U, LV.S, LV.nil, Nat.reduceEqDiff, Nat.reduceAdd, Nat.reduceMul, Nat.reduceSub, Nat.reduceLeDiff, Nat.reduceBEq, Nat.reduceDiv, Nat.reduceMod, Int.reduceToNat, Int.reduceLT, Int.reduceLE, Int.reduceAdd, Int.reduceSub, Int.reduceMul, Int.reduceEq, Int.reduceNeg, reduceCtorEq, resV, resAll, ARes.ev, LV.flat, ite_true, ite_false, exists_eq_left', exists_eq_left, keyOf, implies_true, fillC, capOf]
    rw [bs_low hS hcq.1 hcq.2 hlow]
    refine callK_of (g_grown hS) ?_
    simp (disch := omega) only [f1, f2, f5, ↓SXd, SXu, slBounds, ↓sop, ↓aop, ↓reduceIte, LV.cells, AOp.dst, LV.I, LV.B, LV.U, LV.S, LV.nil, Nat.reduceEqDiff, Nat.reduceAdd, Nat.reduceMul, Nat.reduceSub, Nat.reduceLeDiff, Nat.reduceBEq, Nat.reduceDiv, Nat.reduceMod, Int.reduceToNat, Int.reduceLT, Int.reduceLE, Int.reduceAdd, Int.reduceSub, Int.reduceMul, Int.reduceEq, Int.reduceNeg, reduceCtorEq, resV, resAll, ARes.ev, LV.flat, ite_true, ite_false, exists_eq_left', exists_eq_left, keyOf, implies_true, fillC, capOf]
    refine appendK_1 (acc := setL x y z L) (new := [.W (bs x y z (reach x y z (fun d => decide (d = c)) p))]) hout (by rw [setL_len]; omega) rfl (by omega) (by omega) (by omega) fun N' l1 l2 l3 => ?_
    simp (disch := omega) only [f1, f2, f5, ↓SXd, SXu, slBounds, ↓sop, ↓aop, ↓reduceIte, LV.cells, AOp.dst, LV.I, LV.B, LV.U, LV.S, LV.nil, Nat.reduceEqDiff, Nat.reduceAdd, Nat.reduceMul, Nat.reduceSub, Nat.reduceLeDiff, Nat.reduceBEq, Nat.reduceDiv, Nat.reduceMod, Int.reduceToNat, Int.reduceLT, Int.reduceLE, Int.reduceAdd, Int.reduceSub, Int.reduceMul, Int.reduceEq, Int.reduceNeg, reduceCtorEq, resV, resAll, ARes.ev, LV.flat, ite_true, ite_false, exists_eq_left', exists_eq_left, keyOf, implies_true, fillC, capOf]
    rw [bs_diff hS]
    refine ⟨m', by omega, fun d => p d && !reach x y z (fun d => decide (d = c)) p d, M'.length + 1, L ++ [pick x y z (reach x y z (fun d => decide (d = c)) p)], ?_, ?_, ?_, pre_step hpre (by omega) l1 l3, live_step hbox (by omega) l3, ?_, by have := hpre.1; omega, rfl, f2, ?_⟩
    · rw [hparts, List.append_assoc]; rfl
    · have := filter_lt hS (l := cellsOf x y z) (p := fun d => p d && !reach x y z (fun d => decide (d = c)) p d) (q := p) (fun a _ ha => by simp only [Bool.and_eq_true] at ha; exact ha.1)
        ⟨c, (mem_cellsOf hS).2 hcq.1, hcq.2, by rw [(reach_iff (c := c)).2 (.base hcq.1 (by simp))]; simp⟩
      unfold pick at hfuel ⊢
      omega
    · have h1 := parts_len (x := x) (y := y) (z := z) 65 q
      have h2 := congrArg List.length hparts
      simp only [List.length_append, List.length_cons] at h2
      simp; omega
    · rw [show setL x y z (L ++ [pick x y z (reach x y z (fun d => decide (d = c)) p)]) = setL x y z L ++ [.W (bs x y z (reach x y z (fun d => decide (d = c)) p))] by
        unfold setL
        rw [List.map_append, List.map_singleton]
        rw [(bs_eq hS).2 fun d hd => show decide (d ∈ pick x y z (reach x y z (fun d => decide (d = c)) p)) = reach x y z (fun d => decide (d = c)) p d by
          rw [Bool.eq_iff_iff, decide_eq_true_iff, mem_pick hS]; exact ⟨fun h => h.2, fun h => ⟨hd, h⟩⟩]]
      exact l2
    · rw [List.length_append, List.length_singleton]; rfl

end

noncomputable def cavOf (x y z : Int) (cs : List Cell) : Option (List (List Cell)) := by
  classical
  exact if HeapOK x y z cs then some (parts x y z 65 (closed x y z fun c => decide (c ∈ cs))) else none
end Go.Ab
