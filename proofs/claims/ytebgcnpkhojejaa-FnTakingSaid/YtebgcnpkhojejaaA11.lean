/- Parts of the proof of FnTakingSaid: C_Hh K_Hh C_Th K_Th C_Tg K_Tg Tg Th C_Pe K_Pe C_Pc K_Pc Pc Pd Pe Hh Tt Hi Jf C_Jg K_Jg Jg Jp Jq By C_Ok K_Ok Ok LFnTaking Re. -/
import Derived.Test.YtebgcnpkhojejaaA3
import Derived.Test.YtebgcnpkhojejaaA4
import Derived.Test.YtebgcnpkhojejaaProg
import Derived.KernelRfl
import Derived.Test.YtebgcnpkhojejaaA8
import Derived.Test.YtebgcnpkhojejaaA10
import Derived.Test.YtebgcnpkhojejaaA6
import Derived.Test.YtebgcnpkhojejaaA7
import Derived.Test.YtebgcnpkhojejaaA9
set_option linter.all false
/- The abstract code of some functions (written by a program of mine from the translation, by way of prepF). -/
namespace Go.Ab.C
open Go.Ab
end Go.Ab.C

/- That the program has this code. -/
namespace Go.Ab.K
open Go Go.Ab
end Go.Ab.K

/- The abstract code of some functions (written by a program of mine from the translation, by way of prepF). -/
namespace Go.Ab.C
open Go.Ab
end Go.Ab.C

/- That the program has this code. -/
namespace Go.Ab.K
open Go Go.Ab
end Go.Ab.K

/- The abstract code of some functions (written by a program of mine from the translation, by way of prepF). -/
namespace Go.Ab.C
open Go.Ab
end Go.Ab.C

/- That the program has this code. -/
namespace Go.Ab.K
open Go Go.Ab
end Go.Ab.K

/- Contracts: the reference's statements on forms. -/
namespace Go.Ab
open Go
set_option linter.unusedSimpArgs false
set_option linter.unusedVariables false

/-- A valid heap with cubes. -/
def Filled (x y z : Int) (cs : List Cell) : Prop := HeapOK x y z cs ∧ 0 < cs.length
noncomputable instance (x y z : Int) (cs : List Cell) : Decidable (Filled x y z cs) := Classical.propDecidable _
noncomputable def formOf (x y z : Int) (cs : List Cell) : Option Hp := if Filled x y z cs then some (formHp x y z cs) else none
def symB (x y z : Int) (cs : List Cell) (T : Turn) : Bool := !lessHp (posHp x y z cs T) (cropHp cs) && !lessHp (cropHp cs) (posHp x y z cs T)
def symAt (x y z : Int) (cs : List Cell) (j : Nat) : Bool := match turns[j]? with
  | some T => symB x y z cs T
  | none => false
def symsK (x y z : Int) (cs : List Cell) (k : Nat) : List Int := ((List.range k).filter (symAt x y z cs)).map fun (j : Nat) => (j : Int)
noncomputable def symsOf (x y z : Int) (cs : List Cell) : Option (List Int) := if Filled x y z cs then some (symsK x y z cs 24) else none
noncomputable def posOf (x y z : Int) (cs : List Cell) : Int := if Filled x y z cs then ((24 : Int).tdiv ((symsK x y z cs 24).length : Nat)) else 0
end Go.Ab

/- Contracts: the reference's mirrored heaps; IsHanded, AreSameForm. -/
namespace Go.Ab
open Go
set_option linter.unusedSimpArgs false
set_option linter.unusedVariables false

def mirC (x : Int) (c : Cell) : Cell := ⟨x - 1 - c.a, c.b, c.c⟩
def mirHp (x y z : Int) (cs : List Cell) : List Cell := pick x y z fun d => decide (d ∈ cs.map (mirC x))
def handB (x y z : Int) (cs : List Cell) : Bool := !(!lessHp (formHp x y z (mirHp x y z cs)) (formHp x y z cs) && !lessHp (formHp x y z cs) (formHp x y z (mirHp x y z cs)))
noncomputable def sameForm (x y z : Int) (cs : List Cell) (x' y' z' : Int) (ds : List Cell) : Bool := !lessHp (formHp x y z cs) (formHp x' y' z' ds) && !lessHp (formHp x' y' z' ds) (formHp x y z cs)
end Go.Ab

/- The abstract code of some functions (written by a program of mine from the translation, by way of prepF). -/
namespace Go.Ab.C
open Go.Ab
end Go.Ab.C

/- That the program has this code. -/
namespace Go.Ab.K
open Go Go.Ab
end Go.Ab.K

/- The abstract code of some functions (written by a program of mine from the translation, by way of prepF). -/
namespace Go.Ab.C
open Go.Ab
end Go.Ab.C

/- That the program has this code. -/
namespace Go.Ab.K
open Go Go.Ab
end Go.Ab.K

/- Contracts: what is enclosed; the program's FillCavities. -/
namespace Go.Ab
open Go
set_option linter.unusedSimpArgs false
set_option linter.unusedVariables false

/-- What is outside: reached from the rim, by way of cells without cubes. -/
noncomputable def outer (x y z : Int) (p : Cell → Bool) : Cell → Bool := reach x y z (fun c => !p c && onRim x y z c) fun c => !p c
noncomputable def closed (x y z : Int) (p : Cell → Bool) (c : Cell) : Bool := !p c && !outer x y z p c
noncomputable def fillOf (x y z : Int) (cs : List Cell) : Option Hp := by
  classical
  exact if HeapOK x y z cs then some ⟨x, y, z, pick x y z fun c => decide (c ∈ cs) || closed x y z (fun c => decide (c ∈ cs)) c⟩ else none
end Go.Ab

/- Plain words: a search from beyond the box. -/
namespace Go.Ab

theorem getD_get {α : Type} {l : List α} {i : Nat} {d : α} (h : i < l.length) : l.getD i d = l[i] := by simp [h]
def ExtC (x y z : Int) (c : Cell) : Prop := (-1 ≤ c.a ∧ c.a ≤ x) ∧ (-1 ≤ c.b ∧ c.b ≤ y) ∧ (-1 ≤ c.c ∧ c.c ≤ z)
theorem Cell.inBox.ext {x y z : Int} {c : Cell} (h : c.inBox x y z) : ExtC x y z c := by
  obtain ⟨⟨_, _⟩, ⟨_, _⟩, ⟨_, _⟩⟩ := h
  exact ⟨⟨by omega, by omega⟩, ⟨by omega, by omega⟩, ⟨by omega, by omega⟩⟩
/-- What comes before a place. -/
def Bef (c : Cell) (i j k : Int) : Prop := c.a < i ∨ (c.a = i ∧ (c.b < j ∨ (c.b = j ∧ c.c < k)))
structure Mgn (x y z i j k : Int) (l : List Cell) : Prop where
  mem : ∀ c ∈ l, ExtC x y z c ∧ ¬ c.inBox x y z
  all : ∀ c, ExtC x y z c → ¬ c.inBox x y z → Bef c i j k → c ∈ l
  len : (l.length : Int) ≤ (i + 1) * 36 + (j + 1) * 6 + (k + 1)
theorem Mgn.nil {x y z : Int} : Mgn x y z (-1) (-1) (-1) [] := by
  refine ⟨by simp, fun c ⟨⟨_, _⟩, ⟨_, _⟩, ⟨_, _⟩⟩ _ hb => ?_, by simp⟩
  unfold Bef at hb
  omega
theorem Mgn.out {x y z i j k : Int} {l : List Cell} (h : Mgn x y z i j k l) (hk : k < 6) (hc : ExtC x y z ⟨i, j, k⟩) (ho : ¬ Cell.inBox x y z ⟨i, j, k⟩) : Mgn x y z i j (k + 1) (l ++ [⟨i, j, k⟩]) := by
  refine ⟨fun c hm => ?_, fun c h1 h2 h3 => ?_, ?_⟩
  · rcases List.mem_append.1 hm with hm | hm
    · exact h.mem c hm
    · rw [List.mem_singleton.1 hm]; exact ⟨hc, ho⟩
  · rw [List.mem_append, List.mem_singleton, cell_eq]
    unfold Bef at h3
    by_cases hb : Bef c i j k
    · exact .inl (h.all c h1 h2 hb)
    · right; unfold Bef at hb; simp only; omega
  · have := h.len; rw [List.length_append, List.length_singleton]; omega
theorem Mgn.in {x y z i j k : Int} {l : List Cell} (h : Mgn x y z i j k l) (ho : Cell.inBox x y z ⟨i, j, k⟩) : Mgn x y z i j (k + 1) l := by
  refine ⟨h.mem, fun c h1 h2 h3 => ?_, by have := h.len; omega⟩
  unfold Bef at h3
  by_cases hb : Bef c i j k
  · exact h.all c h1 h2 hb
  · unfold Bef at hb
    exact absurd (by rw [show c = ⟨i, j, k⟩ from cell_eq.2 (by simp only; omega)]; exact ho) h2
theorem Mgn.row {x y z i j k : Int} {l : List Cell} (h : Mgn x y z i j k l) (hk : z < k) (hz : k ≤ 5) : Mgn x y z i (j + 1) (-1) l := by
  refine ⟨h.mem, fun c h1 h2 h3 => h.all c h1 h2 ?_, by have := h.len; omega⟩
  obtain ⟨_, _, _, _⟩ := h1
  unfold Bef at h3 ⊢
  omega
theorem Mgn.plane {x y z i j : Int} {l : List Cell} (h : Mgn x y z i j (-1) l) (hk : y < j) (hz : j ≤ 5) : Mgn x y z (i + 1) (-1) (-1) l := by
  refine ⟨h.mem, fun c h1 h2 h3 => h.all c h1 h2 ?_, by have := h.len; omega⟩
  obtain ⟨_, ⟨_, _⟩, _, _⟩ := h1
  unfold Bef at h3 ⊢
  omega

structure Out (x y z : Int) (p : Cell → Bool) (n k : Nat) (mg r : List Cell) : Prop where
  base : ∀ c, ExtC x y z c → ¬ c.inBox x y z → c ∈ mg
  mgm : ∀ c ∈ mg, ExtC x y z c ∧ ¬ c.inBox x y z
  nodup : r.Nodup
  mem : ∀ d ∈ r, d.inBox x y z ∧ p d = false ∧ outer x y z p d = true
  done : ∀ i, i < n → i < (mg ++ r).length → ∀ e, e.inBox x y z → p e = false → apart ((mg ++ r).getD i default) e = 1 → e ∈ r
  part : ∀ j, j < k → ((nbrs ((mg ++ r).getD n default)).getD j default).inBox x y z → p ((nbrs ((mg ++ r).getD n default)).getD j default) = false → (nbrs ((mg ++ r).getD n default)).getD j default ∈ r

section
variable {x y z : Int} {p : Cell → Bool} {n k : Nat} {mg r : List Cell}
theorem Out.skip (h : Out x y z p n k mg r) (hs : ¬ ((((nbrs ((mg ++ r).getD n default)).getD k default).inBox x y z ∧ p ((nbrs ((mg ++ r).getD n default)).getD k default) = false) ∧ (nbrs ((mg ++ r).getD n default)).getD k default ∉ r)) : Out x y z p n (k + 1) mg r :=
  ⟨h.base, h.mgm, h.nodup, h.mem, h.done, fun j hj h1 h2 => by
    rcases Nat.lt_or_ge j k with h3 | h3
    · exact h.part j h3 h1 h2
    · rw [show j = k by omega] at h1 h2 ⊢
      exact Classical.byContradiction fun h4 => hs ⟨⟨h1, h2⟩, h4⟩⟩
theorem Out.add (h : Out x y z p n k mg r) (hk : k < 6) (hn : n < (mg ++ r).length) {e : Cell} (he : (nbrs ((mg ++ r).getD n default)).getD k default = e) (h1 : e.inBox x y z) (h2 : p e = false) (h3 : e ∉ r) : Out x y z p n (k + 1) mg (r ++ [e]) := by
  have hg : ∀ {j}, j < (mg ++ r).length → (mg ++ (r ++ [e])).getD j default = (mg ++ r).getD j default := fun {j} hj => by
    rw [← List.append_assoc]
    simp only [List.getD_eq_getElem?_getD]; rw [List.getElem?_append_left hj]
  have hap : apart ((mg ++ r).getD n default) e = 1 := mem_nbrs.1 (by rw [← he]; exact getD_mem' (by simpa [nbrs] using hk))
  have hout : outer x y z p e = true := by
    unfold outer
    rw [reach_iff]
    rcases List.mem_append.1 (getD_mem' (d := default) hn) with hm | hm
    · refine .base h1 ?_
      have := h.mgm _ hm
      rw [h2, (onRim_iff h1).2 ⟨_, by rw [apart_comm]; exact hap, this.2⟩]; rfl
    · have := (h.mem _ hm).2.2
      unfold outer at this
      rw [reach_iff] at this
      exact .step this hap h1 (by rw [h2]; rfl)
  refine ⟨h.base, h.mgm, ?_, fun d hd => ?_, fun i hi hil d hd hpd ha => ?_, fun j hj hb hpb => ?_⟩
  · rw [List.nodup_append]
    exact ⟨h.nodup, by simp, fun a ha b hb e' => by rw [List.mem_singleton.1 hb] at e'; subst e'; exact h3 ha⟩
  · rcases List.mem_append.1 hd with hd | hd
    · exact h.mem d hd
    · rw [List.mem_singleton.1 hd]; exact ⟨h1, h2, hout⟩
  · rw [hg (by omega)] at ha
    exact List.mem_append.2 (.inl (h.done i hi (by omega) d hd hpd ha))
  · rw [hg hn] at hb hpb ⊢
    rcases Nat.lt_or_ge j k with h5 | h5
    · exact List.mem_append.2 (.inl (h.part j h5 hb hpb))
    · rw [show j = k by omega, he]; simp
theorem Out.next (h : Out x y z p n 6 mg r) : Out x y z p (n + 1) 0 mg r := by
  refine ⟨h.base, h.mgm, h.nodup, h.mem, fun i hi hil d hd hpd ha => ?_, by omega⟩
  rcases Nat.lt_or_ge i n with h1 | h1
  · exact h.done i h1 hil d hd hpd ha
  · rw [show i = n by omega] at ha
    have hm := mem_nbrs.2 ha
    obtain ⟨j, hj, rfl⟩ := List.getElem_of_mem hm
    have hj6 : j < 6 := by simpa [nbrs] using hj
    rw [← getD_get (d := default) hj] at hd hpd ⊢
    exact h.part j hj6 hd hpd
end
end Go.Ab

/- Contracts: the reference's search from beyond the box. -/
namespace Go.Ab
open Go
set_option linter.unusedSimpArgs false
set_option linter.unusedVariables false

def steps : List Cell := [⟨-1, 0, 0⟩, ⟨1, 0, 0⟩, ⟨0, -1, 0⟩, ⟨0, 1, 0⟩, ⟨0, 0, -1⟩, ⟨0, 0, 1⟩]
theorem Live.step {N : Mem} {t k : Nat} (h : Live N t (.row (triL steps) true 0)) (hk : k < 6) : getCells N t (k * 3) 3 = some (steps.getD k default).row := by
  have := Tri.get (cs := steps) (o := 0) h.has (k := k) hk
  rwa [Nat.zero_add] at this

end Go.Ab

/- Contracts: the heaps of few cubes that a law draws; mirrored heaps of the reference, in any direction. -/
namespace Go.Ab
open Go
set_option linter.unusedSimpArgs false
set_option linter.unusedVariables false
set_option maxRecDepth 20000

def negD (c : Cell) : Cell := ⟨max 0 (0 - c.a), max 0 (0 - c.b), max 0 (0 - c.c)⟩
end Go.Ab

/- Plain words: the turns as a group; forms of turned heaps; symmetries and positions. -/
namespace Go.Ab
open Go
set_option linter.unusedSimpArgs false
set_option linter.unusedVariables false
set_option maxRecDepth 20000

def xorI (a b : Int) : Int := if a = b then 0 else 1
/-- First the one turn, then the other. -/
def behind (t u : Turn) : Turn := ⟨⟨t.fr.at u.fr.a, t.fr.at u.fr.b, t.fr.at u.fr.c⟩, ⟨xorI (t.fl.at u.fr.a) u.fl.a, xorI (t.fl.at u.fr.b) u.fl.b, xorI (t.fl.at u.fr.c) u.fl.c⟩⟩
def oneT : Turn := ⟨⟨0, 1, 2⟩, ⟨0, 0, 0⟩⟩
def invT (t : Turn) : Turn := (turns.find? fun u => decide (behind t u = oneT)).getD oneT
def Bit (n : Int) : Prop := n = 0 ∨ n = 1
def BitT (t : Turn) : Prop := Bit t.fl.a ∧ Bit t.fl.b ∧ Bit t.fl.c
instance (n : Int) : Decidable (Bit n) := by unfold Bit; exact inferInstance
instance (t : Turn) : Decidable (BitT t) := by unfold BitT; exact inferInstance
def turnS (x y z x' y' z' : Int) (T : Turn) (p : Cell) : Cell :=
  ⟨if T.fl.a = 1 then sideOf x' y' z' T.fr.a - sideOf x y z T.fr.a - p.at T.fr.a else p.at T.fr.a, if T.fl.b = 1 then sideOf x' y' z' T.fr.b - sideOf x y z T.fr.b - p.at T.fr.b else p.at T.fr.b, if T.fl.c = 1 then sideOf x' y' z' T.fr.c - sideOf x y z T.fr.c - p.at T.fr.c else p.at T.fr.c⟩
section
variable {x y z : Int} {cs : List Cell} (hH : HeapOK x y z cs) (h0 : 0 < cs.length)
include hH
include h0
end

section
variable {x y z : Int} {cs : List Cell} (hH : HeapOK x y z cs)
include hH
end

def mir2C (z : Int) (c : Cell) : Cell := ⟨c.a, c.b, z - 1 - c.c⟩
def mir2Hp (x y z : Int) (cs : List Cell) : List Cell := pick x y z fun d => decide (d ∈ cs.map (mir2C z))
end Go.Ab

/- Contracts: a form that a law draws; turned and mirrored heaps. -/
namespace Go.Ab
open Go
set_option linter.unusedSimpArgs false
set_option linter.unusedVariables false
set_option maxRecDepth 20000

/-- What TurnHeap answers. -/
noncomputable def turnOf (x y z : Int) (cs : List Cell) (k : Int) : Option Hp := by
  classical
  exact if HeapOK x y z cs ∧ (0 ≤ k ∧ k ≤ 23) then some (turnHp x y z (turns.getD k.toNat oneT) cs) else none
/-- A heap and true. -/
def HeapT (M : Mem) (r : Hp) (v : LV) (N : Mem) : Prop := ∃ u : Nat, v = .tup [.agg [.I r.x, .I r.y, .I r.z, .ref u 0 r.cs.length], .B true] ∧ Live N u (.row (triL r.cs) true 3) ∧ M.length ≤ u
/-- Mirrored in a direction. -/
def mirDC (x y z : Int) (d : Int) (c : Cell) : Cell := ⟨if d = 0 then x - 1 - c.a else c.a, if d = 1 then y - 1 - c.b else c.b, if d = 2 then z - 1 - c.c else c.c⟩
def mirD (x y z : Int) (d : Int) (cs : List Cell) : List Cell := pick x y z fun e => decide (e ∈ cs.map (mirDC x y z d))
theorem Live.only {M N : Mem} {q : Nat} {b0 : Blk} (h : Live M q b0) (k : Live N q b0) : ∀ b, M[q]? = some (some b) → N[q]? = some (some b) := fun b hb => by
  have e : some (some b0) = some (some b) := Eq.trans (Eq.symm h) hb
  cases e
  exact k
end Go.Ab

/- Heaps that a law keeps: mirrored, swapped, joined, common, shifted, cropped and widened ones, plainly. -/
namespace Go.Ab
open Go
set_option linter.unusedSimpArgs false
set_option linter.unusedVariables false
set_option maxRecDepth 20000

/-- A heap, or the empty one and false; its cells lie in a block of their own. -/
def HeapX (M : Mem) (r : Option Hp) (v : LV) (N : Mem) : Prop := ∃ u : Nat, v = .tup [.agg [.I (r.getD Hp.none).x, .I (r.getD Hp.none).y, .I (r.getD Hp.none).z, .ref u 0 (r.getD Hp.none).cs.length], .B r.isSome] ∧ Live N u (.row (triL (r.getD Hp.none).cs) true 3) ∧ Pre M N
section
variable (x y z : Int) (cs : List Cell)
noncomputable def mirOf (d : Int) : Option Hp := by
  classical
  exact if HeapOK x y z cs ∧ Dir d then some ⟨x, y, z, mirD x y z d cs⟩ else none
noncomputable def othOf : Option Hp := by
  classical
  exact if HeapOK x y z cs then some ⟨x, y, z, pick x y z (freeP cs)⟩ else none
end
/-- Two coordinates exchanged. -/
def swI (a b i : Int) : Int := if i = a then b else if i = b then a else i
def swC (a b : Int) (c : Cell) : Cell := ⟨c.at (swI a b 0), c.at (swI a b 1), c.at (swI a b 2)⟩
def swX (a b : Int) (x y z : Int) (cs : List Cell) : Hp := ⟨(swC a b ⟨x, y, z⟩).a, (swC a b ⟨x, y, z⟩).b, (swC a b ⟨x, y, z⟩).c, pick (swC a b ⟨x, y, z⟩).a (swC a b ⟨x, y, z⟩).b (swC a b ⟨x, y, z⟩).c fun d => decide (d ∈ cs.map (swC a b))⟩
section
variable {x y z : Int} {cs : List Cell}
end
section
variable (x y z : Int) (cs : List Cell)
noncomputable def swpOf (a b : Int) : Option Hp := by
  classical
  exact if HeapOK x y z cs ∧ Dir a ∧ Dir b then some (swX a b x y z cs) else none
/-- Both are heaps, in the same box. -/
def Alike (x' y' z' : Int) (ds : List Cell) : Prop := HeapOK x y z cs ∧ HeapOK x' y' z' ds ∧ x = x' ∧ y = y' ∧ z = z'
noncomputable instance {x y z : Int} {cs : List Cell} {x' y' z' : Int} {ds : List Cell} : Decidable (Alike x y z cs x' y' z' ds) := Classical.propDecidable _
noncomputable def jnOf (x' y' z' : Int) (ds : List Cell) : Option Hp := if Alike x y z cs x' y' z' ds then some ⟨x, y, z, pick x y z fun c => decide (c ∈ cs) || decide (c ∈ ds)⟩ else none
noncomputable def cmOf (x' y' z' : Int) (ds : List Cell) : Option Hp := if Alike x y z cs x' y' z' ds then some ⟨x, y, z, pick x y z fun c => decide (c ∈ cs) && decide (c ∈ ds)⟩ else none
/-- A shift that is not too far. -/
def Near4 (p : Cell) : Prop := (-4 ≤ p.a ∧ p.a ≤ 4) ∧ (-4 ≤ p.b ∧ p.b ≤ 4) ∧ (-4 ≤ p.c ∧ p.c ≤ 4)
noncomputable def shOf (p : Cell) : Option Hp := by
  classical
  exact if HeapOK x y z cs ∧ Near4 p ∧ HeapOK x y z (cs.map (shift p)) then some ⟨x, y, z, cs.map (shift p)⟩ else none
noncomputable def crOf : Option Hp := by
  classical
  exact if HeapOK x y z cs ∧ 0 < cs.length then some (cropHp cs) else none
noncomputable def wdOf (X Y Z : Int) : Option Hp := by
  classical
  exact if HeapOK x y z cs ∧ HeapOK X Y Z cs then some ⟨X, Y, Z, cs⟩ else none
end
end Go.Ab

/- The abstract code of some functions (written by a program of mine from the translation, by way of prepF). -/
namespace Go.Ab.C
open Go.Ab
end Go.Ab.C

/- That the program has this code. -/
namespace Go.Ab.K
open Go Go.Ab
end Go.Ab.K

/- Contracts: the reference's mirrored, other, cropped, widened and shifted heaps. -/
namespace Go.Ab
open Go
set_option linter.unusedSimpArgs false
set_option linter.unusedVariables false
set_option maxRecDepth 20000

section
variable {x y z : Int} {t : Nat} {w : Bool} {cs : List Cell} {M : Mem} (h : Live M t (.row (triL cs) w 3)) (hn : cs.length ≤ 1000000000)
include h hn
end
end Go.Ab

/- Contracts: shadows that fit together, greatest heaps, bounds, clean shadows, taken cubes. -/
namespace Go.Ab
open Go
set_option linter.unusedSimpArgs false
set_option linter.unusedVariables false
set_option maxRecDepth 20000

structure Shd where
  x : Int
  y : Int
  z : Int
  tp : List Int
  fr : List Int
  sd : List Int
def Shd.none : Shd := ⟨0, 0, 0, [], [], []⟩
/-- A shadow, or the one of all zeros and false; its lists may be read. -/
def ShdX (M : Mem) (r : Option Shd) (v : LV) (N : Mem) : Prop := ∃ a b c : Nat, v = .tup [.agg [.I (r.getD Shd.none).x, .I (r.getD Shd.none).y, .I (r.getD Shd.none).z, .ref a 0 (r.getD Shd.none).tp.length, .ref b 0 (r.getD Shd.none).fr.length, .ref c 0 (r.getD Shd.none).sd.length], .B r.isSome] ∧
  Ints N a 0 (r.getD Shd.none).tp ∧ Ints N b 0 (r.getD Shd.none).fr ∧ Ints N c 0 (r.getD Shd.none).sd ∧ Pre M N
section
variable (x y z : Int) (tp fr sd : List Int)
noncomputable def grtOf : Option Hp := by
  classical
  exact if Fits x y z tp fr sd then some ⟨x, y, z, pick x y z (allowedB y z tp fr sd)⟩ else none
noncomputable def clnOf : Option Shd := by
  classical
  exact if ShdOK x y z tp fr sd then some ⟨x, y, z, shdOf x y z 2 (pick x y z (allowedB y z tp fr sd)), shdOf x y z 1 (pick x y z (allowedB y z tp fr sd)), shdOf x y z 0 (pick x y z (allowedB y z tp fr sd))⟩ else none
noncomputable def lbdOf : Option Int := by
  classical
  exact if ShdOK x y z tp fr sd then some (max (litSum tp) (max (litSum fr) (litSum sd))) else none
end
section
variable {x y z : Int} {t o t' o' t2 o2 : Nat} {tp fr sd : List Int} {M : Mem} (h1 : Ints M t o tp) (h2 : Ints M t' o' fr) (h3 : Ints M t2 o2 sd) (l1 : tp.length ≤ 1000000000) (l2 : fr.length ≤ 1000000000) (l3 : sd.length ≤ 1000000000)
include h1 h2 h3 l1 l2 l3
end
end Go.Ab

/- Contracts: the shadows that a law draws. -/
namespace Go.Ab
open Go
set_option linter.unusedSimpArgs false
set_option linter.unusedVariables false
set_option maxRecDepth 20000

/-- A heap whose cells lie in a block of their own. -/
def HeapL (v : LV) (N : Mem) : Prop := ∃ (x y z : Int) (cs : List Cell) (u : Nat), v = .agg [.I x, .I y, .I z, .ref u 0 cs.length] ∧ Live N u (.row (triL cs) true 3) ∧ cs.length ≤ 65
theorem CurAt.ne3 {M : Mem} {p t o a u : Nat} {bs : List Nat} {cs : List LV} {w : Bool} (h : CurAt M p t o bs a) (hu : Live M u (.row cs w 3)) : u ≠ p := by
  obtain ⟨⟨_, _, _, hp⟩, _⟩ := h
  exact hu.ne_esz hp (by decide)
/-- A drawn shadow: its lists lie in new blocks. -/
def ShdL (M : Mem) (v : LV) (N : Mem) : Prop := ∃ (x y z : Int) (tp fr sd : List Int) (a b c : Nat), v = .agg [.I x, .I y, .I z, .ref a 0 tp.length, .ref b 0 fr.length, .ref c 0 sd.length] ∧
  Live N a (.row (intL tp) true 1) ∧ Live N b (.row (intL fr) true 1) ∧ Live N c (.row (intL sd) true 1) ∧ M.length ≤ a ∧ M.length ≤ b ∧ M.length ≤ c ∧ tp.length ≤ 17 ∧ fr.length ≤ 17 ∧ sd.length ≤ 17
section
variable {t o : Nat} {bs : List Nat} {M : Mem} (hB : Bytes M t o bs) (h255 : ∀ b ∈ bs, b ≤ 255) (hl : bs.length ≤ 1000000000)
include hB h255 hl
end
end Go.Ab

/- Contracts: a heap and a list of cubes that may be a taking order. -/
namespace Go.Ab
open Go
set_option linter.unusedSimpArgs false
set_option linter.unusedVariables false
set_option maxRecDepth 20000

theorem memK_set3 {M : Mem} {t k : Nat} {cs : List Cell} {c : Cell} {A : Mem → Prop} (ht : Live M t (.row (triL cs) true 3)) (hk : k < cs.length)
    (hA : ∀ M', M'.length = M.length → Live M' t (.row (triL (cs.set k c)) true 3) → (∀ u, u ≠ t → u < M.length → M'[u]? = M[u]?) → A M') : memK (setCells M t (k * 3) [.val (.int .i64 c.a), .val (.int .i64 c.b), .val (.int .i64 c.c)]) A := by
  rw [ht.setC, if_pos (by rw [triL_len]; simp; omega), splice_tri hk]
  exact hA _ (by simp) ht.set_eq fun u hu _ => List.getElem?_set_ne (fun e => hu e.symm)

theorem tmodN' {j k : Nat} : ((j : Nat) : Int).tmod (k : Int) = ((j % k : Nat) : Int) := by
  rw [Int.tmod_eq_emod_of_nonneg (by omega)]; rfl
set_option maxHeartbeats 1000000 in
theorem d_DrawIsTakingOrder {t o : Nat} {bs : List Nat} {M : Mem} (hB : Bytes M t o bs) (h255 : ∀ b ∈ bs, b ≤ 255) (hl : bs.length ≤ 1000000000) : CallsR PG F.spec_DrawIsTakingOrder [.ref t o bs.length] M fun v N => (∃ hv lv l, v = .tup [hv, lv] ∧ HeapE M hv N ∧ CellsV N lv l ∧ l.length ≤ 70) ∧ Pre M N := by
  have htM := hB.lt
  refine callsR_run K.spec_DrawIsTakingOrder rfl ?_
  simp (disch := omega) only [C.spec_DrawIsTakingOrder, splice, ↓SXd, SXu, slBounds, ↓sop, ↓aop, ↓reduceIte, LV.cells, AOp.dst, LV.I, LV.B, LV.U, LV.S, LV.nil, Nat.reduceEqDiff, Nat.reduceAdd, Nat.reduceMul, Nat.reduceSub, Nat.reduceLeDiff, Nat.reduceBEq, Nat.reduceDiv, Nat.reduceMod, Int.reduceToNat, Int.reduceLT, Int.reduceLE, Int.reduceAdd, Int.reduceSub, Int.reduceMul, Int.reduceEq, Int.reduceNeg, reduceCtorEq, resV, resAll, ARes.ev, LV.flat, ite_true, ite_false, exists_eq_left', exists_eq_left, keyOf, implies_true, fillC, capOf]
  have hc := CurAt.new2 (b := some (.row [.I 0, .I 0, .I 0, .nil] true 0)) hB h255 hl
  refine callR_of (d_standing7 hc (by omega)) ?_
  rintro _ N1 ⟨⟨x, y, z, cs, u, rfl, hu, hul, hcl⟩, hd1⟩
  rw [List.length_append] at hul
  simp only [List.length_cons, List.length_nil] at hul
  have b2 : Live N1 M.length (.row [.I 0, .I 0, .I 0, .nil] true 0) := hd1.live Live.new (by omega)
  have hP1 : Pre M N1 := hd1.pre (Pre.app _ _) (by omega)
  have hN1 := hd1.2.1
  rw [List.length_append] at hN1
  simp only [List.length_cons, List.length_nil] at hN1
  have hul2 := hu.lt
  simp (disch := omega) only [splice, ↓SXd, SXu, slBounds, ↓sop, ↓aop, ↓reduceIte, LV.cells, AOp.dst, LV.I, LV.B, LV.U, LV.S, LV.nil, Nat.reduceEqDiff, Nat.reduceAdd, Nat.reduceMul, Nat.reduceSub, Nat.reduceLeDiff, Nat.reduceBEq, Nat.reduceDiv, Nat.reduceMod, Int.reduceToNat, Int.reduceLT, Int.reduceLE, Int.reduceAdd, Int.reduceSub, Int.reduceMul, Int.reduceEq, Int.reduceNeg, reduceCtorEq, resV, resAll, ARes.ev, LV.flat, ite_true, ite_false, exists_eq_left', exists_eq_left, keyOf, implies_true, fillC, capOf]
  have b5 : Live (N1 ++ [some (.row [.I x, .I y, .I z, .ref u 0 cs.length] true 0), some (.row [] true 3), some (.row [.I x, .I y, .I z, .ref u 0 cs.length] true 0)]) N1.length (.row [.I x, .I y, .I z, .ref u 0 cs.length] true 0) := Live.new
  have b6 : Live (N1 ++ [some (.row [.I x, .I y, .I z, .ref u 0 cs.length] true 0), some (.row [] true 3), some (.row [.I x, .I y, .I z, .ref u 0 cs.length] true 0)]) (N1.length + 1) (.row (triL []) true 3) := Live.newj rfl
  have b7 : Live (N1 ++ [some (.row [.I x, .I y, .I z, .ref u 0 cs.length] true 0), some (.row [] true 3), some (.row [.I x, .I y, .I z, .ref u 0 cs.length] true 0)]) (N1.length + 2) (.row [.I x, .I y, .I z, .ref u 0 cs.length] true 0) := Live.newj rfl
  have c2 := b2.app (L := [some (.row [.I x, .I y, .I z, .ref u 0 cs.length] true 0), some (.row [] true 3), some (.row [.I x, .I y, .I z, .ref u 0 cs.length] true 0)])
  have cu := hu.app (L := [some (.row [.I x, .I y, .I z, .ref u 0 cs.length] true 0), some (.row [] true 3), some (.row [.I x, .I y, .I z, .ref u 0 cs.length] true 0)])
  have hcur : CurAt (N1 ++ [some (.row [.I x, .I y, .I z, .ref u 0 cs.length] true 0), some (.row [] true 3), some (.row [.I x, .I y, .I z, .ref u 0 cs.length] true 0)]) (M.length + 1) t o bs 170 := hd1.1.pre (Pre.app _ _)
  have hP : Pre M (N1 ++ [some (.row [.I x, .I y, .I z, .ref u 0 cs.length] true 0), some (.row [] true 3), some (.row [.I x, .I y, .I z, .ref u 0 cs.length] true 0)]) := hP1.trans (Pre.app _ _)
  have hm5g : M.length + 2 ≤ N1.length := by omega
  have hu5 : u < N1.length := by omega
  generalize hm5 : N1.length = m5 at b5 b6 b7 hm5g hu5 ⊢
  generalize N1 ++ [some (Blk.row [.I x, .I y, .I z, .ref u 0 cs.length] true 0), some (.row [] true 3), some (.row [.I x, .I y, .I z, .ref u 0 cs.length] true 0)] = N2 at b5 b6 b7 c2 cu hcur hP ⊢
  refine loop_cut (fun fr N => ∃ (l : List Cell) (u6 a : Nat), l.length ≤ 65 ∧ a ≤ 2000 ∧ CurAt N (M.length + 1) t o bs a ∧ Pre M N ∧ Live N M.length (.row [.I 0, .I 0, .I 0, .nil] true 0) ∧ Live N m5 (.row [.I x, .I y, .I z, .ref u 0 cs.length] true 0) ∧ Live N u (.row (triL cs) true 3) ∧ Live N u6 (.row (triL l) true 3) ∧ M.length + 2 ≤ u6 ∧ u6 ≠ u ∧ u6 ≠ m5 ∧
    fr 2 = .ptr M.length 0 ∧ fr 4 = .ptr (M.length + 1) 0 ∧ fr 5 = .ptr m5 0 ∧ fr 6 = .ref u6 0 l.length) ?_ ?_
  · refine ev_loop (fun m fr N => ∃ (l ls : List Cell) (ul u6 a : Nat), ls.length = m ∧ l.length + ls.length = cs.length ∧ (HeapOK x y z cs → HeapOK x y z ls) ∧ a + 2 * m ≤ 2000 ∧ CurAt N (M.length + 1) t o bs a ∧ Pre M N ∧ Live N M.length (.row [.I 0, .I 0, .I 0, .nil] true 0) ∧ Live N m5 (.row [.I x, .I y, .I z, .ref u 0 cs.length] true 0) ∧ Live N (m5 + 2) (.row [.I x, .I y, .I z, .ref ul 0 ls.length] true 0) ∧ Live N ul (.row (triL ls) true 3) ∧ Live N u (.row (triL cs) true 3) ∧ Live N u6 (.row (triL l) true 3) ∧ M.length + 2 ≤ u6 ∧ u6 ≠ u ∧ u6 ≠ ul ∧ u6 ≠ m5 ∧ u6 ≠ m5 + 2 ∧ ul ≠ m5 + 2 ∧ M.length + 2 ≤ ul ∧
      fr 2 = .ptr M.length 0 ∧ fr 4 = .ptr (M.length + 1) 0 ∧ fr 5 = .ptr m5 0 ∧ fr 6 = .ref u6 0 l.length ∧ fr 7 = .ptr (m5 + 2) 0) cs.length
      ⟨[], cs, u, m5 + 1, 170, rfl, by simp, id, by omega, hcur, hP, c2, b5, b7, cu, cu, b6, by omega, by omega, by omega, by omega, by omega, by omega, by omega, rfl, rfl, rfl, rfl, rfl⟩ ?_
    clear c2 b5 b7 cu b6 hcur hP hu hul b2 hP1 hd1 hm5 hul2 hN1 hu5
    rintro m fr N ⟨l, ls, ul, u6, a, hm, hll, hHs, ha, hcur, hP, c2, b5, b7, bl, cu, b6, q1, q2, q3, q4, q5, q6, q7, f2, f4, f5, f6, f7⟩
    simp (disch := omega) only [f2, f4, f5, f6, f7, b5.cells, ↓SXd, SXu, slBounds, ↓sop, ↓aop, ↓reduceIte, LV.cells, AOp.dst, LV.I, LV.B, LV.U, LV.S, LV.nil, Nat.reduceEqDiff, Nat.reduceAdd, Nat.reduceMul, Nat.reduceSub, Nat.reduceLeDiff, Nat.reduceBEq, Nat.reduceDiv, Nat.reduceMod, Int.reduceToNat, Int.reduceLT, Int.reduceLE, Int.reduceAdd, Int.reduceSub, Int.reduceMul, Int.reduceEq, Int.reduceNeg, reduceCtorEq, resV, resAll, ARes.ev, LV.flat, ite_true, ite_false, exists_eq_left', exists_eq_left, keyOf, implies_true, fillC, capOf]
    refine callK_of (h_l7Stands cu (by omega)) ?_
    simp (disch := omega) only [f2, f4, f5, f6, f7, ↓SXd, SXu, slBounds, ↓sop, ↓aop, ↓reduceIte, LV.cells, AOp.dst, LV.I, LV.B, LV.U, LV.S, LV.nil, Nat.reduceEqDiff, Nat.reduceAdd, Nat.reduceMul, Nat.reduceSub, Nat.reduceLeDiff, Nat.reduceBEq, Nat.reduceDiv, Nat.reduceMod, Int.reduceToNat, Int.reduceLT, Int.reduceLE, Int.reduceAdd, Int.reduceSub, Int.reduceMul, Int.reduceEq, Int.reduceNeg, reduceCtorEq, resV, resAll, ARes.ev, LV.flat, ite_true, ite_false, exists_eq_left', exists_eq_left, keyOf, implies_true, fillC, capOf]
    by_cases hV : HeapOK x y z cs ∧ Firm x y z (fun c => decide (c ∈ cs))
    rotate_left
    · simp (disch := omega) only [f2, f4, f5, f6, f7, hV, ↓SXd, SXu, slBounds, ↓sop, ↓aop, ↓reduceIte, LV.cells, AOp.dst, LV.I, LV.B, LV.U, LV.S, LV.nil, Nat.reduceEqDiff, Nat.reduceAdd, Nat.reduceMul, Nat.reduceSub, Nat.reduceLeDiff, Nat.reduceBEq, Nat.reduceDiv, Nat.reduceMod, Int.reduceToNat, Int.reduceLT, Int.reduceLE, Int.reduceAdd, Int.reduceSub, Int.reduceMul, Int.reduceEq, Int.reduceNeg, reduceCtorEq, resV, resAll, ARes.ev, LV.flat, ite_true, ite_false, exists_eq_left', exists_eq_left, keyOf, implies_true, fillC, capOf]
      exact ⟨l, u6, a, by omega, by omega, hcur, hP, c2, b5, cu, b6, q1, q2, q4, f2, f4, f5, f6⟩
    by_cases h0 : (0 : Int) < (ls.length : Nat)
    rotate_left
    · simp (disch := omega) only [f2, f4, f5, f6, f7, hV, h0, b7.cell, ↓SXd, SXu, slBounds, ↓sop, ↓aop, ↓reduceIte, LV.cells, AOp.dst, LV.I, LV.B, LV.U, LV.S, LV.nil, Nat.reduceEqDiff, Nat.reduceAdd, Nat.reduceMul, Nat.reduceSub, Nat.reduceLeDiff, Nat.reduceBEq, Nat.reduceDiv, Nat.reduceMod, Int.reduceToNat, Int.reduceLT, Int.reduceLE, Int.reduceAdd, Int.reduceSub, Int.reduceMul, Int.reduceEq, Int.reduceNeg, reduceCtorEq, resV, resAll, ARes.ev, LV.flat, ite_true, ite_false, exists_eq_left', exists_eq_left, keyOf, implies_true, fillC, capOf]
      exact ⟨l, u6, a, by omega, by omega, hcur, hP, c2, b5, cu, b6, q1, q2, q4, f2, f4, f5, f6⟩
    simp (disch := omega) only [f2, f4, f5, f6, f7, hV, h0, b7.cell, ↓SXd, SXu, slBounds, ↓sop, ↓aop, ↓reduceIte, LV.cells, AOp.dst, LV.I, LV.B, LV.U, LV.S, LV.nil, Nat.reduceEqDiff, Nat.reduceAdd, Nat.reduceMul, Nat.reduceSub, Nat.reduceLeDiff, Nat.reduceBEq, Nat.reduceDiv, Nat.reduceMod, Int.reduceToNat, Int.reduceLT, Int.reduceLE, Int.reduceAdd, Int.reduceSub, Int.reduceMul, Int.reduceEq, Int.reduceNeg, reduceCtorEq, resV, resAll, ARes.ev, LV.flat, ite_true, ite_false, exists_eq_left', exists_eq_left, keyOf, implies_true, fillC, capOf]
    refine callR_of (d_pick hcur (by omega)) ?_
    rintro _ N3 ⟨⟨k, rfl, hk⟩, hd2⟩
    have hkl : k < ls.length := by omega
    have e2 := hd2.live c2 (by omega)
    have e5 := hd2.live b5 (by omega)
    have e7 := hd2.live b7 (by omega)
    have el := hd2.live bl (by omega)
    have eu := hd2.live cu (by have := hcur.ne3 cu; omega)
    have e6 := hd2.live b6 (by omega)
    have hP3 : Pre M N3 := hd2.pre hP (by omega)
    have hH := hHs hV.1
    have hlen := hH.len
    simp (disch := omega) only [f2, f4, f5, f6, f7, ↓SXd, SXu, slBounds, ↓sop, ↓aop, ↓reduceIte, LV.cells, AOp.dst, LV.I, LV.B, LV.U, LV.S, LV.nil, Nat.reduceEqDiff, Nat.reduceAdd, Nat.reduceMul, Nat.reduceSub, Nat.reduceLeDiff, Nat.reduceBEq, Nat.reduceDiv, Nat.reduceMod, Int.reduceToNat, Int.reduceLT, Int.reduceLE, Int.reduceAdd, Int.reduceSub, Int.reduceMul, Int.reduceEq, Int.reduceNeg, reduceCtorEq, resV, resAll, ARes.ev, LV.flat, ite_true, ite_false, exists_eq_left', exists_eq_left, keyOf, implies_true, fillC, capOf]
    refine loop_cut (fun fr W => ∃ i : Nat, i < ls.length ∧ W = N3 ∧ fr 2 = .ptr M.length 0 ∧ fr 4 = .ptr (M.length + 1) 0 ∧ fr 5 = .ptr m5 0 ∧ fr 6 = .ref u6 0 l.length ∧ fr 7 = .ptr (m5 + 2) 0 ∧ fr 8 = .I i) ?_ ?_
    · refine ev_loop (fun m2 fr W => ∃ i j : Nat, i < ls.length ∧ j + m2 = ls.length ∧ W = N3 ∧ fr 2 = .ptr M.length 0 ∧ fr 4 = .ptr (M.length + 1) 0 ∧ fr 5 = .ptr m5 0 ∧ fr 6 = .ref u6 0 l.length ∧ fr 7 = .ptr (m5 + 2) 0 ∧ fr 8 = .I i ∧ fr 9 = .I j) ls.length
        ⟨k, 0, hkl, by omega, rfl, f2, f4, f5, f6, f7, rfl, rfl⟩ ?_
      clear f2 f4 f5 f6 f7
      rintro m2 fr W ⟨i, j, hil, hj, rfl, f2, f4, f5, f6, f7, f8, f9⟩
      have hci := el.tri0 hil
      by_cases hjl : (j : Int) < (ls.length : Nat)
      rotate_left
      · simp (disch := omega) only [f2, f4, f5, f6, f7, f8, f9, e7.cell, hjl, ↓SXd, SXu, slBounds, ↓sop, ↓aop, ↓reduceIte, LV.cells, AOp.dst, LV.I, LV.B, LV.U, LV.S, LV.nil, Nat.reduceEqDiff, Nat.reduceAdd, Nat.reduceMul, Nat.reduceSub, Nat.reduceLeDiff, Nat.reduceBEq, Nat.reduceDiv, Nat.reduceMod, Int.reduceToNat, Int.reduceLT, Int.reduceLE, Int.reduceAdd, Int.reduceSub, Int.reduceMul, Int.reduceEq, Int.reduceNeg, reduceCtorEq, resV, resAll, ARes.ev, LV.flat, ite_true, ite_false, exists_eq_left', exists_eq_left, keyOf, implies_true, fillC, capOf]
        exact ⟨i, hil, rfl, f2, f4, f5, f6, f7, f8⟩
      generalize ls.getD i default = c at hci
      simp (disch := omega) only [f2, f4, f5, f6, f7, f8, f9, e7.cells, e7.cell, hjl, hci, Cell.row, ↓SXd, SXu, slBounds, ↓sop, ↓aop, ↓reduceIte, LV.cells, AOp.dst, LV.I, LV.B, LV.U, LV.S, LV.nil, Nat.reduceEqDiff, Nat.reduceAdd, Nat.reduceMul, Nat.reduceSub, Nat.reduceLeDiff, Nat.reduceBEq, Nat.reduceDiv, Nat.reduceMod, Int.reduceToNat, Int.reduceLT, Int.reduceLE, Int.reduceAdd, Int.reduceSub, Int.reduceMul, Int.reduceEq, Int.reduceNeg, reduceCtorEq, resV, resAll, ARes.ev, LV.flat, ite_true, ite_false, exists_eq_left', exists_eq_left, keyOf, implies_true, fillC, capOf]
      refine callK_of (h_l7Can el hH) ?_
      simp (disch := omega) only [f2, f4, f5, f6, f7, f8, f9, ↓SXd, SXu, slBounds, ↓sop, ↓aop, ↓reduceIte, LV.cells, AOp.dst, LV.I, LV.B, LV.U, LV.S, LV.nil, Nat.reduceEqDiff, Nat.reduceAdd, Nat.reduceMul, Nat.reduceSub, Nat.reduceLeDiff, Nat.reduceBEq, Nat.reduceDiv, Nat.reduceMod, Int.reduceToNat, Int.reduceLT, Int.reduceLE, Int.reduceAdd, Int.reduceSub, Int.reduceMul, Int.reduceEq, Int.reduceNeg, reduceCtorEq, resV, resAll, ARes.ev, LV.flat, ite_true, ite_false, exists_eq_left', exists_eq_left, keyOf, implies_true, fillC, capOf]
      by_cases hk : canTake x y z (fun d => decide (d ∈ ls)) c = true
      · simp (disch := omega) only [f2, f4, f5, f6, f7, f8, f9, hk, ↓SXd, SXu, slBounds, ↓sop, ↓aop, ↓reduceIte, LV.cells, AOp.dst, LV.I, LV.B, LV.U, LV.S, LV.nil, Nat.reduceEqDiff, Nat.reduceAdd, Nat.reduceMul, Nat.reduceSub, Nat.reduceLeDiff, Nat.reduceBEq, Nat.reduceDiv, Nat.reduceMod, Int.reduceToNat, Int.reduceLT, Int.reduceLE, Int.reduceAdd, Int.reduceSub, Int.reduceMul, Int.reduceEq, Int.reduceNeg, reduceCtorEq, resV, resAll, ARes.ev, LV.flat, ite_true, ite_false, exists_eq_left', exists_eq_left, keyOf, implies_true, fillC, capOf]
        exact ⟨i, hil, rfl, f2, f4, f5, f6, f7, f8⟩
      · have hmo : ((i : Int) + 1).tmod (ls.length : Nat) = (((i + 1) % ls.length : Nat) : Int) := by
          rw [show (i : Int) + 1 = ((i + 1 : Nat) : Int) by omega]; exact tmodN' ..
        have hml := Nat.mod_lt (i + 1) (show 0 < ls.length by omega)
        have hne0 : ¬ ((ls.length : Nat) : Int) = 0 := by omega
        simp (disch := omega) only [f2, f4, f5, f6, f7, f8, f9, hk, e7.cell, hmo, ne_eq, hne0, not_false_eq_true, ↓SXd, SXu, slBounds, ↓sop, ↓aop, ↓reduceIte, LV.cells, AOp.dst, LV.I, LV.B, LV.U, LV.S, LV.nil, Nat.reduceEqDiff, Nat.reduceAdd, Nat.reduceMul, Nat.reduceSub, Nat.reduceLeDiff, Nat.reduceBEq, Nat.reduceDiv, Nat.reduceMod, Int.reduceToNat, Int.reduceLT, Int.reduceLE, Int.reduceAdd, Int.reduceSub, Int.reduceMul, Int.reduceEq, Int.reduceNeg, reduceCtorEq, resV, resAll, ARes.ev, LV.flat, ite_true, ite_false, exists_eq_left', exists_eq_left, keyOf, implies_true, fillC, capOf]
        exact ⟨m2 - 1, by omega, (i + 1) % ls.length, j + 1, hml, by omega, rfl, f2, f4, f5, f6, f7, rfl, eqI (natI _)⟩
    clear f2 f4 f5 f6 f7
    rintro fr W ⟨i, hil, rfl, f2, f4, f5, f6, f7, f8⟩
    have hci := el.tri0 hil
    have hcm := getD_mem' (d := default) hil
    generalize hcd : ls.getD i default = c at hci hcm
    have hwl := without_len hH hcm
    have hl6 := e6.lt
    have hl7 := e7.lt
    have hlu := eu.lt
    have hll' := el.lt
    simp (disch := omega) only [f2, f4, f5, f6, f7, f8, e7.cell, hci, Cell.row, splice, ↓SXd, SXu, slBounds, ↓sop, ↓aop, ↓reduceIte, LV.cells, AOp.dst, LV.I, LV.B, LV.U, LV.S, LV.nil, Nat.reduceEqDiff, Nat.reduceAdd, Nat.reduceMul, Nat.reduceSub, Nat.reduceLeDiff, Nat.reduceBEq, Nat.reduceDiv, Nat.reduceMod, Int.reduceToNat, Int.reduceLT, Int.reduceLE, Int.reduceAdd, Int.reduceSub, Int.reduceMul, Int.reduceEq, Int.reduceNeg, reduceCtorEq, resV, resAll, ARes.ev, LV.flat, ite_true, ite_false, exists_eq_left', exists_eq_left, keyOf, implies_true, fillC, capOf]
    refine appendK_cell e6 (by omega) fun N4 l1 l2 l3 => ?_
    have g7 := live_step e7 (by omega) l3
    have gl := live_step el (by omega) l3
    have gcl := gl.tri0 (k := i) hil
    rw [hcd] at gcl
    rw [cell_eta] at l2
    simp (disch := omega) only [f2, f4, f5, f6, f7, f8, g7.cells, g7.cell, gcl, Cell.row, ↓SXd, SXu, slBounds, ↓sop, ↓aop, ↓reduceIte, LV.cells, AOp.dst, LV.I, LV.B, LV.U, LV.S, LV.nil, Nat.reduceEqDiff, Nat.reduceAdd, Nat.reduceMul, Nat.reduceSub, Nat.reduceLeDiff, Nat.reduceBEq, Nat.reduceDiv, Nat.reduceMod, Int.reduceToNat, Int.reduceLT, Int.reduceLE, Int.reduceAdd, Int.reduceSub, Int.reduceMul, Int.reduceEq, Int.reduceNeg, reduceCtorEq, resV, resAll, ARes.ev, LV.flat, ite_true, ite_false, exists_eq_left', exists_eq_left, keyOf, implies_true, fillC, capOf]
    refine callH_of (h_l2Without gl.has (by omega)) ?_
    intro u2 N5 hu2 hp2 hb2
    rw [cell_eta] at hb2 ⊢
    simp (disch := omega) only [f2, f4, f5, f6, f7, f8, ↓SXd, SXu, slBounds, ↓sop, ↓aop, ↓reduceIte, LV.cells, AOp.dst, LV.I, LV.B, LV.U, LV.S, LV.nil, Nat.reduceEqDiff, Nat.reduceAdd, Nat.reduceMul, Nat.reduceSub, Nat.reduceLeDiff, Nat.reduceBEq, Nat.reduceDiv, Nat.reduceMod, Int.reduceToNat, Int.reduceLT, Int.reduceLE, Int.reduceAdd, Int.reduceSub, Int.reduceMul, Int.reduceEq, Int.reduceNeg, reduceCtorEq, resV, resAll, ARes.ev, LV.flat, ite_true, ite_false, exists_eq_left', exists_eq_left, keyOf, implies_true, fillC, capOf]
    refine memK_box (g7.pre hp2) (by simp) fun N6 j1 j2 j3 => ?_
    have hl5 := hp2.1
    have hPl := hP3.1
    simp (disch := omega) only [f2, f4, f5, f6, f7, f8, ↓SXd, SXu, slBounds, ↓sop, ↓aop, ↓reduceIte, LV.cells, AOp.dst, LV.I, LV.B, LV.U, LV.S, LV.nil, Nat.reduceEqDiff, Nat.reduceAdd, Nat.reduceMul, Nat.reduceSub, Nat.reduceLeDiff, Nat.reduceBEq, Nat.reduceDiv, Nat.reduceMod, Int.reduceToNat, Int.reduceLT, Int.reduceLE, Int.reduceAdd, Int.reduceSub, Int.reduceMul, Int.reduceEq, Int.reduceNeg, reduceCtorEq, resV, resAll, ARes.ev, LV.flat, ite_true, ite_false, exists_eq_left', exists_eq_left, keyOf, implies_true, fillC, capOf]
    have hcur6 : CurAt N6 (M.length + 1) t o bs (a + 2) := ((hd2.1.stepped (by omega) (by omega) l3).pre hp2).stepped (by omega) (by omega) j3
    refine ⟨ls.length - 1, by omega, l ++ [c], ls.filter fun d => !decide (d = c), u2, W.length + 1, a + 2, by omega, by simp; omega, fun _ => heap_without hH c, by omega, hcur6, pre_step ((pre_step hP3 (by omega) l1 l3).trans hp2) (by omega) (j := 0) j1 j3,
      live_step ((live_step e2 (by omega) l3).pre hp2) (by omega) j3, live_step ((live_step e5 (by omega) l3).pre hp2) (by omega) j3, j2, live_step hb2 (by omega) j3, live_step ((live_step eu (by omega) l3).pre hp2) ?_ j3, live_step (l2.pre hp2) (by omega) j3, by omega, by omega, by omega, by omega, by omega, by omega, by omega, f2, f4, f5, ?_, f7⟩
    · exact (eu.ne_esz e7 (by decide))
    · rfl
  · clear c2 b5 b7 cu b6 hcur hP hu b2 hP1 hd1 hm5 hul2 hN1 hu5
    rintro fr N ⟨l, u6, a, hll, ha, hcur, hP, c2, b5, cu, b6, q1, q2, q4, f2, f4, f5, f6⟩
    simp (disch := omega) only [f2, f4, f5, f6, ↓SXd, SXu, slBounds, ↓sop, ↓aop, ↓reduceIte, LV.cells, AOp.dst, LV.I, LV.B, LV.U, LV.S, LV.nil, Nat.reduceEqDiff, Nat.reduceAdd, Nat.reduceMul, Nat.reduceSub, Nat.reduceLeDiff, Nat.reduceBEq, Nat.reduceDiv, Nat.reduceMod, Int.reduceToNat, Int.reduceLT, Int.reduceLE, Int.reduceAdd, Int.reduceSub, Int.reduceMul, Int.reduceEq, Int.reduceNeg, reduceCtorEq, resV, resAll, ARes.ev, LV.flat, ite_true, ite_false, exists_eq_left', exists_eq_left, keyOf, implies_true, fillC, capOf]
    refine callR_of (d_pick hcur (by omega)) ?_
    rintro _ N3 ⟨⟨k, rfl, hk⟩, hd2⟩
    have e2 := hd2.live c2 (by omega)
    have e5 := hd2.live b5 (by omega)
    have eu := hd2.live cu (by have := hcur.ne3 cu; omega)
    have e6 := hd2.live b6 (by omega)
    have hP3 : Pre M N3 := hd2.pre hP (by omega)
    have hPl := hP3.1
    have hl2 := e2.lt
    have hl5 := e5.lt
    have hlu := eu.lt
    have hl6 := e6.lt
    have hup := hd2.1.ne3 eu
    have fin : ∀ {N5 : Mem} {l : List Cell} {u6 : Nat}, l.length ≤ 66 → Pre M N5 → Live N5 M.length (.row [.I 0, .I 0, .I 0, .nil] true 0) → Live N5 u (.row (triL cs) true 3) → Live N5 u6 (.row (triL l) true 3) → u6 ≠ M.length → ∀ N6, N6.length = N5.length → (∀ q, q ≠ M.length → q < N5.length → N6[q]? = N5[q]?) → (∃ lv l', lv = LV.ref u6 0 l.length ∧ HeapE M (.agg [.I x, .I y, .I z, .ref u 0 cs.length]) N6 ∧ CellsV N6 lv l' ∧ l'.length ≤ 70) ∧ Pre M N6 := by
      intro N5 l u6 h1 k1 k2 k3 k4 h6 N6 i1 i3
      exact ⟨⟨_, l, rfl, ⟨x, y, z, cs, u, rfl, live_step k3 (by omega) i3, by omega, hcl⟩, .inr ⟨u6, 0, rfl, (live_step k4 h6 i3).has⟩, by omega⟩, pre_step k1 (by omega) (j := 0) i1 i3⟩
    simp (disch := omega) only [f2, f4, f5, f6, ↓SXd, SXu, slBounds, ↓sop, ↓aop, ↓reduceIte, LV.cells, AOp.dst, LV.I, LV.B, LV.U, LV.S, LV.nil, Nat.reduceEqDiff, Nat.reduceAdd, Nat.reduceMul, Nat.reduceSub, Nat.reduceLeDiff, Nat.reduceBEq, Nat.reduceDiv, Nat.reduceMod, Int.reduceToNat, Int.reduceLT, Int.reduceLE, Int.reduceAdd, Int.reduceSub, Int.reduceMul, Int.reduceEq, Int.reduceNeg, reduceCtorEq, resV, resAll, ARes.ev, LV.flat, ite_true, ite_false, exists_eq_left', exists_eq_left, keyOf, implies_true, fillC, capOf]
    refine condC_dec (fun hk0 => ?_) (fun hk0 => ?_)
    · simp (disch := omega) only [f2, f4, f5, f6, e5.cells, ↓SXd, SXu, slBounds, ↓sop, ↓aop, ↓reduceIte, LV.cells, AOp.dst, LV.I, LV.B, LV.U, LV.S, LV.nil, Nat.reduceEqDiff, Nat.reduceAdd, Nat.reduceMul, Nat.reduceSub, Nat.reduceLeDiff, Nat.reduceBEq, Nat.reduceDiv, Nat.reduceMod, Int.reduceToNat, Int.reduceLT, Int.reduceLE, Int.reduceAdd, Int.reduceSub, Int.reduceMul, Int.reduceEq, Int.reduceNeg, reduceCtorEq, resV, resAll, ARes.ev, LV.flat, ite_true, ite_false, exists_eq_left', exists_eq_left, keyOf, implies_true, fillC, capOf]
      refine callR_of (d_cell hd2.1 (by omega)) ?_
      rintro _ N4 ⟨⟨c, rfl⟩, hd3⟩
      have g2 := hd3.live e2 (by omega)
      have g5 := hd3.live e5 (by omega)
      have gu := hd3.live eu (by omega)
      have g6 := hd3.live e6 (by have := hd2.1.ne3 e6; omega)
      have hP4 : Pre M N4 := hd3.pre hP3 (by omega)
      have hP4l := hd3.2.1
      simp (disch := omega) only [f2, f4, f5, f6, splice, ↓SXd, SXu, slBounds, ↓sop, ↓aop, ↓reduceIte, LV.cells, AOp.dst, LV.I, LV.B, LV.U, LV.S, LV.nil, Nat.reduceEqDiff, Nat.reduceAdd, Nat.reduceMul, Nat.reduceSub, Nat.reduceLeDiff, Nat.reduceBEq, Nat.reduceDiv, Nat.reduceMod, Int.reduceToNat, Int.reduceLT, Int.reduceLE, Int.reduceAdd, Int.reduceSub, Int.reduceMul, Int.reduceEq, Int.reduceNeg, reduceCtorEq, resV, resAll, ARes.ev, LV.flat, ite_true, ite_false, exists_eq_left', exists_eq_left, keyOf, implies_true, fillC, capOf]
      refine appendK_cell g6 (by omega) fun N5 l1 l2 l3 => ?_
      have i2 := live_step g2 (by omega) l3
      have i5 := live_step g5 (by omega) l3
      have iu := live_step gu (by omega) l3
      have hP5 := pre_step hP4 (by omega) l1 l3
      rw [cell_eta] at l2
      simp (disch := omega) only [f2, f4, f5, f6, i5.cells, ↓SXd, SXu, slBounds, ↓sop, ↓aop, ↓reduceIte, LV.cells, AOp.dst, LV.I, LV.B, LV.U, LV.S, LV.nil, Nat.reduceEqDiff, Nat.reduceAdd, Nat.reduceMul, Nat.reduceSub, Nat.reduceLeDiff, Nat.reduceBEq, Nat.reduceDiv, Nat.reduceMod, Int.reduceToNat, Int.reduceLT, Int.reduceLE, Int.reduceAdd, Int.reduceSub, Int.reduceMul, Int.reduceEq, Int.reduceNeg, reduceCtorEq, resV, resAll, ARes.ev, LV.flat, ite_true, ite_false, exists_eq_left', exists_eq_left, keyOf, implies_true, fillC, capOf]
      refine memK_box i2 (by simp) fun N6 k1 k2 k3 => ?_
      simp (disch := omega) only [f2, f4, f5, f6, k2.cells, ↓SXd, SXu, slBounds, ↓sop, ↓aop, ↓reduceIte, LV.cells, AOp.dst, LV.I, LV.B, LV.U, LV.S, LV.nil, Nat.reduceEqDiff, Nat.reduceAdd, Nat.reduceMul, Nat.reduceSub, Nat.reduceLeDiff, Nat.reduceBEq, Nat.reduceDiv, Nat.reduceMod, Int.reduceToNat, Int.reduceLT, Int.reduceLE, Int.reduceAdd, Int.reduceSub, Int.reduceMul, Int.reduceEq, Int.reduceNeg, reduceCtorEq, resV, resAll, ARes.ev, LV.flat, ite_true, ite_false, exists_eq_left', exists_eq_left, keyOf, implies_true, fillC, capOf]
      obtain ⟨⟨_, l', rfl, r1, r2, r3⟩, r4⟩ := fin (l := l ++ [c]) (by simp; omega) hP5 i2 iu l2 (by omega) N6 k1 k3
      exact ⟨⟨_, _, l', rfl, r1, r2, r3⟩, r4⟩
    · simp (disch := omega) only [f2, f4, f5, f6, ↓SXd, SXu, slBounds, ↓sop, ↓aop, ↓reduceIte, LV.cells, AOp.dst, LV.I, LV.B, LV.U, LV.S, LV.nil, Nat.reduceEqDiff, Nat.reduceAdd, Nat.reduceMul, Nat.reduceSub, Nat.reduceLeDiff, Nat.reduceBEq, Nat.reduceDiv, Nat.reduceMod, Int.reduceToNat, Int.reduceLT, Int.reduceLE, Int.reduceAdd, Int.reduceSub, Int.reduceMul, Int.reduceEq, Int.reduceNeg, reduceCtorEq, resV, resAll, ARes.ev, LV.flat, ite_true, ite_false, exists_eq_left', exists_eq_left, keyOf, implies_true, fillC, capOf]
      refine condC_dec (fun hk1 => ?_) (fun hk1 => ?_)
      · simp (disch := omega) only [f2, f4, f5, f6, ↓SXd, SXu, slBounds, ↓sop, ↓aop, ↓reduceIte, LV.cells, AOp.dst, LV.I, LV.B, LV.U, LV.S, LV.nil, Nat.reduceEqDiff, Nat.reduceAdd, Nat.reduceMul, Nat.reduceSub, Nat.reduceLeDiff, Nat.reduceBEq, Nat.reduceDiv, Nat.reduceMod, Int.reduceToNat, Int.reduceLT, Int.reduceLE, Int.reduceAdd, Int.reduceSub, Int.reduceMul, Int.reduceEq, Int.reduceNeg, reduceCtorEq, resV, resAll, ARes.ev, LV.flat, ite_true, ite_false, exists_eq_left', exists_eq_left, keyOf, implies_true, fillC, capOf]
        refine condC_dec (fun hl1 => ?_) (fun hl1 => ?_)
        · have ga := e6.tri0 (k := 0) (by omega)
          have gb := e6.tri0 (k := l.length - 1) (by omega)
          rw [Nat.zero_mul] at ga
          have htn : ((l.length : Int) - 1).toNat = l.length - 1 := by omega
          generalize l.getD 0 default = ca at ga
          generalize l.getD (l.length - 1) default = cb at gb
          simp (disch := omega) only [f2, f4, f5, f6, ga, gb, htn, Cell.row, splice, ↓SXd, SXu, slBounds, ↓sop, ↓aop, ↓reduceIte, LV.cells, AOp.dst, LV.I, LV.B, LV.U, LV.S, LV.nil, Nat.reduceEqDiff, Nat.reduceAdd, Nat.reduceMul, Nat.reduceSub, Nat.reduceLeDiff, Nat.reduceBEq, Nat.reduceDiv, Nat.reduceMod, Int.reduceToNat, Int.reduceLT, Int.reduceLE, Int.reduceAdd, Int.reduceSub, Int.reduceMul, Int.reduceEq, Int.reduceNeg, reduceCtorEq, resV, resAll, ARes.ev, LV.flat, ite_true, ite_false, exists_eq_left', exists_eq_left, keyOf, implies_true, fillC, capOf]
          refine ⟨fun b hb => by rw [List.getElem?_append_left hl6] at hb ⊢; exact hb, ?_⟩
          have w6 : Live (N3 ++ [some (.row [.I ca.a, .I ca.b, .I ca.c] true 0), some (.row [.I cb.a, .I cb.b, .I cb.c] true 0)]) u6 (.row (triL l) true 3) := e6.app
          have w10 : Live (N3 ++ [some (.row [.I ca.a, .I ca.b, .I ca.c] true 0), some (.row [.I cb.a, .I cb.b, .I cb.c] true 0)]) N3.length (.row [.I ca.a, .I ca.b, .I ca.c] true 0) := Live.new
          have w2 := e2.app (L := [some (.row [.I ca.a, .I ca.b, .I ca.c] true 0), some (.row [.I cb.a, .I cb.b, .I cb.c] true 0)])
          have w5 := e5.app (L := [some (.row [.I ca.a, .I ca.b, .I ca.c] true 0), some (.row [.I cb.a, .I cb.b, .I cb.c] true 0)])
          have wu := eu.app (L := [some (.row [.I ca.a, .I ca.b, .I ca.c] true 0), some (.row [.I cb.a, .I cb.b, .I cb.c] true 0)])
          have hP5 : Pre M (N3 ++ [some (.row [.I ca.a, .I ca.b, .I ca.c] true 0), some (.row [.I cb.a, .I cb.b, .I cb.c] true 0)]) := hP3.trans (Pre.app _ _)
          refine memK_set3 (k := 0) (c := cb) w6 (by omega) fun W1 k1 k2 k3 => ?_
          have x2 := live_step w2 (by omega) k3
          have x5 := live_step w5 (by omega) k3
          have xu := live_step wu (by omega) k3
          have x10 := live_step w10 (by omega) k3
          have hP6 := pre_step hP5 (by omega) (j := 0) k1 k3
          have hs1 : (l.set 0 cb).length = l.length := by simp
          simp (disch := omega) only [f2, f4, f5, f6, x10.cells, htn, ↓SXd, SXu, slBounds, ↓sop, ↓aop, ↓reduceIte, LV.cells, AOp.dst, LV.I, LV.B, LV.U, LV.S, LV.nil, Nat.reduceEqDiff, Nat.reduceAdd, Nat.reduceMul, Nat.reduceSub, Nat.reduceLeDiff, Nat.reduceBEq, Nat.reduceDiv, Nat.reduceMod, Int.reduceToNat, Int.reduceLT, Int.reduceLE, Int.reduceAdd, Int.reduceSub, Int.reduceMul, Int.reduceEq, Int.reduceNeg, reduceCtorEq, resV, resAll, ARes.ev, LV.flat, ite_true, ite_false, exists_eq_left', exists_eq_left, keyOf, implies_true, fillC, capOf]
          refine memK_set3 (k := l.length - 1) (c := ca) k2 (by omega) fun W2 j1 j2 j3 => ?_
          have y2 := live_step x2 (by omega) j3
          have y5 := live_step x5 (by omega) j3
          have yu := live_step xu (by omega) j3
          have hP7 := pre_step hP6 (by omega) (j := 0) j1 j3
          have hs2 : ((l.set 0 cb).set (l.length - 1) ca).length = l.length := by simp
          simp (disch := omega) only [f2, f4, f5, f6, y5.cells, ↓SXd, SXu, slBounds, ↓sop, ↓aop, ↓reduceIte, LV.cells, AOp.dst, LV.I, LV.B, LV.U, LV.S, LV.nil, Nat.reduceEqDiff, Nat.reduceAdd, Nat.reduceMul, Nat.reduceSub, Nat.reduceLeDiff, Nat.reduceBEq, Nat.reduceDiv, Nat.reduceMod, Int.reduceToNat, Int.reduceLT, Int.reduceLE, Int.reduceAdd, Int.reduceSub, Int.reduceMul, Int.reduceEq, Int.reduceNeg, reduceCtorEq, resV, resAll, ARes.ev, LV.flat, ite_true, ite_false, exists_eq_left', exists_eq_left, keyOf, implies_true, fillC, capOf]
          refine memK_box y2 (by simp) fun N6 k1 k2 k3 => ?_
          simp (disch := omega) only [f2, f4, f5, f6, k2.cells, ↓SXd, SXu, slBounds, ↓sop, ↓aop, ↓reduceIte, LV.cells, AOp.dst, LV.I, LV.B, LV.U, LV.S, LV.nil, Nat.reduceEqDiff, Nat.reduceAdd, Nat.reduceMul, Nat.reduceSub, Nat.reduceLeDiff, Nat.reduceBEq, Nat.reduceDiv, Nat.reduceMod, Int.reduceToNat, Int.reduceLT, Int.reduceLE, Int.reduceAdd, Int.reduceSub, Int.reduceMul, Int.reduceEq, Int.reduceNeg, reduceCtorEq, resV, resAll, ARes.ev, LV.flat, ite_true, ite_false, exists_eq_left', exists_eq_left, keyOf, implies_true, fillC, capOf]
          obtain ⟨⟨_, l', rfl, r1, r2, r3⟩, r4⟩ := fin (l := (l.set 0 cb).set (l.length - 1) ca) (by omega) hP7 y2 yu j2 (by omega) N6 k1 k3
          rw [hs2] at r2
          exact ⟨⟨_, _, l', rfl, r1, r2, r3⟩, r4⟩
        · simp (disch := omega) only [f2, f4, f5, f6, e5.cells, ↓SXd, SXu, slBounds, ↓sop, ↓aop, ↓reduceIte, LV.cells, AOp.dst, LV.I, LV.B, LV.U, LV.S, LV.nil, Nat.reduceEqDiff, Nat.reduceAdd, Nat.reduceMul, Nat.reduceSub, Nat.reduceLeDiff, Nat.reduceBEq, Nat.reduceDiv, Nat.reduceMod, Int.reduceToNat, Int.reduceLT, Int.reduceLE, Int.reduceAdd, Int.reduceSub, Int.reduceMul, Int.reduceEq, Int.reduceNeg, reduceCtorEq, resV, resAll, ARes.ev, LV.flat, ite_true, ite_false, exists_eq_left', exists_eq_left, keyOf, implies_true, fillC, capOf]
          refine memK_box e2 (by simp) fun N6 k1 k2 k3 => ?_
          simp (disch := omega) only [f2, f4, f5, f6, k2.cells, ↓SXd, SXu, slBounds, ↓sop, ↓aop, ↓reduceIte, LV.cells, AOp.dst, LV.I, LV.B, LV.U, LV.S, LV.nil, Nat.reduceEqDiff, Nat.reduceAdd, Nat.reduceMul, Nat.reduceSub, Nat.reduceLeDiff, Nat.reduceBEq, Nat.reduceDiv, Nat.reduceMod, Int.reduceToNat, Int.reduceLT, Int.reduceLE, Int.reduceAdd, Int.reduceSub, Int.reduceMul, Int.reduceEq, Int.reduceNeg, reduceCtorEq, resV, resAll, ARes.ev, LV.flat, ite_true, ite_false, exists_eq_left', exists_eq_left, keyOf, implies_true, fillC, capOf]
          obtain ⟨⟨_, l', rfl, r1, r2, r3⟩, r4⟩ := fin (l := l) (by omega) hP3 e2 eu e6 (by omega) N6 k1 k3
          exact ⟨⟨_, _, l', rfl, r1, r2, r3⟩, r4⟩
      · simp (disch := omega) only [f2, f4, f5, f6, e5.cells, ↓SXd, SXu, slBounds, ↓sop, ↓aop, ↓reduceIte, LV.cells, AOp.dst, LV.I, LV.B, LV.U, LV.S, LV.nil, Nat.reduceEqDiff, Nat.reduceAdd, Nat.reduceMul, Nat.reduceSub, Nat.reduceLeDiff, Nat.reduceBEq, Nat.reduceDiv, Nat.reduceMod, Int.reduceToNat, Int.reduceLT, Int.reduceLE, Int.reduceAdd, Int.reduceSub, Int.reduceMul, Int.reduceEq, Int.reduceNeg, reduceCtorEq, resV, resAll, ARes.ev, LV.flat, ite_true, ite_false, exists_eq_left', exists_eq_left, keyOf, implies_true, fillC, capOf]
        refine memK_box e2 (by simp) fun N6 k1 k2 k3 => ?_
        simp (disch := omega) only [f2, f4, f5, f6, k2.cells, ↓SXd, SXu, slBounds, ↓sop, ↓aop, ↓reduceIte, LV.cells, AOp.dst, LV.I, LV.B, LV.U, LV.S, LV.nil, Nat.reduceEqDiff, Nat.reduceAdd, Nat.reduceMul, Nat.reduceSub, Nat.reduceLeDiff, Nat.reduceBEq, Nat.reduceDiv, Nat.reduceMod, Int.reduceToNat, Int.reduceLT, Int.reduceLE, Int.reduceAdd, Int.reduceSub, Int.reduceMul, Int.reduceEq, Int.reduceNeg, reduceCtorEq, resV, resAll, ARes.ev, LV.flat, ite_true, ite_false, exists_eq_left', exists_eq_left, keyOf, implies_true, fillC, capOf]
        obtain ⟨⟨_, l', rfl, r1, r2, r3⟩, r4⟩ := fin (l := l) (by omega) hP3 e2 eu e6 (by omega) N6 k1 k3
        exact ⟨⟨_, _, l', rfl, r1, r2, r3⟩, r4⟩
end Go.Ab

/- The abstract code of some functions (written by a program of mine from the translation, by way of prepF). -/
namespace Go.Ab.C
open Go.Ab
def spec_LayingOrder : AFn :=
 ⟨1, 70, [.tmp 2, .tmp 3],
 .seq (.ops [(none, .box 1 (.t 0)),
 (none, .mv 2 (.c .nil)),
 (none, .mv 3 (.c (.B false)))])
 (.seq (.seq (.ops [(none, .loadN 7 4 (.t 1)),
 (none, .call (some 8) F.spec_l7Stands [(.t 7)]),
 (none, .un 9 .not (.t 8))])
 (.cond (.t 9) (.seq (.ops [(none, .buildSl 10 0 3 [] []),
 (none, .mv 2 (.t 10)),
 (none, .mv 3 (.c (.B false)))])
 (.ret))
 (.skip)))
 (.seq (.ops [(none, .fieldAddr 11 (.t 1) 0),
 (none, .load1 12 (.t 11)),
 (none, .fieldAddr 13 (.t 1) 1),
 (none, .load1 14 (.t 13)),
 (none, .fieldAddr 15 (.t 1) 2),
 (none, .load1 16 (.t 15)),
 (none, .call (some 17) F.spec_l2Empty [(.t 12), (.t 14), (.t 16)]),
 (none, .buildSl 18 0 3 [] []),
 (none, .alloc 4 [(.I 0), (.I 0), (.I 0), .nil]),
 (none, .store 4 (.t 4) (.t 17)),
 (none, .mv 5 (.t 18))])
 (.seq (.block 0 (.loop (.seq (.seq (.ops [(none, .mv 19 (.t 5)),
 (none, .len 20 (.t 19)),
 (none, .fieldAddr 21 (.t 1) 3),
 (none, .load1 22 (.t 21)),
 (none, .len 23 (.t 22)),
 (none, .bin 24 .lss (.t 20) (.t 23))])
 (.cond (.t 24) (.skip)
 (.exit 0)))
 (.block 1 (.seq (.ops [(none, .mv 6 (.c (.I 0)))])
 (.seq (.block 2 (.loop (.seq (.seq (.draw [⟨(none, .loadN 25 4 (.t 4)), [], []⟩,
 ⟨(none, .fieldAddr 26 (.t 1) 3), [], []⟩,
 ⟨(none, .load1 27 (.t 26)), [], []⟩,
 ⟨(none, .mv 28 (.t 6)), [], []⟩,
 ⟨(none, .idxS 29 3 (.t 27) (.t 28)), [], []⟩,
 ⟨(none, .loadN 30 3 (.t 29)), [], []⟩,
 ⟨(none, .call (some 31) F.spec_l2Has [(.t 25), (.t 30)]), [], []⟩,
 ⟨(none, .mv 32 (.t 31)), [], []⟩,
 ⟨(some (32, false), .fieldAddr 33 (.t 1) 3), [], []⟩,
 ⟨(some (32, false), .load1 34 (.t 33)), [], []⟩,
 ⟨(some (32, false), .mv 35 (.t 6)), [], []⟩,
 ⟨(some (32, false), .idxS 36 3 (.t 34) (.t 35)), [], []⟩,
 ⟨(some (32, false), .idxA 37 3 1 (.t 36) (.c (.I 2))), [], []⟩,
 ⟨(some (32, false), .load1 38 (.t 37)), [], []⟩,
 ⟨(some (32, false), .bin 39 .gtr (.t 38) (.c (.I 0))), [], []⟩,
 ⟨(some (32, false), .mv 40 (.t 39)), [], []⟩,
 ⟨(some (40, true), .loadN 41 4 (.t 4)), [], []⟩,
 ⟨(some (40, true), .fieldAddr 42 (.t 1) 3), [], []⟩,
 ⟨(some (40, true), .load1 43 (.t 42)), [], []⟩,
 ⟨(some (40, true), .mv 44 (.t 6)), [], []⟩,
 ⟨(some (40, true), .idxS 45 3 (.t 43) (.t 44)), [], []⟩,
 ⟨(some (40, true), .loadN 46 3 (.t 45)), [], []⟩,
 ⟨(some (40, true), .call (some 47) F.spec_l2Near [(.t 41), (.t 46)]), [], []⟩,
 ⟨(some (40, true), .len 48 (.t 47)), [], []⟩,
 ⟨(some (40, true), .bin 49 .eql (.t 48) (.c (.I 0))), [], []⟩,
 ⟨(some (32, false), .pick 50 (.t 40) (.t 49) (.c (.B false))), [], []⟩,
 ⟨(none, .pick 51 (.t 32) (.c (.B true)) (.t 50)), [], []⟩])
 (.cond (.t 51) (.skip)
 (.exit 2)))
 (.block 3 (.ops [(none, .mv 52 (.t 6)),
 (none, .bin 53 .add (.t 52) (.c (.I 1))),
 (none, .mv 6 (.t 53))])))))
 (.seq (.ops [(none, .mv 54 (.t 5)),
 (none, .fieldAddr 55 (.t 1) 3),
 (none, .load1 56 (.t 55)),
 (none, .mv 57 (.t 6)),
 (none, .idxS 58 3 (.t 56) (.t 57)),
 (none, .loadN 59 3 (.t 58)),
 (none, .buildSl 60 1 3 [(.I 0), (.I 0), (.I 0)] [(0, 3, (.t 59))]),
 (none, .append 61 3 24 (.t 54) (.t 60)),
 (none, .mv 5 (.t 61))])
 (.draw [⟨(none, .loadN 62 4 (.t 4)), [], []⟩,
 ⟨(none, .fieldAddr 63 (.t 1) 3), [], []⟩,
 ⟨(none, .load1 64 (.t 63)), [], []⟩,
 ⟨(none, .mv 65 (.t 6)), [], []⟩,
 ⟨(none, .idxS 66 3 (.t 64) (.t 65)), [], []⟩,
 ⟨(none, .loadN 67 3 (.t 66)), [], []⟩,
 ⟨(none, .call (some 68) F.spec_l2With [(.t 62), (.t 67)]), [], []⟩,
 ⟨(none, .store 4 (.t 4) (.t 68)), [], []⟩]))))))))
 (.seq (.ops [(none, .mv 69 (.t 5)),
 (none, .mv 2 (.t 69)),
 (none, .mv 3 (.c (.B true)))])
 (.ret)))))⟩
end Go.Ab.C

/- That the program has this code. -/
namespace Go.Ab.K
open Go Go.Ab
theorem spec_LayingOrder : prepF Go.Proofs.Try.prog F.spec_LayingOrder = some C.spec_LayingOrder := by kernel_rfl
end Go.Ab.K

/- Contracts: the reference's laying orders. -/
namespace Go.Ab
open Go
set_option linter.unusedSimpArgs false
set_option linter.unusedVariables false

theorem box444 {x y z : Int} (hS : Sides x y z) {c : Cell} (h : c.inBox x y z) : c.inBox 4 4 4 := by
  obtain ⟨⟨_, _⟩, ⟨_, _⟩, ⟨_, _⟩⟩ := hS
  exact ⟨⟨h.1.1, by have := h.1.2; omega⟩, ⟨h.2.1.1, by have := h.2.1.2; omega⟩, ⟨h.2.2.1, by have := h.2.2.2; omega⟩⟩

theorem h_sLayingOrder {x y z : Int} {t : Nat} {w : Bool} {cs : List Cell} {M : Mem} (h : Live M t (.row (triL cs) w 3)) (hn : cs.length ≤ 1000000000) :
    CallsR PG F.spec_LayingOrder [.agg [.I x, .I y, .I z, .ref t 0 cs.length]] M (CellsRes M (layOf x y z cs)) := by
  refine callsR_run K.spec_LayingOrder rfl ?_
  simp (disch := omega) only [C.spec_LayingOrder, ↓SXd, SXu, slBounds, ↓sop, ↓aop, ↓reduceIte, LV.cells, AOp.dst, LV.I, LV.B, LV.U, LV.S, LV.nil, Nat.reduceEqDiff, Nat.reduceAdd, Nat.reduceMul, Nat.reduceSub, Nat.reduceLeDiff, Nat.reduceBEq, Nat.reduceDiv, Nat.reduceMod, Int.reduceToNat, Int.reduceLT, Int.reduceLE, Int.reduceAdd, Int.reduceSub, Int.reduceMul, Int.reduceEq, Int.reduceNeg, reduceCtorEq, resV, resAll, ARes.ev, LV.flat, ite_true, ite_false, exists_eq_left', exists_eq_left, keyOf, implies_true, fillC, capOf]
  refine callK_of (h_l7Stands h.app hn) ?_
  simp (disch := omega) only [↓SXd, SXu, slBounds, ↓sop, ↓aop, ↓reduceIte, LV.cells, AOp.dst, LV.I, LV.B, LV.U, LV.S, LV.nil, Nat.reduceEqDiff, Nat.reduceAdd, Nat.reduceMul, Nat.reduceSub, Nat.reduceLeDiff, Nat.reduceBEq, Nat.reduceDiv, Nat.reduceMod, Int.reduceToNat, Int.reduceLT, Int.reduceLE, Int.reduceAdd, Int.reduceSub, Int.reduceMul, Int.reduceEq, Int.reduceNeg, reduceCtorEq, resV, resAll, ARes.ev, LV.flat, ite_true, ite_false, exists_eq_left', exists_eq_left, keyOf, implies_true, fillC, capOf]
  unfold layOf
  by_cases hV : HeapOK x y z cs ∧ Firm x y z (fun c => decide (c ∈ cs))
  · obtain ⟨hH, hF⟩ := id hV
    have hS := hH.1
    have hin := fun c hc => hH.mem (c := c) hc
    have hpk := hH.pick
    have hlen := hH.len
    have hlo := fun k hk => lay_ok hS hF k hk
    rw [← hpk] at hlo
    rw [if_pos hV]
    simp (disch := omega) only [hV, ↓SXd, SXu, slBounds, ↓sop, ↓aop, ↓reduceIte, LV.cells, AOp.dst, LV.I, LV.B, LV.U, LV.S, LV.nil, Nat.reduceEqDiff, Nat.reduceAdd, Nat.reduceMul, Nat.reduceSub, Nat.reduceLeDiff, Nat.reduceBEq, Nat.reduceDiv, Nat.reduceMod, Int.reduceToNat, Int.reduceLT, Int.reduceLE, Int.reduceAdd, Int.reduceSub, Int.reduceMul, Int.reduceEq, Int.reduceNeg, reduceCtorEq, resV, resAll, ARes.ev, LV.flat, ite_true, ite_false, exists_eq_left', exists_eq_left, keyOf, implies_true, fillC, capOf]
    refine callK_of (h_l2Empty) ?_
    simp (disch := omega) only [splice, ↓SXd, SXu, slBounds, ↓sop, ↓aop, ↓reduceIte, LV.cells, AOp.dst, LV.I, LV.B, LV.U, LV.S, LV.nil, Nat.reduceEqDiff, Nat.reduceAdd, Nat.reduceMul, Nat.reduceSub, Nat.reduceLeDiff, Nat.reduceBEq, Nat.reduceDiv, Nat.reduceMod, Int.reduceToNat, Int.reduceLT, Int.reduceLE, Int.reduceAdd, Int.reduceSub, Int.reduceMul, Int.reduceEq, Int.reduceNeg, reduceCtorEq, resV, resAll, ARes.ev, LV.flat, ite_true, ite_false, exists_eq_left', exists_eq_left, keyOf, implies_true, fillC, capOf]
    refine ev_loop (fun m fr M' => ∃ (k u v : Nat), k + m = cs.length ∧ Pre M M' ∧ Live M' M.length (.row [.I x, .I y, .I z, .ref t 0 cs.length] true 0) ∧ Live M' (M.length + 3) (.row [.I x, .I y, .I z, .ref v 0 (pick x y z fun c => decide (c ∈ layL x y z (fun c => decide (c ∈ cs)) k)).length] true 0) ∧
      Live M' v (.row (triL (pick x y z fun c => decide (c ∈ layL x y z (fun c => decide (c ∈ cs)) k))) true 3) ∧ M.length ≤ u ∧ M.length ≤ v ∧ u ≠ v ∧ Live M' u (.row (triL (layL x y z (fun c => decide (c ∈ cs)) k)) true 3) ∧ fr 1 = .ptr M.length 0 ∧ fr 4 = .ptr (M.length + 3) 0 ∧ fr 5 = .ref u 0 (layL x y z (fun c => decide (c ∈ cs)) k).length) cs.length
      ⟨0, M.length + 2, M.length + 1, by omega, Pre.app _ _, Live.new, ?_, ?_, by omega, by omega, by omega, Live.newj rfl, rfl, rfl, rfl⟩ ?_
    · rw [show (pick x y z fun c => decide (c ∈ layL x y z (fun c => decide (c ∈ cs)) 0)) = [] by unfold pick; rw [List.filter_eq_nil_iff]; simp [layL]]; exact Live.newj rfl
    · rw [show (pick x y z fun c => decide (c ∈ layL x y z (fun c => decide (c ∈ cs)) 0)) = [] by unfold pick; rw [List.filter_eq_nil_iff]; simp [layL]]; exact Live.newj rfl
    rintro m fr M' ⟨k, u, v, hk, hpre, b1, b4, bv, hu, hv, huv, hout, f1, f4, f5⟩
    obtain ⟨l1, l2, l3, l4⟩ := hlo k (by omega)
    have hlM := b4.lt
    simp (disch := omega) only [f1, f4, f5, b1.cell, ↓SXd, SXu, slBounds, ↓sop, ↓aop, ↓reduceIte, LV.cells, AOp.dst, LV.I, LV.B, LV.U, LV.S, LV.nil, Nat.reduceEqDiff, Nat.reduceAdd, Nat.reduceMul, Nat.reduceSub, Nat.reduceLeDiff, Nat.reduceBEq, Nat.reduceDiv, Nat.reduceMod, Int.reduceToNat, Int.reduceLT, Int.reduceLE, Int.reduceAdd, Int.reduceSub, Int.reduceMul, Int.reduceEq, Int.reduceNeg, reduceCtorEq, resV, resAll, ARes.ev, LV.flat, ite_true, ite_false, exists_eq_left', exists_eq_left, keyOf, implies_true, fillC, capOf]
    refine condC_dec (fun hlt => ?_) (fun hlt => ?_)
    rotate_left
    · simp (disch := omega) only [f1, f4, f5, ↓SXd, SXu, slBounds, ↓sop, ↓aop, ↓reduceIte, LV.cells, AOp.dst, LV.I, LV.B, LV.U, LV.S, LV.nil, Nat.reduceEqDiff, Nat.reduceAdd, Nat.reduceMul, Nat.reduceSub, Nat.reduceLeDiff, Nat.reduceBEq, Nat.reduceDiv, Nat.reduceMod, Int.reduceToNat, Int.reduceLT, Int.reduceLE, Int.reduceAdd, Int.reduceSub, Int.reduceMul, Int.reduceEq, Int.reduceNeg, reduceCtorEq, resV, resAll, ARes.ev, LV.flat, ite_true, ite_false, exists_eq_left', exists_eq_left, keyOf, implies_true, fillC, capOf]
      have hkn : k = cs.length := by omega
      subst hkn
      exact ⟨_, rfl, SlC.of hout, Newer.of hu, hpre⟩
    · have hkn : k < cs.length := by omega
      simp (disch := omega) only [f1, f4, f5, ↓SXd, SXu, slBounds, ↓sop, ↓aop, ↓reduceIte, LV.cells, AOp.dst, LV.I, LV.B, LV.U, LV.S, LV.nil, Nat.reduceEqDiff, Nat.reduceAdd, Nat.reduceMul, Nat.reduceSub, Nat.reduceLeDiff, Nat.reduceBEq, Nat.reduceDiv, Nat.reduceMod, Int.reduceToNat, Int.reduceLT, Int.reduceLE, Int.reduceAdd, Int.reduceSub, Int.reduceMul, Int.reduceEq, Int.reduceNeg, reduceCtorEq, resV, resAll, ARes.ev, LV.flat, ite_true, ite_false, exists_eq_left', exists_eq_left, keyOf, implies_true, fillC, capOf]
      have hlm : ∀ d, d ∈ (pick x y z fun c => decide (c ∈ layL x y z (fun c => decide (c ∈ cs)) k)) ↔ d ∈ layL x y z (fun c => decide (c ∈ cs)) k := fun d => by
        rw [mem_pick hS]; simp only [decide_eq_true_eq]; exact ⟨fun h => h.2, fun h => ⟨(l3 d h).1, h⟩⟩
      have hpl := pick_len hS fun c => decide (c ∈ layL x y z (fun c => decide (c ∈ cs)) k)
      obtain ⟨s1, s2, s3, rs, s4⟩ := first_spec hS (l4 hkn)
      have hfa := @first_at x y z hS (fun c => !decide (c ∈ layL x y z (fun c => decide (c ∈ cs)) k) && (decide (c.c = 0) || (layL x y z (fun c => decide (c ∈ cs)) k).any fun d => decide (apart d c = 1))) (fun c => decide (c ∈ cs))
      rw [← hpk] at hfa
      have hlay : layL x y z (fun c => decide (c ∈ cs)) (k + 1) = layL x y z (fun c => decide (c ∈ cs)) k ++ [first x y z (layC (fun c => decide (c ∈ cs)) (layL x y z (fun c => decide (c ∈ cs)) k))] := rfl
      refine loop_cut (fun fr N => ∃ i : Nat, i < cs.length ∧ first x y z (layC (fun c => decide (c ∈ cs)) (layL x y z (fun c => decide (c ∈ cs)) k)) = cs.getD i default ∧ Pre M N ∧ Live N M.length (.row [.I x, .I y, .I z, .ref t 0 cs.length] true 0) ∧ Live N (M.length + 3) (.row [.I x, .I y, .I z, .ref v 0 (pick x y z fun c => decide (c ∈ layL x y z (fun c => decide (c ∈ cs)) k)).length] true 0) ∧
        Live N v (.row (triL (pick x y z fun c => decide (c ∈ layL x y z (fun c => decide (c ∈ cs)) k))) true 3) ∧ Live N u (.row (triL (layL x y z (fun c => decide (c ∈ cs)) k)) true 3) ∧ fr 1 = .ptr M.length 0 ∧ fr 4 = .ptr (M.length + 3) 0 ∧ fr 5 = .ref u 0 (layL x y z (fun c => decide (c ∈ cs)) k).length ∧ fr 6 = .I i) ?_ ?_
      rotate_left
      · clear f1 f4 f5 hpre b1 b4 bv hout
        rintro fr N ⟨i, hil, hfi, hpre, b1, b4, bv, hout, f1, f4, f5, f6⟩
        have hg := (h.pre hpre).tri0 hil
        have hci := hin _ (getD_mem' (d := default) hil)
        rw [hfi] at hlay
        simp (disch := omega) only [f1, f4, f5, f6, b1.cell, hg, Cell.row, splice, ↓SXd, SXu, slBounds, ↓sop, ↓aop, ↓reduceIte, LV.cells, AOp.dst, LV.I, LV.B, LV.U, LV.S, LV.nil, Nat.reduceEqDiff, Nat.reduceAdd, Nat.reduceMul, Nat.reduceSub, Nat.reduceLeDiff, Nat.reduceBEq, Nat.reduceDiv, Nat.reduceMod, Int.reduceToNat, Int.reduceLT, Int.reduceLE, Int.reduceAdd, Int.reduceSub, Int.reduceMul, Int.reduceEq, Int.reduceNeg, reduceCtorEq, resV, resAll, ARes.ev, LV.flat, ite_true, ite_false, exists_eq_left', exists_eq_left, keyOf, implies_true, fillC, capOf]
        refine appendK_cell hout (by omega) fun N2 j1 j2 j3 => ?_
        have hpu : Pre M N2 := pre_step hpre (by omega) j1 j3
        have c1 := live_step b1 (b1.ne_esz hout (by decide)) j3
        have c4 := live_step b4 (b4.ne_esz hout (by decide)) j3
        have cv := live_step bv (by omega) j3
        have hg2 := (h.pre hpu).tri0 hil
        rw [cell_eta, ← hlay] at j2
        simp (disch := omega) only [f1, f4, f5, f6, c4.cells, c1.cell, hg2, Cell.row, ↓SXd, SXu, slBounds, ↓sop, ↓aop, ↓reduceIte, LV.cells, AOp.dst, LV.I, LV.B, LV.U, LV.S, LV.nil, Nat.reduceEqDiff, Nat.reduceAdd, Nat.reduceMul, Nat.reduceSub, Nat.reduceLeDiff, Nat.reduceBEq, Nat.reduceDiv, Nat.reduceMod, Int.reduceToNat, Int.reduceLT, Int.reduceLE, Int.reduceAdd, Int.reduceSub, Int.reduceMul, Int.reduceEq, Int.reduceNeg, reduceCtorEq, resV, resAll, ARes.ev, LV.flat, ite_true, ite_false, exists_eq_left', exists_eq_left, keyOf, implies_true, fillC, capOf]
        refine callH_of (h_l2With cv (pick_ok hS _) hci) ?_
        intro v2 N3 hv2 hp3 hvr
        have hst : pick x y z (fun d => decide (d ∈ pick x y z fun c => decide (c ∈ layL x y z (fun c => decide (c ∈ cs)) k)) || decide (d = cs.getD i default)) = pick x y z fun c => decide (c ∈ layL x y z (fun c => decide (c ∈ cs)) (k + 1)) := pick_congr hS fun d hd => by
          rw [hlay, Bool.eq_iff_iff]
          simp only [Bool.or_eq_true, decide_eq_true_eq, List.mem_append, List.mem_singleton, hlm]
        rw [hst] at hvr ⊢
        simp (disch := omega) only [f1, f4, f5, f6, ↓SXd, SXu, slBounds, ↓sop, ↓aop, ↓reduceIte, LV.cells, AOp.dst, LV.I, LV.B, LV.U, LV.S, LV.nil, Nat.reduceEqDiff, Nat.reduceAdd, Nat.reduceMul, Nat.reduceSub, Nat.reduceLeDiff, Nat.reduceBEq, Nat.reduceDiv, Nat.reduceMod, Int.reduceToNat, Int.reduceLT, Int.reduceLE, Int.reduceAdd, Int.reduceSub, Int.reduceMul, Int.reduceEq, Int.reduceNeg, reduceCtorEq, resV, resAll, ARes.ev, LV.flat, ite_true, ite_false, exists_eq_left', exists_eq_left, keyOf, implies_true, fillC, capOf]
        refine memK_box (c4.pre hp3) (by simp) fun N4 q1 q2 q3 => ?_
        have hlN2 := c4.lt
        have hN3 := hp3.1
        have hlN := hout.lt
        have hlb := b4.lt
        have hlv := hvr.lt
        simp (disch := omega) only [f1, f4, f5, f6, ↓SXd, SXu, slBounds, ↓sop, ↓aop, ↓reduceIte, LV.cells, AOp.dst, LV.I, LV.B, LV.U, LV.S, LV.nil, Nat.reduceEqDiff, Nat.reduceAdd, Nat.reduceMul, Nat.reduceSub, Nat.reduceLeDiff, Nat.reduceBEq, Nat.reduceDiv, Nat.reduceMod, Int.reduceToNat, Int.reduceLT, Int.reduceLE, Int.reduceAdd, Int.reduceSub, Int.reduceMul, Int.reduceEq, Int.reduceNeg, reduceCtorEq, resV, resAll, ARes.ev, LV.flat, ite_true, ite_false, exists_eq_left', exists_eq_left, keyOf, implies_true, fillC, capOf]
        exact ⟨m - 1, by omega, k + 1, N.length + 1, v2, by omega, pre_step (hpu.trans hp3) (by omega) (j := 0) q1 q3, live_step (c1.pre hp3) (by omega) q3, q2, live_step hvr (by omega) q3, by have := hpre.1; omega, by have := hpu.1; omega, by omega, live_step (j2.pre hp3) (by omega) q3, f1, f4, by rw [hlay]; rfl⟩
      refine ev_loop (fun m2 fr N => ∃ i : Nat, i + m2 = cs.length ∧ Pre M N ∧ Live N M.length (.row [.I x, .I y, .I z, .ref t 0 cs.length] true 0) ∧ Live N (M.length + 3) (.row [.I x, .I y, .I z, .ref v 0 (pick x y z fun c => decide (c ∈ layL x y z (fun c => decide (c ∈ cs)) k)).length] true 0) ∧
        Live N v (.row (triL (pick x y z fun c => decide (c ∈ layL x y z (fun c => decide (c ∈ cs)) k))) true 3) ∧ Live N u (.row (triL (layL x y z (fun c => decide (c ∈ cs)) k)) true 3) ∧ fr 1 = .ptr M.length 0 ∧ fr 4 = .ptr (M.length + 3) 0 ∧ fr 5 = .ref u 0 (layL x y z (fun c => decide (c ∈ cs)) k).length ∧ fr 6 = .I i ∧
        ∀ j, j < i → (!decide (cs.getD j default ∈ layL x y z (fun c => decide (c ∈ cs)) k) && (decide ((cs.getD j default).c = 0) || (layL x y z (fun c => decide (c ∈ cs)) k).any fun d => decide (apart d (cs.getD j default) = 1))) = false) cs.length
        ⟨0, by omega, hpre, b1, b4, bv, hout, f1, f4, f5, rfl, by omega⟩ ?_
      clear f1 f4 f5 hpre b1 b4 bv hout
      rintro m2 fr N ⟨i, hi, hpre, b1, b4, bv, hout, f1, f4, f5, f6, hno⟩
      have hlM := b4.lt
      have hil : i < cs.length := by
        apply Classical.byContradiction
        intro hge
        have h2 := s2
        simp only [layC, Bool.and_eq_true, decide_eq_true_eq] at h2
        obtain ⟨j, hj, hje⟩ := List.getElem_of_mem h2.1
        have := hno j (by omega)
        rw [show cs.getD j default = first x y z (layC (fun c => decide (c ∈ cs)) (layL x y z (fun c => decide (c ∈ cs)) k)) by simp [hj, hje]] at this
        rw [Bool.and_eq_false_iff] at this
        rcases this with h | h
        · rw [h] at h2; exact absurd h2.2.1 (by simp)
        · rw [h] at h2; exact absurd h2.2.2 (by simp)
      have hci := hin _ (getD_mem' (d := default) hil)
      have hT := (h.pre hpre)
      have hg := hT.tri0 hil
      have hgc : getCell N t (i * 3 + 2) = some (.I (cs.getD i default).c) := by have := Tri.get_c (cs := cs) hT.has hil; rwa [Nat.zero_add] at this
      -- whether cell i is the one
      have hyes : (!decide (cs.getD i default ∈ layL x y z (fun c => decide (c ∈ cs)) k) && (decide ((cs.getD i default).c = 0) || (layL x y z (fun c => decide (c ∈ cs)) k).any fun d => decide (apart d (cs.getD i default) = 1))) = true →
          first x y z (layC (fun c => decide (c ∈ cs)) (layL x y z (fun c => decide (c ∈ cs)) k)) = cs.getD i default := fun hy => hfa hil hno hy
      have hnext : (!decide (cs.getD i default ∈ layL x y z (fun c => decide (c ∈ cs)) k) && (decide ((cs.getD i default).c = 0) || (layL x y z (fun c => decide (c ∈ cs)) k).any fun d => decide (apart d (cs.getD i default) = 1))) = false →
          ∀ j, j < i + 1 → (!decide (cs.getD j default ∈ layL x y z (fun c => decide (c ∈ cs)) k) && (decide ((cs.getD j default).c = 0) || (layL x y z (fun c => decide (c ∈ cs)) k).any fun d => decide (apart d (cs.getD j default) = 1))) = false := fun hy j hj => by
        rcases Nat.lt_or_ge j i with h1 | h1
        · exact hno j h1
        · rw [show j = i by omega]; exact hy
      simp (disch := omega) only [f1, f4, f5, f6, b4.cells, b1.cell, hg, Cell.row, ↓SXd, SXu, slBounds, ↓sop, ↓aop, ↓reduceIte, LV.cells, AOp.dst, LV.I, LV.B, LV.U, LV.S, LV.nil, Nat.reduceEqDiff, Nat.reduceAdd, Nat.reduceMul, Nat.reduceSub, Nat.reduceLeDiff, Nat.reduceBEq, Nat.reduceDiv, Nat.reduceMod, Int.reduceToNat, Int.reduceLT, Int.reduceLE, Int.reduceAdd, Int.reduceSub, Int.reduceMul, Int.reduceEq, Int.reduceNeg, reduceCtorEq, resV, resAll, ARes.ev, LV.flat, ite_true, ite_false, exists_eq_left', exists_eq_left, keyOf, implies_true, fillC, capOf]
      refine callK_of (h_l2Has bv.has (by omega)) ?_
      simp (disch := omega) only [f1, f4, f5, f6, cell_eta, ↓SXd, SXu, slBounds, ↓sop, ↓aop, ↓reduceIte, LV.cells, AOp.dst, LV.I, LV.B, LV.U, LV.S, LV.nil, Nat.reduceEqDiff, Nat.reduceAdd, Nat.reduceMul, Nat.reduceSub, Nat.reduceLeDiff, Nat.reduceBEq, Nat.reduceDiv, Nat.reduceMod, Int.reduceToNat, Int.reduceLT, Int.reduceLE, Int.reduceAdd, Int.reduceSub, Int.reduceMul, Int.reduceEq, Int.reduceNeg, reduceCtorEq, resV, resAll, ARes.ev, LV.flat, ite_true, ite_false, exists_eq_left', exists_eq_left, keyOf, implies_true, fillC, capOf]
      by_cases hcl : cs.getD i default ∈ layL x y z (fun c => decide (c ∈ cs)) k
      · have hcl' := (hlm _).2 hcl
        have hno2 := hnext (by rw [decide_eq_true hcl]; rfl)
        simp (disch := omega) only [f1, f4, f5, f6, hcl', ↓SXd, SXu, slBounds, ↓sop, ↓aop, ↓reduceIte, LV.cells, AOp.dst, LV.I, LV.B, LV.U, LV.S, LV.nil, Nat.reduceEqDiff, Nat.reduceAdd, Nat.reduceMul, Nat.reduceSub, Nat.reduceLeDiff, Nat.reduceBEq, Nat.reduceDiv, Nat.reduceMod, Int.reduceToNat, Int.reduceLT, Int.reduceLE, Int.reduceAdd, Int.reduceSub, Int.reduceMul, Int.reduceEq, Int.reduceNeg, reduceCtorEq, resV, resAll, ARes.ev, LV.flat, ite_true, ite_false, exists_eq_left', exists_eq_left, keyOf, implies_true, fillC, capOf]
        exact ⟨m2 - 1, by omega, i + 1, by omega, hpre, b1, b4, bv, hout, f1, f4, f5, eqI (natI _), hno2⟩
      · have hcl' : cs.getD i default ∉ (pick x y z fun c => decide (c ∈ layL x y z (fun c => decide (c ∈ cs)) k)) := fun e => hcl ((hlm _).1 e)
        by_cases h0 : (cs.getD i default).c = 0
        · have hy := hyes (by rw [decide_eq_false hcl, h0]; simp)
          have h0' : ¬ (0 < (cs.getD i default).c) := by omega
          simp (disch := omega) only [f1, f4, f5, f6, hcl', b1.cell, hgc, h0', ↓SXd, SXu, slBounds, ↓sop, ↓aop, ↓reduceIte, LV.cells, AOp.dst, LV.I, LV.B, LV.U, LV.S, LV.nil, Nat.reduceEqDiff, Nat.reduceAdd, Nat.reduceMul, Nat.reduceSub, Nat.reduceLeDiff, Nat.reduceBEq, Nat.reduceDiv, Nat.reduceMod, Int.reduceToNat, Int.reduceLT, Int.reduceLE, Int.reduceAdd, Int.reduceSub, Int.reduceMul, Int.reduceEq, Int.reduceNeg, reduceCtorEq, resV, resAll, ARes.ev, LV.flat, ite_true, ite_false, exists_eq_left', exists_eq_left, keyOf, implies_true, fillC, capOf]
          unfold joinK
          exact ⟨i, hil, hy, hpre, b1, b4, bv, hout, f1, f4, f5, f6⟩
        · have h0' : 0 < (cs.getD i default).c := by have := hci.2.2.1; omega
          simp (disch := omega) only [f1, f4, f5, f6, hcl', b1.cell, hgc, h0', b4.cells, hg, Cell.row, ↓SXd, SXu, slBounds, ↓sop, ↓aop, ↓reduceIte, LV.cells, AOp.dst, LV.I, LV.B, LV.U, LV.S, LV.nil, Nat.reduceEqDiff, Nat.reduceAdd, Nat.reduceMul, Nat.reduceSub, Nat.reduceLeDiff, Nat.reduceBEq, Nat.reduceDiv, Nat.reduceMod, Int.reduceToNat, Int.reduceLT, Int.reduceLE, Int.reduceAdd, Int.reduceSub, Int.reduceMul, Int.reduceEq, Int.reduceNeg, reduceCtorEq, resV, resAll, ARes.ev, LV.flat, ite_true, ite_false, exists_eq_left', exists_eq_left, keyOf, implies_true, fillC, capOf]
          refine callN_of (h_l2Near bv.has (by omega) (fun d hd => box444 hS ((mem_pick hS).1 hd).1) (box444 hS hci)) ?_
          intro tn N2 htn hp2 hnr
          simp (disch := omega) only [f1, f4, f5, f6, ↓SXd, SXu, slBounds, ↓sop, ↓aop, ↓reduceIte, LV.cells, AOp.dst, LV.I, LV.B, LV.U, LV.S, LV.nil, Nat.reduceEqDiff, Nat.reduceAdd, Nat.reduceMul, Nat.reduceSub, Nat.reduceLeDiff, Nat.reduceBEq, Nat.reduceDiv, Nat.reduceMod, Int.reduceToNat, Int.reduceLT, Int.reduceLE, Int.reduceAdd, Int.reduceSub, Int.reduceMul, Int.reduceEq, Int.reduceNeg, reduceCtorEq, resV, resAll, ARes.ev, LV.flat, ite_true, ite_false, exists_eq_left', exists_eq_left, keyOf, implies_true, fillC, capOf]
          have hany : ((((pick x y z fun c => decide (c ∈ layL x y z (fun c => decide (c ∈ cs)) k)).filter fun d => decide (apart d (cs.getD i default) = 1)).length : Nat) : Int) = 0 ↔ ((layL x y z (fun c => decide (c ∈ cs)) k).any fun d => decide (apart d (cs.getD i default) = 1)) = false := by
            rw [show (((((pick x y z fun c => decide (c ∈ layL x y z (fun c => decide (c ∈ cs)) k)).filter fun d => decide (apart d (cs.getD i default) = 1)).length : Nat) : Int) = 0) ↔ (pick x y z fun c => decide (c ∈ layL x y z (fun c => decide (c ∈ cs)) k)).filter (fun d => decide (apart d (cs.getD i default) = 1)) = [] from ⟨fun e => List.eq_nil_of_length_eq_zero (by omega), fun e => by rw [e]; rfl⟩]
            rw [List.filter_eq_nil_iff, List.any_eq_false]
            exact ⟨fun hh d hd => hh d ((hlm d).2 hd), fun hh d hd => hh d ((hlm d).1 hd)⟩
          cases han : (layL x y z (fun c => decide (c ∈ cs)) k).any fun d => decide (apart d (cs.getD i default) = 1) with
          | false =>
            have hz := hany.2 han
            have hno2 := hnext (by rw [han, decide_eq_false h0]; simp)
            simp (disch := omega) only [f1, f4, f5, f6, hz, ↓SXd, SXu, slBounds, ↓sop, ↓aop, ↓reduceIte, LV.cells, AOp.dst, LV.I, LV.B, LV.U, LV.S, LV.nil, Nat.reduceEqDiff, Nat.reduceAdd, Nat.reduceMul, Nat.reduceSub, Nat.reduceLeDiff, Nat.reduceBEq, Nat.reduceDiv, Nat.reduceMod, Int.reduceToNat, Int.reduceLT, Int.reduceLE, Int.reduceAdd, Int.reduceSub, Int.reduceMul, Int.reduceEq, Int.reduceNeg, reduceCtorEq, resV, resAll, ARes.ev, LV.flat, ite_true, ite_false, exists_eq_left', exists_eq_left, keyOf, implies_true, fillC, capOf]
            exact ⟨m2 - 1, by omega, i + 1, by omega, hpre.trans hp2, b1.pre hp2, b4.pre hp2, bv.pre hp2, hout.pre hp2, f1, f4, f5, eqI (natI _), hno2⟩
          | true =>
            have hz : ¬ (((((pick x y z fun c => decide (c ∈ layL x y z (fun c => decide (c ∈ cs)) k)).filter fun d => decide (apart d (cs.getD i default) = 1)).length : Nat) : Int) = 0) := fun e => by rw [hany.1 e] at han; cases han
            have hy := hyes (by rw [han, decide_eq_false hcl]; simp)
            simp (disch := omega) only [f1, f4, f5, f6, hz, ↓SXd, SXu, slBounds, ↓sop, ↓aop, ↓reduceIte, LV.cells, AOp.dst, LV.I, LV.B, LV.U, LV.S, LV.nil, Nat.reduceEqDiff, Nat.reduceAdd, Nat.reduceMul, Nat.reduceSub, Nat.reduceLeDiff, Nat.reduceBEq, Nat.reduceDiv, Nat.reduceMod, Int.reduceToNat, Int.reduceLT, Int.reduceLE, Int.reduceAdd, Int.reduceSub, Int.reduceMul, Int.reduceEq, Int.reduceNeg, reduceCtorEq, resV, resAll, ARes.ev, LV.flat, ite_true, ite_false, exists_eq_left', exists_eq_left, keyOf, implies_true, fillC, capOf]
            unfold joinK
            exact ⟨i, hil, hy, hpre.trans hp2, b1.pre hp2, b4.pre hp2, bv.pre hp2, hout.pre hp2, f1, f4, f5, f6⟩
  · rw [if_neg hV]
    simp (disch := omega) only [hV, ↓SXd, SXu, slBounds, ↓sop, ↓aop, ↓reduceIte, LV.cells, AOp.dst, LV.I, LV.B, LV.U, LV.S, LV.nil, Nat.reduceEqDiff, Nat.reduceAdd, Nat.reduceMul, Nat.reduceSub, Nat.reduceLeDiff, Nat.reduceBEq, Nat.reduceDiv, Nat.reduceMod, Int.reduceToNat, Int.reduceLT, Int.reduceLE, Int.reduceAdd, Int.reduceSub, Int.reduceMul, Int.reduceEq, Int.reduceNeg, reduceCtorEq, resV, resAll, ARes.ev, LV.flat, ite_true, ite_false, exists_eq_left', exists_eq_left, keyOf, implies_true, fillC, capOf]
    exact ⟨_, rfl, SlC.of (l := []) (Live.newj (j := 1) rfl), Newer.of (by omega), Pre.app _ _⟩
end Go.Ab

/- The law of taking. -/
namespace Go.Ab
open Go
set_option linter.unusedSimpArgs false
set_option linter.unusedVariables false
set_option maxRecDepth 20000

theorem esz_prek {M N : Mem} {t : Nat} (h : getEsz M t = some 1) (ht : t < M.length) (hp : Pre M N) : getEsz N t = some 1 := by
  unfold getEsz at *
  rw [hp.2 t ht]; exact h
def CellsK (M : Mem) (l : List Cell) (b : Bool) (v : LV) (N : Mem) : Prop := ∃ w, v = .tup [w, .B b] ∧ CellsV N w l ∧ Pre M N
theorem CellsV.box {M L : Mem} {v : LV} {l : List Cell} (h : CellsV M v l) : CellsV (M ++ L) v l := h.pre (Pre.app _ _)
theorem cellsK_y {f : FuncId} {args : List LV} {M : Mem} {r : Option (List Cell)} {l : List Cell} {b : Bool} (h : CallsR PG f args M (CellsY M r)) (h1 : r.getD [] = l) (h2 : r.isSome = b) : CallsR PG f args M (CellsK M l b) := by
  subst h1 h2
  exact h
theorem cellsK_res {f : FuncId} {args : List LV} {M : Mem} {r : Option (List Cell)} {l : List Cell} {b : Bool} (h : CallsR PG f args M (CellsRes M r)) (h1 : r.getD [] = l) (h2 : r.isSome = b) : CallsR PG f args M (CellsK M l b) := by
  subst h1 h2
  exact h.mono fun v N h => h.y
theorem key_small {x y z : Int} {cs : List Cell} (hH : HeapOK x y z cs) (hf : Firm x y z fun c => decide (c ∈ cs)) (h0 : 0 < cs.length) : (takeL x y z (fun c => decide (c ∈ cs)) cs.length).getD 0 default ∉ keyL x y z cs ∧ (keyL x y z cs).length < cs.length := by
  have hS := hH.1
  have hok := (take_ok hS hf 0 (Nat.zero_le _)).2.2.2.2 (by rw [← hH.pick]; exact h0)
  have hg := takeL_get hS (q := fun c => decide (c ∈ cs)) h0
  obtain ⟨f1, f2, _⟩ := first_spec hS hok
  rw [← hg] at f1 f2
  have hc : canTake x y z (fun c => decide (c ∈ cs)) ((takeL x y z (fun c => decide (c ∈ cs)) cs.length).getD 0 default) = true := by
    rw [← f2]
    exact canTake_congr hS (fun d _ => by simp [takeL]) f1
  generalize (takeL x y z (fun c => decide (c ∈ cs)) cs.length).getD 0 default = c at hc f1
  have hno : c ∉ keyL x y z cs := fun h => by
    have := ((mem_pick hS).1 h).2
    simp [hc] at this
  refine ⟨hno, ?_⟩
  have := nodup_sub (l := c :: keyL x y z cs) (m := cs) (List.nodup_cons.2 ⟨hno, (pick_ok hS _).nodup⟩) fun d hd => by
    rcases List.mem_cons.1 hd with rfl | hd
    · exact of_decide_eq_true (canTake_sub hc)
    · have := ((mem_pick hS).1 hd).2
      rw [Bool.and_eq_true, decide_eq_true_iff] at this
      exact this.1
  simp at this
  omega
theorem key_len {x y z : Int} {cs : List Cell} (hS : Sides x y z) : (keyL x y z cs).length ≤ 64 := pick_len hS _
theorem take_facts (x y z : Int) (cs : List Cell) : ∃ (K T Y : List Cell) (b : Bool), (keyOf' x y z cs).getD [] = K ∧ (keyOf' x y z cs).isSome = b ∧ (takeOf x y z cs).getD [] = T ∧ (takeOf x y z cs).isSome = b ∧ (layOf x y z cs).getD [] = Y ∧ (layOf x y z cs).isSome = b ∧ stdB x y z cs = b ∧ K.length ≤ 1000 ∧ T.length ≤ 1000 ∧ Y.length ≤ 1000 ∧
    (b = true → (HeapOK x y z cs ∧ Firm x y z fun c => decide (c ∈ cs)) ∧ K = keyL x y z cs ∧ T = takeL x y z (fun c => decide (c ∈ cs)) cs.length ∧ Y = layL x y z (fun c => decide (c ∈ cs)) cs.length) := by
  by_cases hV : HeapOK x y z cs ∧ Firm x y z (fun c => decide (c ∈ cs))
  · rw [show keyOf' x y z cs = some (keyL x y z cs) from if_pos (std_yes hV), show takeOf x y z cs = some (takeL x y z (fun c => decide (c ∈ cs)) cs.length) from if_pos hV, show layOf x y z cs = some (layL x y z (fun c => decide (c ∈ cs)) cs.length) from if_pos hV, std_yes hV]
    have h1 := key_len (cs := cs) hV.1.1
    have h2 := hV.1.len
    have h3 := takeL_len hV.1.1 (q := fun c => decide (c ∈ cs)) cs.length
    have h4 := layL_len hV.1.1 (q := fun c => decide (c ∈ cs)) cs.length
    exact ⟨_, _, _, true, rfl, rfl, rfl, rfl, rfl, rfl, rfl, by simp only [Option.getD_some]; omega, by simp only [Option.getD_some]; omega, by simp only [Option.getD_some]; omega, fun _ => ⟨hV, rfl, rfl, rfl⟩⟩
  · rw [show keyOf' x y z cs = none from if_neg (by rw [std_no hV]; simp), show takeOf x y z cs = none from if_neg hV, show layOf x y z cs = none from if_neg hV, std_no hV]
    exact ⟨_, _, _, false, rfl, rfl, rfl, rfl, rfl, rfl, rfl, by simp, by simp, by simp, fun e => Bool.noConfusion e⟩
theorem can_facts (x y z : Int) (cs : List Cell) (c : Cell) : ∃ (r b : Bool), canR x y z cs c = r ∧ canB x y z cs c = b ∧ (b = true → (HeapOK x y z cs ∧ stdB x y z cs = true) ∧ r = (decide (c ∈ cs) && !decide (c ∈ keyL x y z cs))) := by
  refine ⟨_, _, rfl, rfl, fun hb => ?_⟩
  unfold canR
  have h0 := hb
  unfold canB at hb
  rw [Bool.and_eq_true, decide_eq_true_iff, stdB_iff] at hb
  refine ⟨⟨hb.1.1, stdB_iff.2 hb.1⟩, ?_⟩
  rw [h0, Bool.true_and, Bool.eq_iff_iff]
  unfold keyL
  simp only [Bool.and_eq_true, decide_eq_true_eq, Bool.not_eq_true', decide_eq_false_iff_not, mem_pick hb.1.1.1]
  constructor
  · intro h
    exact ⟨of_decide_eq_true (canTake_sub h), fun h2 => by rw [h] at h2; simp at h2⟩
  · rintro ⟨h1, h2⟩
    cases hc : canTake x y z (fun d => decide (d ∈ cs)) c with
    | true => rfl
    | false => exact absurd ⟨hb.2, h1, hc⟩ h2
theorem tks_facts (x y z : Int) (cs : List Cell) : ∃ (n : Nat) (b : Bool), tksN x y z cs = n ∧ tksB x y z cs = b ∧ (b = true → 1 ≤ n) := by
  refine ⟨_, _, rfl, rfl, fun hb => ?_⟩
  unfold tksN
  rw [if_pos hb]
  unfold tksB at hb
  rw [Bool.and_eq_true, stdB_iff] at hb
  exact tkN_pos hb.1.1.1 hb.1.2 (by rw [← hb.1.1.pick])
theorem k_vCellsS {l : List Cell} {v v' : LV} {M : Mem} (h : CellsV M v l) (h' : CellsV M v' l) (hn : l.length ≤ 1000000000) : CallsTo PG F.laws_vCells [v, v'] M (.B true) M := by
  have := k_vCells h h' hn hn
  rw [decide_eq_true rfl] at this
  exact this
theorem eqs_ne {a b : Cell} (h : a ≠ b) : eqV false 3 (.agg [.val (.int .i64 a.a), .val (.int .i64 a.b), .val (.int .i64 a.c)]) (.agg [.val (.int .i64 b.a), .val (.int .i64 b.b), .val (.int .i64 b.c)]) = some (.val (.bool false)) := by
  obtain ⟨a1, a2, a3⟩ := a
  obtain ⟨b1, b2, b3⟩ := b
  have hn : ¬ (a1 = b1 ∧ a2 = b2 ∧ a3 = b3) := fun e => h (by rw [cell_eq]; exact e)
  simp only [eqV, eqC, List.length_cons, List.length_nil, if_true, Option.map_some, Bool.and_true, Bool.false_eq_true, if_false]
  congr 2
  congr 1
  rw [Bool.eq_false_iff]
  intro e
  simp only [Bool.and_eq_true, beq_iff_eq] at e
  exact hn e
set_option maxHeartbeats 1000000 in
theorem l_FnTaking {t : Nat} {bs : List Nat} {M : Mem} (hh : Bytes M t 0 bs ∧ getEsz M t = some 1) (hn : bs.length ≤ 9223372036854775807 ∧ ∀ b ∈ bs, b ≤ 255) :
    CallsR PG F.laws_FnTaking [.ref t 0 bs.length] M fun v _ => v = .B true := by
  obtain ⟨h, hesz⟩ := hh
  have htM := h.lt
  refine callsR_run K.laws_FnTaking rfl ?_
  simp (disch := omega) only [C.laws_FnTaking, ↓SXd, SXu, slBounds, ↓sop, ↓aop, ↓reduceIte, LV.cells, AOp.dst, LV.I, LV.B, LV.U, LV.S, LV.nil, Nat.reduceEqDiff, Nat.reduceAdd, Nat.reduceMul, Nat.reduceSub, Nat.reduceLeDiff, Nat.reduceBEq, Nat.reduceDiv, Nat.reduceMod, Int.reduceToNat, Int.reduceLT, Int.reduceLE, Int.reduceAdd, Int.reduceSub, Int.reduceMul, Int.reduceEq, Int.reduceNeg, reduceCtorEq, resV, resAll, ARes.ev, LV.flat, ite_true, ite_false, exists_eq_left', exists_eq_left, keyOf, implies_true, fillC, capOf]
  refine callK_of (k_vBig hn.1) ?_
  simp (disch := omega) only [↓SXd, SXu, slBounds, ↓sop, ↓aop, ↓reduceIte, LV.cells, AOp.dst, LV.I, LV.B, LV.U, LV.S, LV.nil, Nat.reduceEqDiff, Nat.reduceAdd, Nat.reduceMul, Nat.reduceSub, Nat.reduceLeDiff, Nat.reduceBEq, Nat.reduceDiv, Nat.reduceMod, Int.reduceToNat, Int.reduceLT, Int.reduceLE, Int.reduceAdd, Int.reduceSub, Int.reduceMul, Int.reduceEq, Int.reduceNeg, reduceCtorEq, resV, resAll, ARes.ev, LV.flat, ite_true, ite_false, exists_eq_left', exists_eq_left, keyOf, implies_true, fillC, capOf]
  by_cases hbig : (65536 : Int) < (bs.length : Nat)
  · simp (disch := omega) only [hbig, ↓SXd, SXu, slBounds, ↓sop, ↓aop, ↓reduceIte, LV.cells, AOp.dst, LV.I, LV.B, LV.U, LV.S, LV.nil, Nat.reduceEqDiff, Nat.reduceAdd, Nat.reduceMul, Nat.reduceSub, Nat.reduceLeDiff, Nat.reduceBEq, Nat.reduceDiv, Nat.reduceMod, Int.reduceToNat, Int.reduceLT, Int.reduceLE, Int.reduceAdd, Int.reduceSub, Int.reduceMul, Int.reduceEq, Int.reduceNeg, reduceCtorEq, resV, resAll, ARes.ev, LV.flat, ite_true, ite_false, exists_eq_left', exists_eq_left, keyOf, implies_true, fillC, capOf]
    rfl
  have hl : bs.length ≤ 1000000000 := by omega
  have hl6 : bs.length ≤ 1000000 := by omega
  simp (disch := omega) only [hbig, ↓SXd, SXu, slBounds, ↓sop, ↓aop, ↓reduceIte, LV.cells, AOp.dst, LV.I, LV.B, LV.U, LV.S, LV.nil, Nat.reduceEqDiff, Nat.reduceAdd, Nat.reduceMul, Nat.reduceSub, Nat.reduceLeDiff, Nat.reduceBEq, Nat.reduceDiv, Nat.reduceMod, Int.reduceToNat, Int.reduceLT, Int.reduceLE, Int.reduceAdd, Int.reduceSub, Int.reduceMul, Int.reduceEq, Int.reduceNeg, reduceCtorEq, resV, resAll, ARes.ev, LV.flat, ite_true, ite_false, exists_eq_left', exists_eq_left, keyOf, implies_true, fillC, capOf]
  refine callR_of (d_DrawKeyCubes h hn.2 hl) ?_
  rintro _ N1 ⟨⟨x, y, z, cs, u, rfl, hu, hul, hcl⟩, hp1⟩
  have hcn : cs.length ≤ 1000000000 := by omega
  obtain ⟨K, T, Y, b, eK, bK, eT, bT, eY, bY, eb, lK, lT, lY, hV⟩ := take_facts x y z cs
  have B3 : Live (N1 ++ [some (.row [.I x, .I y, .I z, .ref u 0 cs.length] true 0)]) N1.length (.row [.I x, .I y, .I z, .ref u 0 cs.length] true 0) := Live.new
  have U := hu.app (L := [some (.row [.I x, .I y, .I z, .ref u 0 cs.length] true 0)])
  have q1 : Pre M (N1 ++ [some (.row [.I x, .I y, .I z, .ref u 0 cs.length] true 0)]) := hp1.trans (Pre.app _ _)
  simp (disch := omega) only [splice, ↓SXd, SXu, slBounds, ↓sop, ↓aop, ↓reduceIte, LV.cells, AOp.dst, LV.I, LV.B, LV.U, LV.S, LV.nil, Nat.reduceEqDiff, Nat.reduceAdd, Nat.reduceMul, Nat.reduceSub, Nat.reduceLeDiff, Nat.reduceBEq, Nat.reduceDiv, Nat.reduceMod, Int.reduceToNat, Int.reduceLT, Int.reduceLE, Int.reduceAdd, Int.reduceSub, Int.reduceMul, Int.reduceEq, Int.reduceNeg, reduceCtorEq, resV, resAll, ARes.ev, LV.flat, ite_true, ite_false, exists_eq_left', exists_eq_left, keyOf, implies_true, fillC, capOf]
  generalize hm3 : N1.length = m3 at B3 ⊢
  generalize N1 ++ [some (Blk.row [.I x, .I y, .I z, .ref u 0 cs.length] true 0)] = W1 at B3 U q1 ⊢
  refine callR_of (cellsK_y (g_KeyCubes U hcn) eK bK) ?_
  rintro _ W2 ⟨w4, rfl, Iw4, hp2⟩
  simp (disch := omega) only [(B3.pre (hp2)).cells, ↓SXd, SXu, slBounds, ↓sop, ↓aop, ↓reduceIte, LV.cells, AOp.dst, LV.I, LV.B, LV.U, LV.S, LV.nil, Nat.reduceEqDiff, Nat.reduceAdd, Nat.reduceMul, Nat.reduceSub, Nat.reduceLeDiff, Nat.reduceBEq, Nat.reduceDiv, Nat.reduceMod, Int.reduceToNat, Int.reduceLT, Int.reduceLE, Int.reduceAdd, Int.reduceSub, Int.reduceMul, Int.reduceEq, Int.reduceNeg, reduceCtorEq, resV, resAll, ARes.ev, LV.flat, ite_true, ite_false, exists_eq_left', exists_eq_left, keyOf, implies_true, fillC, capOf]
  refine callR_of (cellsK_y (h_sKeyCubes (U.pre (hp2)) hcn) eK bK) ?_
  rintro _ W3 ⟨w6, rfl, Iw6, hp3⟩
  simp (disch := omega) only [(B3.pre (hp2.trans (hp3))).cells, ↓SXd, SXu, slBounds, ↓sop, ↓aop, ↓reduceIte, LV.cells, AOp.dst, LV.I, LV.B, LV.U, LV.S, LV.nil, Nat.reduceEqDiff, Nat.reduceAdd, Nat.reduceMul, Nat.reduceSub, Nat.reduceLeDiff, Nat.reduceBEq, Nat.reduceDiv, Nat.reduceMod, Int.reduceToNat, Int.reduceLT, Int.reduceLE, Int.reduceAdd, Int.reduceSub, Int.reduceMul, Int.reduceEq, Int.reduceNeg, reduceCtorEq, resV, resAll, ARes.ev, LV.flat, ite_true, ite_false, exists_eq_left', exists_eq_left, keyOf, implies_true, fillC, capOf]
  refine callR_of (cellsK_res (g_TakingOrder (U.pre (hp2.trans (hp3))) hcn) eT bT) ?_
  rintro _ W4 ⟨w8, rfl, Iw8, hp4⟩
  simp (disch := omega) only [(B3.pre (hp2.trans (hp3.trans (hp4)))).cells, ↓SXd, SXu, slBounds, ↓sop, ↓aop, ↓reduceIte, LV.cells, AOp.dst, LV.I, LV.B, LV.U, LV.S, LV.nil, Nat.reduceEqDiff, Nat.reduceAdd, Nat.reduceMul, Nat.reduceSub, Nat.reduceLeDiff, Nat.reduceBEq, Nat.reduceDiv, Nat.reduceMod, Int.reduceToNat, Int.reduceLT, Int.reduceLE, Int.reduceAdd, Int.reduceSub, Int.reduceMul, Int.reduceEq, Int.reduceNeg, reduceCtorEq, resV, resAll, ARes.ev, LV.flat, ite_true, ite_false, exists_eq_left', exists_eq_left, keyOf, implies_true, fillC, capOf]
  refine callR_of (cellsK_res (h_sTakingOrder (U.pre (hp2.trans (hp3.trans (hp4)))) hcn) eT bT) ?_
  rintro _ W5 ⟨w10, rfl, Iw10, hp5⟩
  simp (disch := omega) only [(B3.pre (hp2.trans (hp3.trans (hp4.trans (hp5))))).cells, ↓SXd, SXu, slBounds, ↓sop, ↓aop, ↓reduceIte, LV.cells, AOp.dst, LV.I, LV.B, LV.U, LV.S, LV.nil, Nat.reduceEqDiff, Nat.reduceAdd, Nat.reduceMul, Nat.reduceSub, Nat.reduceLeDiff, Nat.reduceBEq, Nat.reduceDiv, Nat.reduceMod, Int.reduceToNat, Int.reduceLT, Int.reduceLE, Int.reduceAdd, Int.reduceSub, Int.reduceMul, Int.reduceEq, Int.reduceNeg, reduceCtorEq, resV, resAll, ARes.ev, LV.flat, ite_true, ite_false, exists_eq_left', exists_eq_left, keyOf, implies_true, fillC, capOf]
  refine callR_of (cellsK_res (g_LayingOrder (U.pre (hp2.trans (hp3.trans (hp4.trans (hp5))))) hcn) eY bY) ?_
  rintro _ W6 ⟨w12, rfl, Iw12, hp6⟩
  simp (disch := omega) only [(B3.pre (hp2.trans (hp3.trans (hp4.trans (hp5.trans (hp6)))))).cells, ↓SXd, SXu, slBounds, ↓sop, ↓aop, ↓reduceIte, LV.cells, AOp.dst, LV.I, LV.B, LV.U, LV.S, LV.nil, Nat.reduceEqDiff, Nat.reduceAdd, Nat.reduceMul, Nat.reduceSub, Nat.reduceLeDiff, Nat.reduceBEq, Nat.reduceDiv, Nat.reduceMod, Int.reduceToNat, Int.reduceLT, Int.reduceLE, Int.reduceAdd, Int.reduceSub, Int.reduceMul, Int.reduceEq, Int.reduceNeg, reduceCtorEq, resV, resAll, ARes.ev, LV.flat, ite_true, ite_false, exists_eq_left', exists_eq_left, keyOf, implies_true, fillC, capOf]
  refine callR_of (cellsK_res (h_sLayingOrder (U.pre (hp2.trans (hp3.trans (hp4.trans (hp5.trans (hp6)))))) hcn) eY bY) ?_
  rintro _ W7 ⟨w14, rfl, Iw14, hp7⟩
  simp (disch := omega) only [↓SXd, SXu, slBounds, ↓sop, ↓aop, ↓reduceIte, LV.cells, AOp.dst, LV.I, LV.B, LV.U, LV.S, LV.nil, Nat.reduceEqDiff, Nat.reduceAdd, Nat.reduceMul, Nat.reduceSub, Nat.reduceLeDiff, Nat.reduceBEq, Nat.reduceDiv, Nat.reduceMod, Int.reduceToNat, Int.reduceLT, Int.reduceLE, Int.reduceAdd, Int.reduceSub, Int.reduceMul, Int.reduceEq, Int.reduceNeg, reduceCtorEq, resV, resAll, ARes.ev, LV.flat, ite_true, ite_false, exists_eq_left', exists_eq_left, keyOf, implies_true, fillC, capOf]
  refine callR_of (k_vCut (n := 1) (h.pre (q1.trans (hp2.trans (hp3.trans (hp4.trans (hp5.trans (hp6.trans (hp7)))))))) (esz_prek hesz htM (q1.trans (hp2.trans (hp3.trans (hp4.trans (hp5.trans (hp6.trans (hp7)))))))) hn.2 hl6 (by omega)) ?_
  rintro _ W8 ⟨uc8, ec8, rfl, hec8, hec2558, hecl8, hp8⟩
  simp (disch := omega) only [↓SXd, SXu, slBounds, ↓sop, ↓aop, ↓reduceIte, LV.cells, AOp.dst, LV.I, LV.B, LV.U, LV.S, LV.nil, Nat.reduceEqDiff, Nat.reduceAdd, Nat.reduceMul, Nat.reduceSub, Nat.reduceLeDiff, Nat.reduceBEq, Nat.reduceDiv, Nat.reduceMod, Int.reduceToNat, Int.reduceLT, Int.reduceLE, Int.reduceAdd, Int.reduceSub, Int.reduceMul, Int.reduceEq, Int.reduceNeg, reduceCtorEq, resV, resAll, ARes.ev, LV.flat, ite_true, ite_false, exists_eq_left', exists_eq_left, keyOf, implies_true, fillC, capOf]
  refine callR_of (d_DrawCanTake hec8 hec2558 (by omega)) ?_
  rintro _ N9 ⟨⟨_, c, rfl, x2, y2, z2, cs2, u2, rfl, hu2, hul2, hcl2⟩, hp9⟩
  have hcn2 : cs2.length ≤ 1000000000 := by omega
  obtain ⟨cr, cb, eR, eB, hC⟩ := can_facts x2 y2 z2 cs2 c
  have B16 : Live (N9 ++ [some (.row [.I x2, .I y2, .I z2, .ref u2 0 cs2.length] true 0), some (.row [.I c.a, .I c.b, .I c.c] true 0)]) N9.length (.row [.I x2, .I y2, .I z2, .ref u2 0 cs2.length] true 0) := Live.new
  have B17 : Live (N9 ++ [some (.row [.I x2, .I y2, .I z2, .ref u2 0 cs2.length] true 0), some (.row [.I c.a, .I c.b, .I c.c] true 0)]) (N9.length + 1) (.row [.I c.a, .I c.b, .I c.c] true 0) := Live.newj (j := 1) rfl
  have U2 := hu2.app (L := [some (.row [.I x2, .I y2, .I z2, .ref u2 0 cs2.length] true 0), some (.row [.I c.a, .I c.b, .I c.c] true 0)])
  have q9 : Pre W8 (N9 ++ [some (.row [.I x2, .I y2, .I z2, .ref u2 0 cs2.length] true 0), some (.row [.I c.a, .I c.b, .I c.c] true 0)]) := hp9.trans (Pre.app _ _)
  simp (disch := omega) only [splice, ↓SXd, SXu, slBounds, ↓sop, ↓aop, ↓reduceIte, LV.cells, AOp.dst, LV.I, LV.B, LV.U, LV.S, LV.nil, Nat.reduceEqDiff, Nat.reduceAdd, Nat.reduceMul, Nat.reduceSub, Nat.reduceLeDiff, Nat.reduceBEq, Nat.reduceDiv, Nat.reduceMod, Int.reduceToNat, Int.reduceLT, Int.reduceLE, Int.reduceAdd, Int.reduceSub, Int.reduceMul, Int.reduceEq, Int.reduceNeg, reduceCtorEq, resV, resAll, ARes.ev, LV.flat, ite_true, ite_false, exists_eq_left', exists_eq_left, keyOf, implies_true, fillC, capOf]
  generalize hm16 : N9.length = m16 at B16 B17 ⊢
  generalize N9 ++ [some (Blk.row [.I x2, .I y2, .I z2, .ref u2 0 cs2.length] true 0), some (Blk.row [.I c.a, .I c.b, .I c.c] true 0)] = W9 at B16 B17 U2 q9 ⊢
  have hq := g_CanTake (x := x2) (y := y2) (z := z2) (c := c) U2 hcn2
  rw [eR, eB] at hq
  refine callK_of hq ?_
  clear hq
  simp (disch := omega) only [B16.cells, B17.cells, ↓SXd, SXu, slBounds, ↓sop, ↓aop, ↓reduceIte, LV.cells, AOp.dst, LV.I, LV.B, LV.U, LV.S, LV.nil, Nat.reduceEqDiff, Nat.reduceAdd, Nat.reduceMul, Nat.reduceSub, Nat.reduceLeDiff, Nat.reduceBEq, Nat.reduceDiv, Nat.reduceMod, Int.reduceToNat, Int.reduceLT, Int.reduceLE, Int.reduceAdd, Int.reduceSub, Int.reduceMul, Int.reduceEq, Int.reduceNeg, reduceCtorEq, resV, resAll, ARes.ev, LV.flat, ite_true, ite_false, exists_eq_left', exists_eq_left, keyOf, implies_true, fillC, capOf]
  have hq := h_sCanTake (x := x2) (y := y2) (z := z2) (c := c) U2 hcn2
  rw [eR, eB] at hq
  refine callK_of hq ?_
  clear hq
  simp (disch := omega) only [↓SXd, SXu, slBounds, ↓sop, ↓aop, ↓reduceIte, LV.cells, AOp.dst, LV.I, LV.B, LV.U, LV.S, LV.nil, Nat.reduceEqDiff, Nat.reduceAdd, Nat.reduceMul, Nat.reduceSub, Nat.reduceLeDiff, Nat.reduceBEq, Nat.reduceDiv, Nat.reduceMod, Int.reduceToNat, Int.reduceLT, Int.reduceLE, Int.reduceAdd, Int.reduceSub, Int.reduceMul, Int.reduceEq, Int.reduceNeg, reduceCtorEq, resV, resAll, ARes.ev, LV.flat, ite_true, ite_false, exists_eq_left', exists_eq_left, keyOf, implies_true, fillC, capOf]
  refine callR_of (k_vCut (n := 2) (h.pre (q1.trans (hp2.trans (hp3.trans (hp4.trans (hp5.trans (hp6.trans (hp7.trans (hp8.trans (q9)))))))))) (esz_prek hesz htM (q1.trans (hp2.trans (hp3.trans (hp4.trans (hp5.trans (hp6.trans (hp7.trans (hp8.trans (q9)))))))))) hn.2 hl6 (by omega)) ?_
  rintro _ W10 ⟨uc10, ec10, rfl, hec10, hec25510, hecl10, hp10⟩
  simp (disch := omega) only [↓SXd, SXu, slBounds, ↓sop, ↓aop, ↓reduceIte, LV.cells, AOp.dst, LV.I, LV.B, LV.U, LV.S, LV.nil, Nat.reduceEqDiff, Nat.reduceAdd, Nat.reduceMul, Nat.reduceSub, Nat.reduceLeDiff, Nat.reduceBEq, Nat.reduceDiv, Nat.reduceMod, Int.reduceToNat, Int.reduceLT, Int.reduceLE, Int.reduceAdd, Int.reduceSub, Int.reduceMul, Int.reduceEq, Int.reduceNeg, reduceCtorEq, resV, resAll, ARes.ev, LV.flat, ite_true, ite_false, exists_eq_left', exists_eq_left, keyOf, implies_true, fillC, capOf]
  refine callR_of (d_DrawIsTakingOrder hec10 hec25510 (by omega)) ?_
  rintro _ N11 ⟨⟨_, w23, l23, rfl, ⟨x3, y3, z3, cs3, u3, rfl, hu3, hul3, hcl3⟩, I23, hl23⟩, hp11⟩
  have hcn3 : cs3.length ≤ 1000000000 := by omega
  have B22 : Live (N11 ++ [some (.row [.I x3, .I y3, .I z3, .ref u3 0 cs3.length] true 0)]) N11.length (.row [.I x3, .I y3, .I z3, .ref u3 0 cs3.length] true 0) := Live.new
  have U3 := hu3.app (L := [some (.row [.I x3, .I y3, .I z3, .ref u3 0 cs3.length] true 0)])
  have Iw23 := CellsV.box (L := [some (.row [.I x3, .I y3, .I z3, .ref u3 0 cs3.length] true 0)]) I23
  have q11 : Pre W10 (N11 ++ [some (.row [.I x3, .I y3, .I z3, .ref u3 0 cs3.length] true 0)]) := hp11.trans (Pre.app _ _)
  simp (disch := omega) only [splice, ↓SXd, SXu, slBounds, ↓sop, ↓aop, ↓reduceIte, LV.cells, AOp.dst, LV.I, LV.B, LV.U, LV.S, LV.nil, Nat.reduceEqDiff, Nat.reduceAdd, Nat.reduceMul, Nat.reduceSub, Nat.reduceLeDiff, Nat.reduceBEq, Nat.reduceDiv, Nat.reduceMod, Int.reduceToNat, Int.reduceLT, Int.reduceLE, Int.reduceAdd, Int.reduceSub, Int.reduceMul, Int.reduceEq, Int.reduceNeg, reduceCtorEq, resV, resAll, ARes.ev, LV.flat, ite_true, ite_false, exists_eq_left', exists_eq_left, keyOf, implies_true, fillC, capOf]
  generalize hm22 : N11.length = m22 at B22 ⊢
  generalize N11 ++ [some (Blk.row [.I x3, .I y3, .I z3, .ref u3 0 cs3.length] true 0)] = W11 at B22 U3 Iw23 q11 ⊢
  generalize hor : ordR x3 y3 z3 cs3 l23 = rr
  have hq := g_IsTakingOrder (x := x3) (y := y3) (z := z3) U3 hcn3 Iw23 (by omega)
  rw [hor] at hq
  refine callK_of hq ?_
  clear hq
  simp (disch := omega) only [B22.cells, ↓SXd, SXu, slBounds, ↓sop, ↓aop, ↓reduceIte, LV.cells, AOp.dst, LV.I, LV.B, LV.U, LV.S, LV.nil, Nat.reduceEqDiff, Nat.reduceAdd, Nat.reduceMul, Nat.reduceSub, Nat.reduceLeDiff, Nat.reduceBEq, Nat.reduceDiv, Nat.reduceMod, Int.reduceToNat, Int.reduceLT, Int.reduceLE, Int.reduceAdd, Int.reduceSub, Int.reduceMul, Int.reduceEq, Int.reduceNeg, reduceCtorEq, resV, resAll, ARes.ev, LV.flat, ite_true, ite_false, exists_eq_left', exists_eq_left, keyOf, implies_true, fillC, capOf]
  have hq := h_sIsTakingOrder (x := x3) (y := y3) (z := z3) U3 hcn3 Iw23 (by omega)
  rw [hor] at hq
  refine callK_of hq ?_
  clear hq
  simp (disch := omega) only [↓SXd, SXu, slBounds, ↓sop, ↓aop, ↓reduceIte, LV.cells, AOp.dst, LV.I, LV.B, LV.U, LV.S, LV.nil, Nat.reduceEqDiff, Nat.reduceAdd, Nat.reduceMul, Nat.reduceSub, Nat.reduceLeDiff, Nat.reduceBEq, Nat.reduceDiv, Nat.reduceMod, Int.reduceToNat, Int.reduceLT, Int.reduceLE, Int.reduceAdd, Int.reduceSub, Int.reduceMul, Int.reduceEq, Int.reduceNeg, reduceCtorEq, resV, resAll, ARes.ev, LV.flat, ite_true, ite_false, exists_eq_left', exists_eq_left, keyOf, implies_true, fillC, capOf]
  refine callR_of (d_DrawCountTakings (h.pre (q1.trans (hp2.trans (hp3.trans (hp4.trans (hp5.trans (hp6.trans (hp7.trans (hp8.trans (q9.trans (hp10.trans (q11)))))))))))) hn.2 hl) ?_
  rintro _ N12 ⟨⟨x4, y4, z4, cs4, u4, rfl, hu4, hul4, hcl4⟩, hp12⟩
  have hcn4 : cs4.length ≤ 1000000000 := by omega
  obtain ⟨tn, tb, eN, eTb, hT4⟩ := tks_facts x4 y4 z4 cs4
  have B28 : Live (N12 ++ [some (.row [.I x4, .I y4, .I z4, .ref u4 0 cs4.length] true 0)]) N12.length (.row [.I x4, .I y4, .I z4, .ref u4 0 cs4.length] true 0) := Live.new
  have U4 := hu4.app (L := [some (.row [.I x4, .I y4, .I z4, .ref u4 0 cs4.length] true 0)])
  have q12 : Pre W11 (N12 ++ [some (.row [.I x4, .I y4, .I z4, .ref u4 0 cs4.length] true 0)]) := hp12.trans (Pre.app _ _)
  simp (disch := omega) only [splice, ↓SXd, SXu, slBounds, ↓sop, ↓aop, ↓reduceIte, LV.cells, AOp.dst, LV.I, LV.B, LV.U, LV.S, LV.nil, Nat.reduceEqDiff, Nat.reduceAdd, Nat.reduceMul, Nat.reduceSub, Nat.reduceLeDiff, Nat.reduceBEq, Nat.reduceDiv, Nat.reduceMod, Int.reduceToNat, Int.reduceLT, Int.reduceLE, Int.reduceAdd, Int.reduceSub, Int.reduceMul, Int.reduceEq, Int.reduceNeg, reduceCtorEq, resV, resAll, ARes.ev, LV.flat, ite_true, ite_false, exists_eq_left', exists_eq_left, keyOf, implies_true, fillC, capOf]
  generalize hm28 : N12.length = m28 at B28 ⊢
  generalize N12 ++ [some (Blk.row [.I x4, .I y4, .I z4, .ref u4 0 cs4.length] true 0)] = W12 at B28 U4 q12 ⊢
  have hq := g_CountTakings (x := x4) (y := y4) (z := z4) U4 hcn4
  rw [eN, eTb] at hq
  refine callK_of hq ?_
  clear hq
  simp (disch := omega) only [B28.cells, ↓SXd, SXu, slBounds, ↓sop, ↓aop, ↓reduceIte, LV.cells, AOp.dst, LV.I, LV.B, LV.U, LV.S, LV.nil, Nat.reduceEqDiff, Nat.reduceAdd, Nat.reduceMul, Nat.reduceSub, Nat.reduceLeDiff, Nat.reduceBEq, Nat.reduceDiv, Nat.reduceMod, Int.reduceToNat, Int.reduceLT, Int.reduceLE, Int.reduceAdd, Int.reduceSub, Int.reduceMul, Int.reduceEq, Int.reduceNeg, reduceCtorEq, resV, resAll, ARes.ev, LV.flat, ite_true, ite_false, exists_eq_left', exists_eq_left, keyOf, implies_true, fillC, capOf]
  have hq := h_sCountTakings (x := x4) (y := y4) (z := z4) U4 hcn4
  rw [eN, eTb] at hq
  refine callK_of hq ?_
  clear hq
  simp (disch := omega) only [beq_self_eq_true, Bool.not_true, ↓SXd, SXu, slBounds, ↓sop, ↓aop, ↓reduceIte, LV.cells, AOp.dst, LV.I, LV.B, LV.U, LV.S, LV.nil, Nat.reduceEqDiff, Nat.reduceAdd, Nat.reduceMul, Nat.reduceSub, Nat.reduceLeDiff, Nat.reduceBEq, Nat.reduceDiv, Nat.reduceMod, Int.reduceToNat, Int.reduceLT, Int.reduceLE, Int.reduceAdd, Int.reduceSub, Int.reduceMul, Int.reduceEq, Int.reduceNeg, reduceCtorEq, resV, resAll, ARes.ev, LV.flat, ite_true, ite_false, exists_eq_left', exists_eq_left, keyOf, implies_true, fillC, capOf]
  refine callK_of (k_vCellsS (Iw4.pre (hp3.trans (hp4.trans (hp5.trans (hp6.trans (hp7.trans (hp8.trans (q9.trans (hp10.trans (q11.trans (q12))))))))))) (Iw6.pre (hp4.trans (hp5.trans (hp6.trans (hp7.trans (hp8.trans (q9.trans (hp10.trans (q11.trans (q12)))))))))) (by omega)) ?_
  simp (disch := omega) only [beq_self_eq_true, Bool.not_true, ↓SXd, SXu, slBounds, ↓sop, ↓aop, ↓reduceIte, LV.cells, AOp.dst, LV.I, LV.B, LV.U, LV.S, LV.nil, Nat.reduceEqDiff, Nat.reduceAdd, Nat.reduceMul, Nat.reduceSub, Nat.reduceLeDiff, Nat.reduceBEq, Nat.reduceDiv, Nat.reduceMod, Int.reduceToNat, Int.reduceLT, Int.reduceLE, Int.reduceAdd, Int.reduceSub, Int.reduceMul, Int.reduceEq, Int.reduceNeg, reduceCtorEq, resV, resAll, ARes.ev, LV.flat, ite_true, ite_false, exists_eq_left', exists_eq_left, keyOf, implies_true, fillC, capOf]
  refine callK_of (k_vCellsS (Iw8.pre (hp5.trans (hp6.trans (hp7.trans (hp8.trans (q9.trans (hp10.trans (q11.trans (q12))))))))) (Iw10.pre (hp6.trans (hp7.trans (hp8.trans (q9.trans (hp10.trans (q11.trans (q12)))))))) (by omega)) ?_
  simp (disch := omega) only [beq_self_eq_true, Bool.not_true, ↓SXd, SXu, slBounds, ↓sop, ↓aop, ↓reduceIte, LV.cells, AOp.dst, LV.I, LV.B, LV.U, LV.S, LV.nil, Nat.reduceEqDiff, Nat.reduceAdd, Nat.reduceMul, Nat.reduceSub, Nat.reduceLeDiff, Nat.reduceBEq, Nat.reduceDiv, Nat.reduceMod, Int.reduceToNat, Int.reduceLT, Int.reduceLE, Int.reduceAdd, Int.reduceSub, Int.reduceMul, Int.reduceEq, Int.reduceNeg, reduceCtorEq, resV, resAll, ARes.ev, LV.flat, ite_true, ite_false, exists_eq_left', exists_eq_left, keyOf, implies_true, fillC, capOf]
  refine callK_of (k_vCellsS (Iw12.pre (hp7.trans (hp8.trans (q9.trans (hp10.trans (q11.trans (q12))))))) (Iw14.pre (hp8.trans (q9.trans (hp10.trans (q11.trans (q12)))))) (by omega)) ?_
  refine put_cut (fun fr' M' => M' = W12 ∧ fr' 3 = .ptr m3 0 ∧ fr' 4 = w4 ∧ fr' 5 = .B b ∧ fr' 8 = w8 ∧ fr' 12 = w12 ∧ fr' 16 = .ptr m16 0 ∧ fr' 17 = .ptr (m16 + 1) 0 ∧ fr' 18 = .B cr ∧ fr' 19 = .B cb ∧ fr' 29 = .I tn ∧ fr' 30 = .B tb) ?_ ?_
  · simp (disch := omega) only [beq_self_eq_true, Bool.not_true, ↓SXd, SXu, slBounds, ↓sop, ↓aop, ↓reduceIte, LV.cells, AOp.dst, LV.I, LV.B, LV.U, LV.S, LV.nil, Nat.reduceEqDiff, Nat.reduceAdd, Nat.reduceMul, Nat.reduceSub, Nat.reduceLeDiff, Nat.reduceBEq, Nat.reduceDiv, Nat.reduceMod, Int.reduceToNat, Int.reduceLT, Int.reduceLE, Int.reduceAdd, Int.reduceSub, Int.reduceMul, Int.reduceEq, Int.reduceNeg, reduceCtorEq, resV, resAll, ARes.ev, LV.flat, ite_true, ite_false, exists_eq_left', exists_eq_left, keyOf, implies_true, fillC, capOf]
    all_goals exact ⟨rfl, by first | rfl | assumption, by first | rfl | assumption, by first | rfl | assumption, by first | rfl | assumption, by first | rfl | assumption, by first | rfl | assumption, by first | rfl | assumption, by first | rfl | assumption, by first | rfl | assumption, by first | rfl | assumption, by first | rfl | assumption⟩
  rintro fr W12 ⟨rfl, f3, f4, f5, f8, f12, f16, f17, f18, f19, f29, f30⟩
  have B3f := (B3.pre (hp2.trans (hp3.trans (hp4.trans (hp5.trans (hp6.trans (hp7.trans (hp8.trans (q9.trans (hp10.trans (q11.trans (q12))))))))))))
  have Uf := (U.pre (hp2.trans (hp3.trans (hp4.trans (hp5.trans (hp6.trans (hp7.trans (hp8.trans (q9.trans (hp10.trans (q11.trans (q12))))))))))))
  have Iw4f := (Iw4.pre (hp3.trans (hp4.trans (hp5.trans (hp6.trans (hp7.trans (hp8.trans (q9.trans (hp10.trans (q11.trans (q12)))))))))))
  have Iw8f := (Iw8.pre (hp5.trans (hp6.trans (hp7.trans (hp8.trans (q9.trans (hp10.trans (q11.trans (q12)))))))))
  have Iw12f := (Iw12.pre (hp7.trans (hp8.trans (q9.trans (hp10.trans (q11.trans (q12)))))))
  have B16f := (B16.pre (hp10.trans (q11.trans (q12))))
  have B17f := (B17.pre (hp10.trans (q11.trans (q12))))
  have U2f := (U2.pre (hp10.trans (q11.trans (q12))))
  simp (disch := omega) only [f3, f4, f5, f8, f12, f16, f17, f18, f19, f29, f30, ↓SXd, SXu, slBounds, ↓sop, ↓aop, ↓reduceIte, LV.cells, AOp.dst, LV.I, LV.B, LV.U, LV.S, LV.nil, Nat.reduceEqDiff, Nat.reduceAdd, Nat.reduceMul, Nat.reduceSub, Nat.reduceLeDiff, Nat.reduceBEq, Nat.reduceDiv, Nat.reduceMod, Int.reduceToNat, Int.reduceLT, Int.reduceLE, Int.reduceAdd, Int.reduceSub, Int.reduceMul, Int.reduceEq, Int.reduceNeg, reduceCtorEq, resV, resAll, ARes.ev, LV.flat, ite_true, ite_false, exists_eq_left', exists_eq_left, keyOf, implies_true, fillC, capOf]
  refine cond_cut (fun fr' M' => Pre W12 M' ∧ fr' 3 = .ptr m3 0 ∧ fr' 4 = w4 ∧ fr' 5 = .B b ∧ fr' 8 = w8 ∧ fr' 12 = w12 ∧ fr' 29 = .I tn ∧ fr' 30 = .B tb) ?_ ?_
  · cases cb
    · simp (disch := omega) only [f3, f4, f5, f8, f12, f16, f17, f18, f19, f29, f30, ↓SXd, SXu, slBounds, ↓sop, ↓aop, ↓reduceIte, LV.cells, AOp.dst, LV.I, LV.B, LV.U, LV.S, LV.nil, Nat.reduceEqDiff, Nat.reduceAdd, Nat.reduceMul, Nat.reduceSub, Nat.reduceLeDiff, Nat.reduceBEq, Nat.reduceDiv, Nat.reduceMod, Int.reduceToNat, Int.reduceLT, Int.reduceLE, Int.reduceAdd, Int.reduceSub, Int.reduceMul, Int.reduceEq, Int.reduceNeg, reduceCtorEq, resV, resAll, ARes.ev, LV.flat, ite_true, ite_false, exists_eq_left', exists_eq_left, keyOf, implies_true, fillC, capOf]
      all_goals first | exact Pre.refl _ | exact ⟨Pre.refl _, by first | rfl | assumption, by first | rfl | assumption, by first | rfl | assumption, by first | rfl | assumption, by first | rfl | assumption, by first | rfl | assumption, by first | rfl | assumption⟩
    obtain ⟨⟨hH2, hs2⟩, hcr⟩ := hC rfl
    have hk2 : keyOf' x2 y2 z2 cs2 = some (keyL x2 y2 z2 cs2) := if_pos hs2
    have hl2 := key_len (cs := cs2) hH2.1
    simp (disch := omega) only [f3, f4, f5, f8, f12, f16, f17, f18, f19, f29, f30, B16f.cells, ↓SXd, SXu, slBounds, ↓sop, ↓aop, ↓reduceIte, LV.cells, AOp.dst, LV.I, LV.B, LV.U, LV.S, LV.nil, Nat.reduceEqDiff, Nat.reduceAdd, Nat.reduceMul, Nat.reduceSub, Nat.reduceLeDiff, Nat.reduceBEq, Nat.reduceDiv, Nat.reduceMod, Int.reduceToNat, Int.reduceLT, Int.reduceLE, Int.reduceAdd, Int.reduceSub, Int.reduceMul, Int.reduceEq, Int.reduceNeg, reduceCtorEq, resV, resAll, ARes.ev, LV.flat, ite_true, ite_false, exists_eq_left', exists_eq_left, keyOf, implies_true, fillC, capOf]
    refine callR_of (cellsK_y (l := keyL x2 y2 z2 cs2) (b := true) (g_KeyCubes U2f hcn2) (by rw [hk2]; rfl) (by rw [hk2]; rfl)) ?_
    rintro _ Y ⟨w33, rfl, I33, hy⟩
    have B16g := B16f.pre hy
    have B17g := B17f.pre hy
    have I2g : CellsV Y (.ref u2 0 cs2.length) cs2 := .inr ⟨u2, 0, rfl, (U2f.pre hy).has⟩
    simp (disch := omega) only [f3, f4, f5, f8, f12, f16, f17, f18, f19, f29, f30, B16g.cell, B17g.cells, ↓SXd, SXu, slBounds, ↓sop, ↓aop, ↓reduceIte, LV.cells, AOp.dst, LV.I, LV.B, LV.U, LV.S, LV.nil, Nat.reduceEqDiff, Nat.reduceAdd, Nat.reduceMul, Nat.reduceSub, Nat.reduceLeDiff, Nat.reduceBEq, Nat.reduceDiv, Nat.reduceMod, Int.reduceToNat, Int.reduceLT, Int.reduceLE, Int.reduceAdd, Int.reduceSub, Int.reduceMul, Int.reduceEq, Int.reduceNeg, reduceCtorEq, resV, resAll, ARes.ev, LV.flat, ite_true, ite_false, exists_eq_left', exists_eq_left, keyOf, implies_true, fillC, capOf]
    refine callK_of (k_vIn I2g (by omega)) ?_
    by_cases hc1 : c ∈ cs2
    · simp (disch := omega) only [f3, f4, f5, f8, f12, f16, f17, f18, f19, f29, f30, hc1, B17g.cells, ↓SXd, SXu, slBounds, ↓sop, ↓aop, ↓reduceIte, LV.cells, AOp.dst, LV.I, LV.B, LV.U, LV.S, LV.nil, Nat.reduceEqDiff, Nat.reduceAdd, Nat.reduceMul, Nat.reduceSub, Nat.reduceLeDiff, Nat.reduceBEq, Nat.reduceDiv, Nat.reduceMod, Int.reduceToNat, Int.reduceLT, Int.reduceLE, Int.reduceAdd, Int.reduceSub, Int.reduceMul, Int.reduceEq, Int.reduceNeg, reduceCtorEq, resV, resAll, ARes.ev, LV.flat, ite_true, ite_false, exists_eq_left', exists_eq_left, keyOf, implies_true, fillC, capOf]
      refine callK_of (k_vIn I33 (by omega)) ?_
      by_cases hc2 : c ∈ keyL x2 y2 z2 cs2
      · rw [decide_eq_true hc1, decide_eq_true hc2] at hcr
        simp only [Bool.not_true, Bool.and_false] at hcr
        subst hcr
        simp (disch := omega) only [f3, f4, f5, f8, f12, f16, f17, f18, f19, f29, f30, hc2, beq_self_eq_true, Bool.not_true, ↓SXd, SXu, slBounds, ↓sop, ↓aop, ↓reduceIte, LV.cells, AOp.dst, LV.I, LV.B, LV.U, LV.S, LV.nil, Nat.reduceEqDiff, Nat.reduceAdd, Nat.reduceMul, Nat.reduceSub, Nat.reduceLeDiff, Nat.reduceBEq, Nat.reduceDiv, Nat.reduceMod, Int.reduceToNat, Int.reduceLT, Int.reduceLE, Int.reduceAdd, Int.reduceSub, Int.reduceMul, Int.reduceEq, Int.reduceNeg, reduceCtorEq, resV, resAll, ARes.ev, LV.flat, ite_true, ite_false, exists_eq_left', exists_eq_left, keyOf, implies_true, fillC, capOf]
        all_goals first | exact hy | exact ⟨hy, by first | rfl | assumption, by first | rfl | assumption, by first | rfl | assumption, by first | rfl | assumption, by first | rfl | assumption, by first | rfl | assumption, by first | rfl | assumption⟩
      · rw [decide_eq_true hc1, decide_eq_false hc2] at hcr
        simp only [Bool.not_false, Bool.and_true] at hcr
        subst hcr
        simp (disch := omega) only [f3, f4, f5, f8, f12, f16, f17, f18, f19, f29, f30, hc2, beq_self_eq_true, Bool.not_true, ↓SXd, SXu, slBounds, ↓sop, ↓aop, ↓reduceIte, LV.cells, AOp.dst, LV.I, LV.B, LV.U, LV.S, LV.nil, Nat.reduceEqDiff, Nat.reduceAdd, Nat.reduceMul, Nat.reduceSub, Nat.reduceLeDiff, Nat.reduceBEq, Nat.reduceDiv, Nat.reduceMod, Int.reduceToNat, Int.reduceLT, Int.reduceLE, Int.reduceAdd, Int.reduceSub, Int.reduceMul, Int.reduceEq, Int.reduceNeg, reduceCtorEq, resV, resAll, ARes.ev, LV.flat, ite_true, ite_false, exists_eq_left', exists_eq_left, keyOf, implies_true, fillC, capOf]
        all_goals first | exact hy | exact ⟨hy, by first | rfl | assumption, by first | rfl | assumption, by first | rfl | assumption, by first | rfl | assumption, by first | rfl | assumption, by first | rfl | assumption, by first | rfl | assumption⟩
    · rw [decide_eq_false hc1, Bool.false_and] at hcr
      subst hcr
      simp (disch := omega) only [f3, f4, f5, f8, f12, f16, f17, f18, f19, f29, f30, hc1, beq_self_eq_true, Bool.not_true, ↓SXd, SXu, slBounds, ↓sop, ↓aop, ↓reduceIte, LV.cells, AOp.dst, LV.I, LV.B, LV.U, LV.S, LV.nil, Nat.reduceEqDiff, Nat.reduceAdd, Nat.reduceMul, Nat.reduceSub, Nat.reduceLeDiff, Nat.reduceBEq, Nat.reduceDiv, Nat.reduceMod, Int.reduceToNat, Int.reduceLT, Int.reduceLE, Int.reduceAdd, Int.reduceSub, Int.reduceMul, Int.reduceEq, Int.reduceNeg, reduceCtorEq, resV, resAll, ARes.ev, LV.flat, ite_true, ite_false, exists_eq_left', exists_eq_left, keyOf, implies_true, fillC, capOf]
      all_goals first | exact hy | exact ⟨hy, by first | rfl | assumption, by first | rfl | assumption, by first | rfl | assumption, by first | rfl | assumption, by first | rfl | assumption, by first | rfl | assumption, by first | rfl | assumption⟩
  clear f3 f4 f5 f8 f12 f16 f17 f18 f19 f29 f30
  rintro fr X ⟨hX, f3, f4, f5, f8, f12, f29, f30⟩
  replace B3f := B3f.pre hX
  replace Uf := Uf.pre hX
  replace Iw4f := CellsV.pre Iw4f hX
  replace Iw8f := CellsV.pre Iw8f hX
  replace Iw12f := CellsV.pre Iw12f hX
  simp (disch := omega) only [f3, f4, f5, f8, f12, f29, f30, ↓SXd, SXu, slBounds, ↓sop, ↓aop, ↓reduceIte, LV.cells, AOp.dst, LV.I, LV.B, LV.U, LV.S, LV.nil, Nat.reduceEqDiff, Nat.reduceAdd, Nat.reduceMul, Nat.reduceSub, Nat.reduceLeDiff, Nat.reduceBEq, Nat.reduceDiv, Nat.reduceMod, Int.reduceToNat, Int.reduceLT, Int.reduceLE, Int.reduceAdd, Int.reduceSub, Int.reduceMul, Int.reduceEq, Int.reduceNeg, reduceCtorEq, resV, resAll, ARes.ev, LV.flat, ite_true, ite_false, exists_eq_left', exists_eq_left, keyOf, implies_true, fillC, capOf]
  refine guard_cut (fun fr' M' => M' = X ∧ fr' 3 = .ptr m3 0 ∧ fr' 4 = w4 ∧ fr' 5 = .B b ∧ fr' 8 = w8 ∧ fr' 12 = w12) ?_ ?_
  · cases tb
    · simp (disch := omega) only [f3, f4, f5, f8, f12, f29, f30, ↓SXd, SXu, slBounds, ↓sop, ↓aop, ↓reduceIte, LV.cells, AOp.dst, LV.I, LV.B, LV.U, LV.S, LV.nil, Nat.reduceEqDiff, Nat.reduceAdd, Nat.reduceMul, Nat.reduceSub, Nat.reduceLeDiff, Nat.reduceBEq, Nat.reduceDiv, Nat.reduceMod, Int.reduceToNat, Int.reduceLT, Int.reduceLE, Int.reduceAdd, Int.reduceSub, Int.reduceMul, Int.reduceEq, Int.reduceNeg, reduceCtorEq, resV, resAll, ARes.ev, LV.flat, ite_true, ite_false, exists_eq_left', exists_eq_left, keyOf, implies_true, fillC, capOf]
      all_goals first | done | exact ⟨rfl, by first | rfl | assumption, by first | rfl | assumption, by first | rfl | assumption, by first | rfl | assumption, by first | rfl | assumption⟩
    have htn := hT4 rfl
    have htn' : ¬ ((tn : Int) < 1) := by omega
    simp (disch := omega) only [f3, f4, f5, f8, f12, f29, f30, htn', ↓SXd, SXu, slBounds, ↓sop, ↓aop, ↓reduceIte, LV.cells, AOp.dst, LV.I, LV.B, LV.U, LV.S, LV.nil, Nat.reduceEqDiff, Nat.reduceAdd, Nat.reduceMul, Nat.reduceSub, Nat.reduceLeDiff, Nat.reduceBEq, Nat.reduceDiv, Nat.reduceMod, Int.reduceToNat, Int.reduceLT, Int.reduceLE, Int.reduceAdd, Int.reduceSub, Int.reduceMul, Int.reduceEq, Int.reduceNeg, reduceCtorEq, resV, resAll, ARes.ev, LV.flat, ite_true, ite_false, exists_eq_left', exists_eq_left, keyOf, implies_true, fillC, capOf]
    all_goals first | done | exact ⟨rfl, by first | rfl | assumption, by first | rfl | assumption, by first | rfl | assumption, by first | rfl | assumption, by first | rfl | assumption⟩
  clear f3 f4 f5 f8 f12 f29 f30
  rintro fr X ⟨rfl, f3, f4, f5, f8, f12⟩
  cases b
  · simp (disch := omega) only [f3, f4, f5, f8, f12, ↓SXd, SXu, slBounds, ↓sop, ↓aop, ↓reduceIte, LV.cells, AOp.dst, LV.I, LV.B, LV.U, LV.S, LV.nil, Nat.reduceEqDiff, Nat.reduceAdd, Nat.reduceMul, Nat.reduceSub, Nat.reduceLeDiff, Nat.reduceBEq, Nat.reduceDiv, Nat.reduceMod, Int.reduceToNat, Int.reduceLT, Int.reduceLE, Int.reduceAdd, Int.reduceSub, Int.reduceMul, Int.reduceEq, Int.reduceNeg, reduceCtorEq, resV, resAll, ARes.ev, LV.flat, ite_true, ite_false, exists_eq_left', exists_eq_left, keyOf, implies_true, fillC, capOf]
    rfl
  obtain ⟨hV1, hK, hT, hY⟩ := hV rfl
  obtain ⟨hH, hF⟩ := id hV1
  have hS := hH.1
  have hlen := hH.len
  have hTl : T.length = cs.length := by rw [hT]; exact takeL_len hS _
  have hYl : Y.length = cs.length := by rw [hY]; exact layL_len hS _
  have hoT : ordR x y z cs T = true := by unfold ordR; rw [eb, hT, ord_take hS hH hF]; rfl
  have hoY : ordR x y z cs Y.reverse = true := by unfold ordR; rw [eb, hY, ord_lay hS hH hF]; rfl
  have hks := fun h0 => key_small hH hF h0
  rw [← hK, ← hT] at hks
  have hlY := CellsV.lenV Iw12f
  simp (disch := omega) only [f3, f4, f5, f8, f12, hlY, ↓SXd, SXu, slBounds, ↓sop, ↓aop, ↓reduceIte, LV.cells, AOp.dst, LV.I, LV.B, LV.U, LV.S, LV.nil, Nat.reduceEqDiff, Nat.reduceAdd, Nat.reduceMul, Nat.reduceSub, Nat.reduceLeDiff, Nat.reduceBEq, Nat.reduceDiv, Nat.reduceMod, Int.reduceToNat, Int.reduceLT, Int.reduceLE, Int.reduceAdd, Int.reduceSub, Int.reduceMul, Int.reduceEq, Int.reduceNeg, reduceCtorEq, resV, resAll, ARes.ev, LV.flat, ite_true, ite_false, exists_eq_left', exists_eq_left, keyOf, implies_true, fillC, capOf]
  refine ev_loop (fun m fr M' => ∃ (k u6 : Nat), k + m = Y.length ∧ Pre X M' ∧ X.length ≤ u6 ∧ Live M' u6 (.row (triL (Y.reverse.take k)) true 3) ∧ fr 3 = .ptr m3 0 ∧ fr 4 = w4 ∧ fr 5 = .B true ∧ fr 8 = w8 ∧ fr 12 = w12 ∧ fr 35 = .ref u6 0 (Y.reverse.take k).length ∧ fr 36 = .I ((Y.length : Nat) - 1 - (k : Nat) : Int)) Y.length
    ⟨0, X.length, by omega, Pre.app _ _, by omega, Live.new, f3, f4, f5, f8, f12, rfl, eqI (by omega)⟩ ?_
  clear f3 f4 f5 f8 f12
  rintro m fr M' ⟨k, u6, hk, hp, hu6, b6, f3, f4, f5, f8, f12, f35, f36⟩
  simp (disch := omega) only [f3, f4, f5, f8, f12, f35, f36, ↓SXd, SXu, slBounds, ↓sop, ↓aop, ↓reduceIte, LV.cells, AOp.dst, LV.I, LV.B, LV.U, LV.S, LV.nil, Nat.reduceEqDiff, Nat.reduceAdd, Nat.reduceMul, Nat.reduceSub, Nat.reduceLeDiff, Nat.reduceBEq, Nat.reduceDiv, Nat.reduceMod, Int.reduceToNat, Int.reduceLT, Int.reduceLE, Int.reduceAdd, Int.reduceSub, Int.reduceMul, Int.reduceEq, Int.reduceNeg, reduceCtorEq, resV, resAll, ARes.ev, LV.flat, ite_true, ite_false, exists_eq_left', exists_eq_left, keyOf, implies_true, fillC, capOf]
  refine condC_dec (fun hlt => ?_) (fun hlt => ?_)
  · have hkl : k < Y.length := by omega
    have hil : Y.length - 1 - k < Y.length := by omega
    obtain ⟨ta, oa, rfl, hga⟩ := (CellsV.pre Iw12f hp).at hil
    have htn : ((Y.length : Int) - 1 - (k : Nat)).toNat = Y.length - 1 - k := by omega
    have hrv : Y.reverse.take (k + 1) = Y.reverse.take k ++ [Y.getD (Y.length - 1 - k) default] := by
      rw [List.take_succ, List.getElem?_reverse hkl, List.getElem?_eq_getElem hil]
      simp [List.getD_eq_getElem?_getD, List.getElem?_eq_getElem hil]
    have htl : (Y.reverse.take k).length ≤ 1000 := by simp; omega
    simp (disch := omega) only [f3, f4, f5, f8, f12, f35, f36, hga, htn, Cell.row, splice, ↓SXd, SXu, slBounds, ↓sop, ↓aop, ↓reduceIte, LV.cells, AOp.dst, LV.I, LV.B, LV.U, LV.S, LV.nil, Nat.reduceEqDiff, Nat.reduceAdd, Nat.reduceMul, Nat.reduceSub, Nat.reduceLeDiff, Nat.reduceBEq, Nat.reduceDiv, Nat.reduceMod, Int.reduceToNat, Int.reduceLT, Int.reduceLE, Int.reduceAdd, Int.reduceSub, Int.reduceMul, Int.reduceEq, Int.reduceNeg, reduceCtorEq, resV, resAll, ARes.ev, LV.flat, ite_true, ite_false, exists_eq_left', exists_eq_left, keyOf, implies_true, fillC, capOf]
    refine appendK_cell b6 (by omega) fun N5 l1 l2 l3 => ?_
    rw [cell_eta, ← hrv] at l2
    have hpl := hp.1
    simp (disch := omega) only [f3, f4, f5, f8, f12, f35, f36, ↓SXd, SXu, slBounds, ↓sop, ↓aop, ↓reduceIte, LV.cells, AOp.dst, LV.I, LV.B, LV.U, LV.S, LV.nil, Nat.reduceEqDiff, Nat.reduceAdd, Nat.reduceMul, Nat.reduceSub, Nat.reduceLeDiff, Nat.reduceBEq, Nat.reduceDiv, Nat.reduceMod, Int.reduceToNat, Int.reduceLT, Int.reduceLE, Int.reduceAdd, Int.reduceSub, Int.reduceMul, Int.reduceEq, Int.reduceNeg, reduceCtorEq, resV, resAll, ARes.ev, LV.flat, ite_true, ite_false, exists_eq_left', exists_eq_left, keyOf, implies_true, fillC, capOf]
    refine ⟨m - 1, by omega, k + 1, M'.length + 1, by omega, ?_, by omega, l2, f3, f4, f5, f8, f12, ?_, eqI (by omega)⟩
    · exact ⟨by omega, fun q hq => by rw [l3 q (by omega) (by omega)]; exact hp.2 q hq⟩
    · rw [hrv, cell_eta]; rfl
  have hkn : k = Y.length := by omega
  subst hkn
  rw [List.take_of_length_le (by simp)] at b6 f35
  have B3g := B3f.pre hp
  have Ug := Uf.pre hp
  have I8 := CellsV.pre Iw8f hp
  have I4 := CellsV.pre Iw4f hp
  have hlT := CellsV.lenV I8
  have hlK := CellsV.lenV I4
  have IY : CellsV M' (.ref u6 0 Y.reverse.length) Y.reverse := .inr ⟨u6, 0, rfl, b6.has⟩
  clear Iw8f Iw4f Iw12f B3f Uf
  simp (disch := omega) only [f3, f4, f5, f8, f12, f35, B3g.cells, ↓SXd, SXu, slBounds, ↓sop, ↓aop, ↓reduceIte, LV.cells, AOp.dst, LV.I, LV.B, LV.U, LV.S, LV.nil, Nat.reduceEqDiff, Nat.reduceAdd, Nat.reduceMul, Nat.reduceSub, Nat.reduceLeDiff, Nat.reduceBEq, Nat.reduceDiv, Nat.reduceMod, Int.reduceToNat, Int.reduceLT, Int.reduceLE, Int.reduceAdd, Int.reduceSub, Int.reduceMul, Int.reduceEq, Int.reduceNeg, reduceCtorEq, resV, resAll, ARes.ev, LV.flat, ite_true, ite_false, exists_eq_left', exists_eq_left, keyOf, implies_true, fillC, capOf]
  have hq := g_IsTakingOrder (x := x) (y := y) (z := z) Ug hcn I8 (by omega)
  rw [hoT, eb] at hq
  refine callK_of hq ?_
  clear hq
  simp (disch := omega) only [f3, f4, f5, f8, f12, f35, B3g.cells, ↓SXd, SXu, slBounds, ↓sop, ↓aop, ↓reduceIte, LV.cells, AOp.dst, LV.I, LV.B, LV.U, LV.S, LV.nil, Nat.reduceEqDiff, Nat.reduceAdd, Nat.reduceMul, Nat.reduceSub, Nat.reduceLeDiff, Nat.reduceBEq, Nat.reduceDiv, Nat.reduceMod, Int.reduceToNat, Int.reduceLT, Int.reduceLE, Int.reduceAdd, Int.reduceSub, Int.reduceMul, Int.reduceEq, Int.reduceNeg, reduceCtorEq, resV, resAll, ARes.ev, LV.flat, ite_true, ite_false, exists_eq_left', exists_eq_left, keyOf, implies_true, fillC, capOf]
  have hq := g_IsTakingOrder (x := x) (y := y) (z := z) Ug hcn IY (by simp; omega)
  rw [hoY, eb] at hq
  refine callK_of hq ?_
  clear hq
  have hTc : ((T.length : Nat) : Int) = (cs.length : Nat) := by omega
  simp (disch := omega) only [f3, f4, f5, f8, f12, f35, B3g.cell, hlT, hTc, Bool.not_true, ↓SXd, SXu, slBounds, ↓sop, ↓aop, ↓reduceIte, LV.cells, AOp.dst, LV.I, LV.B, LV.U, LV.S, LV.nil, Nat.reduceEqDiff, Nat.reduceAdd, Nat.reduceMul, Nat.reduceSub, Nat.reduceLeDiff, Nat.reduceBEq, Nat.reduceDiv, Nat.reduceMod, Int.reduceToNat, Int.reduceLT, Int.reduceLE, Int.reduceAdd, Int.reduceSub, Int.reduceMul, Int.reduceEq, Int.reduceNeg, reduceCtorEq, resV, resAll, ARes.ev, LV.flat, ite_true, ite_false, exists_eq_left', exists_eq_left, keyOf, implies_true, fillC, capOf]
  refine ev_loop (fun m2 fr W => ∃ i : Nat, i + m2 = K.length ∧ W = M' ∧ fr 3 = .ptr m3 0 ∧ fr 4 = w4 ∧ fr 8 = w8 ∧ fr 41 = .I i) K.length
    ⟨0, by omega, rfl, f3, f4, f8, rfl⟩ ?_
  clear f3 f4 f5 f8 f12 f35 f36
  rintro m2 fr W ⟨i, hi, rfl, f3, f4, f8, f41⟩
  simp (disch := omega) only [f3, f4, f8, f41, hlK, ↓SXd, SXu, slBounds, ↓sop, ↓aop, ↓reduceIte, LV.cells, AOp.dst, LV.I, LV.B, LV.U, LV.S, LV.nil, Nat.reduceEqDiff, Nat.reduceAdd, Nat.reduceMul, Nat.reduceSub, Nat.reduceLeDiff, Nat.reduceBEq, Nat.reduceDiv, Nat.reduceMod, Int.reduceToNat, Int.reduceLT, Int.reduceLE, Int.reduceAdd, Int.reduceSub, Int.reduceMul, Int.reduceEq, Int.reduceNeg, reduceCtorEq, resV, resAll, ARes.ev, LV.flat, ite_true, ite_false, exists_eq_left', exists_eq_left, keyOf, implies_true, fillC, capOf]
  refine condC_dec (fun hlt2 => ?_) (fun hlt2 => ?_)
  · have hiK : i < K.length := by omega
    by_cases h0 : (0 : Int) < (T.length : Nat)
    · have hT0 : 0 < T.length := by omega
      obtain ⟨ta, oa, rfl, hga⟩ := I4.at hiK
      obtain ⟨tb, ob, rfl, hgb⟩ := I8.at hT0
      have hne : K.getD i default ≠ T.getD 0 default := fun e => (hks (by omega)).1 (by rw [← e]; exact getD_mem' hiK)
      have hee := eqs_ne hne
      rw [Nat.zero_mul, Nat.add_zero] at hgb
      simp (disch := omega) only [f3, f4, f8, f41, hlT, h0, hga, hgb, hee, Cell.row, ↓SXd, SXu, slBounds, ↓sop, ↓aop, ↓reduceIte, LV.cells, AOp.dst, LV.I, LV.B, LV.U, LV.S, LV.nil, Nat.reduceEqDiff, Nat.reduceAdd, Nat.reduceMul, Nat.reduceSub, Nat.reduceLeDiff, Nat.reduceBEq, Nat.reduceDiv, Nat.reduceMod, Int.reduceToNat, Int.reduceLT, Int.reduceLE, Int.reduceAdd, Int.reduceSub, Int.reduceMul, Int.reduceEq, Int.reduceNeg, reduceCtorEq, resV, resAll, ARes.ev, LV.flat, ite_true, ite_false, exists_eq_left', exists_eq_left, keyOf, implies_true, fillC, capOf]
      exact ⟨m2 - 1, by omega, i + 1, by omega, rfl, f3, f4, f8, eqI (natI _)⟩
    · simp (disch := omega) only [f3, f4, f8, f41, hlT, h0, ↓SXd, SXu, slBounds, ↓sop, ↓aop, ↓reduceIte, LV.cells, AOp.dst, LV.I, LV.B, LV.U, LV.S, LV.nil, Nat.reduceEqDiff, Nat.reduceAdd, Nat.reduceMul, Nat.reduceSub, Nat.reduceLeDiff, Nat.reduceBEq, Nat.reduceDiv, Nat.reduceMod, Int.reduceToNat, Int.reduceLT, Int.reduceLE, Int.reduceAdd, Int.reduceSub, Int.reduceMul, Int.reduceEq, Int.reduceNeg, reduceCtorEq, resV, resAll, ARes.ev, LV.flat, ite_true, ite_false, exists_eq_left', exists_eq_left, keyOf, implies_true, fillC, capOf]
      exact ⟨m2 - 1, by omega, i + 1, by omega, rfl, f3, f4, f8, eqI (natI _)⟩
  · by_cases hz : ((cs.length : Nat) : Int) = 0
    · simp (disch := omega) only [f3, f4, f8, f41, B3g.cell, hz, ↓SXd, SXu, slBounds, ↓sop, ↓aop, ↓reduceIte, LV.cells, AOp.dst, LV.I, LV.B, LV.U, LV.S, LV.nil, Nat.reduceEqDiff, Nat.reduceAdd, Nat.reduceMul, Nat.reduceSub, Nat.reduceLeDiff, Nat.reduceBEq, Nat.reduceDiv, Nat.reduceMod, Int.reduceToNat, Int.reduceLT, Int.reduceLE, Int.reduceAdd, Int.reduceSub, Int.reduceMul, Int.reduceEq, Int.reduceNeg, reduceCtorEq, resV, resAll, ARes.ev, LV.flat, ite_true, ite_false, exists_eq_left', exists_eq_left, keyOf, implies_true, fillC, capOf]
      all_goals rfl
    · have hkl : (K.length : Int) < (cs.length : Nat) := by have := (hks (by omega)).2; omega
      simp (disch := omega) only [f3, f4, f8, f41, B3g.cell, hz, hlK, hkl, ↓SXd, SXu, slBounds, ↓sop, ↓aop, ↓reduceIte, LV.cells, AOp.dst, LV.I, LV.B, LV.U, LV.S, LV.nil, Nat.reduceEqDiff, Nat.reduceAdd, Nat.reduceMul, Nat.reduceSub, Nat.reduceLeDiff, Nat.reduceBEq, Nat.reduceDiv, Nat.reduceMod, Int.reduceToNat, Int.reduceLT, Int.reduceLE, Int.reduceAdd, Int.reduceSub, Int.reduceMul, Int.reduceEq, Int.reduceNeg, reduceCtorEq, resV, resAll, ARes.ev, LV.flat, ite_true, ite_false, exists_eq_left', exists_eq_left, keyOf, implies_true, fillC, capOf]
      all_goals rfl
end Go.Ab

/- Bytes that came in, opened. -/
namespace Go.Ab
open Go Go.RowKit Go.Joins Go.ChangeShapes Go.WideShapes Go.Deep Go.WideElems Go.Maps

/-- What the abstract machine is told of a slice of bytes that came in. -/
def RowOfB (w : World) (a : Option Addr) (len cap : Nat) (xs : List Nat) : Prop :=
  xs.length = len ∧ len ≤ cap ∧ cap ≤ maxLen ∧ (∀ b ∈ xs, b ≤ 255) ∧ (cap = 0 ∨ ∃ b o c e fz, a = some ⟨b, o, none⟩ ∧ w.heap[b]? = some (.cells c e fz) ∧ ∀ i, i < len → c[o + i]? = some (.int .u8 ((xs.getD i 0 : Nat) : Int)))

section
variable {H : Type} {enc : TypeId × Value → H} {P : Program} {w : World} {held : Bool}
theorem open_bytesB {ts ti : TypeId} {fuel : Nat} {cs : List Value} {x : DataW H × List MemPlace} (hts : P.underlying ts = some (.slice ti)) (hti : P.underlying ti = some (.int .u8)) (hci : P.cellsOf ti = 1)
    (h : DataW.trod enc P w 0 (fun _ => true) held fuel ts cs = some x) : ∃ a len cap xs, cs = [.slice a len cap] ∧ RowOfB w a len cap xs := by
  rcases Go.ChangeShapes.open_ints hts hti hci h with ⟨rfl, _⟩ | ⟨a, len, cap, zs, rfl, _, hl, hm, hz, _, hel, hwf⟩
  · exact ⟨none, 0, 0, [], rfl, rfl, Nat.le_refl _, Nat.zero_le _, by simp, .inl rfl⟩
  · have hzl : zs.length = cap := by simpa using hz
    have hby : ∀ n ∈ zs, 0 ≤ n ∧ n ≤ 255 := fun n hn => by
      have h1 := hwf n hn
      unfold Lit.wf at h1
      rw [Bool.and_eq_true, decide_eq_true_iff, decide_eq_true_iff] at h1
      exact h1
    refine ⟨some a, len, cap, (zs.take len).map Int.toNat, rfl, by simp; omega, hl, hm, fun b hb => ?_, ?_⟩
    · obtain ⟨n, hn, rfl⟩ := List.mem_map.1 hb
      have := hby n (List.mem_of_mem_take hn)
      omega
    rcases Nat.eq_zero_or_pos cap with h0 | h0
    · exact .inl h0
    · refine .inr ?_
      have hc0 := hel 0 (by omega)
      obtain ⟨b, o, c, e, fz, ha, hh, _⟩ := cell_heap hc0
      have ha' : a = ⟨b, o, none⟩ := by simpa [Addr.add] using ha
      subst ha'
      refine ⟨b, o, c, e, fz, rfl, hh, fun i hi => ?_⟩
      have hcell := hel i (by omega)
      have hadd : (⟨b, o, none⟩ : Addr).add i = ⟨b, o + i, none⟩ := addr_add _ _ _
      rw [hadd] at hcell
      unfold World.cell? at hcell
      simp only [hh] at hcell
      have hil : i < zs.length := by omega
      have hbi := hby _ (getD_mem' (d := 0) hil)
      have hg : ((((zs.take len).map Int.toNat).getD i 0 : Nat) : Int) = zs.getD i 0 := by
        have e1 : ((zs.take len).map Int.toNat).getD i 0 = (zs.getD i 0).toNat := by simp [hi, hil]
        rw [e1]; omega
      rw [hg]
      simpa using hcell
end
theorem byL_get {bs : List Nat} {i : Nat} (h : i < bs.length) : (byL bs)[i]? = some (.val (.int .u8 ((bs.getD i 0 : Nat) : Int))) := by simp [byL, h]
/-- Bytes whose block has elements of one cell. -/
def BytesZ (M : Mem) (t o : Nat) (bs : List Nat) : Prop := Bytes M t o bs ∧ getEsz M t = some 1
theorem Inv.addBytesZ {G : Gh} {M : Mem} {w : World} (hi : Inv G M w) (hno : NoOwn M) {a : Option Addr} {len cap : Nat} {xs : List Nat} (h : RowOfB w a len cap xs) :
    ∃ (G' : Gh) (N : Mem) (t : Nat), Ext G G' ∧ Inv G' N w ∧ NoOwn N ∧ Pre M N ∧ VR1 G' (.ref t 0 len) (.slice a len cap) ∧ BytesZ N t 0 xs := by
  obtain ⟨h1, h2, h3, _, h4⟩ := h
  have key : ∃ G', Ext G G' ∧ Inv G' (M ++ [some (.row (byL xs) false 1)]) w ∧ NoOwn (M ++ [some (.row (byL xs) false 1)]) ∧ VR1 G' (.ref M.length 0 len) (.slice a len cap) := by
    refine hi.addRow hno h2 (by rw [byL_len]; omega) ?_
    rcases h4 with h0 | ⟨b, o, c, e, fz, ha, hh, hc⟩
    · refine .inl ⟨h0, ?_⟩
      have : xs = [] := List.eq_nil_of_length_eq_zero (by omega)
      rw [this]; rfl
    · refine .inr ⟨b, o, c, e, fz, ha, hh, fun j l hj => ?_⟩
      have hjl : j < xs.length := by
        rw [← byL_len]
        rcases Nat.lt_or_ge j (byL xs).length with h | h
        · exact h
        · rw [List.getElem?_eq_none h] at hj; cases hj
      rw [byL_get hjl] at hj
      cases hj
      exact ⟨_, hc j (by omega), rfl, rfl⟩
  obtain ⟨G', k1, k2, k3, k4⟩ := key
  exact ⟨G', _, _, k1, k2, k3, Pre.app _ _, k4, Has.new, by simp [getEsz]⟩
theorem RowOfB.le {w : World} {a : Option Addr} {len cap : Nat} {xs : List Nat} (h : RowOfB w a len cap xs) : xs.length ≤ 9223372036854775807 ∧ ∀ b ∈ xs, b ≤ 255 := by
  obtain ⟨h0, h1, h2, h3, _⟩ := h
  have := max63
  exact ⟨by omega, h3⟩
end Go.Ab
