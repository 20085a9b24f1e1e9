/- Parts of the proof of FnHolesSaid: C_Hb K_Hb C_Yd K_Yd C_Yc K_Yc C_Yb K_Yb Ra Rb Rc Rd C_Tc K_Tc C_Tb K_Tb Ge Ta Tb Tc C_Td K_Td Td Yb Yc Bi Yd C_Uh K_Uh C_Ug K_Ug Ug Uh Hb Hc Hd C_Dc2 K_Dc2 Dc2 C_De2 K_De2 C_De K_De De C_Dd2 K_Dd2 Dd2 De2 He C_Tf K_Tf C_Te K_Te Te Tf Jj C_Qg K_Qg C_Ib K_Ib C_Ia K_Ia C_Tj K_Tj Tj. -/
import Derived.Test.YtggnfklcgopflaaA3
import Derived.Test.YtggnfklcgopflaaA4
import Derived.Test.YtggnfklcgopflaaProg
import Derived.KernelRfl
import Derived.Below
import Derived.Lib.SmallJoins
import Derived.Deep.Slices
import Derived.Laws.IdiomArrays
import Derived.ChangeSlices
import Derived.Test.YtggnfklcgopflaaA5
import Derived.Test.YtggnfklcgopflaaA6
set_option linter.all false
namespace Go.Ab.C
open Go.Ab
def spec_OtherCells : AFn :=
 ⟨1, 43, [.cellN 2 4, .tmp 3],
 .seq (.ops [(none, .box 1 (.t 0)),
 (none, .alloc 2 [(.I 0), (.I 0), (.I 0), .nil]),
 (none, .mv 3 (.c (.B false)))])
 (.seq (.seq (.ops [(none, .loadN 7 4 (.t 1)),
 (none, .call (some 8) F.spec_l2Heap [(.t 7)]),
 (none, .un 9 .not (.t 8))])
 (.cond (.t 9) (.seq (.ops [(none, .build 10 [(.I 0), (.I 0), (.I 0), .nil] []),
 (none, .store 4 (.t 2) (.t 10)),
 (none, .mv 3 (.c (.B false)))])
 (.ret))
 (.skip)))
 (.seq (.draw [⟨(none, .fieldAddr 11 (.t 1) 0), [], []⟩,
 ⟨(none, .load1 12 (.t 11)), [], []⟩,
 ⟨(none, .fieldAddr 13 (.t 1) 1), [], []⟩,
 ⟨(none, .load1 14 (.t 13)), [], []⟩,
 ⟨(none, .fieldAddr 15 (.t 1) 2), [], []⟩,
 ⟨(none, .load1 16 (.t 15)), [], []⟩,
 ⟨(none, .loadN 18 4 (.t 1)), [], []⟩,
 ⟨(none, .alloc 4 [(.I 0), (.I 0), (.I 0), .nil]), [], []⟩,
 ⟨(none, .call (some 17) F.spec_l2Empty [(.t 12), (.t 14), (.t 16)]), [7], [6]⟩,
 ⟨(none, .call (some 19) F.spec_l2All [(.t 18)]), [7], []⟩,
 ⟨(none, .store 4 (.t 4) (.t 17)), [], []⟩,
 ⟨(none, .mv 5 (.t 19)), [], []⟩])
 (.seq (.seq (.ops [(none, .mv 6 (.c (.I 0)))])
 (.block 0 (.loop (.seq (.seq (.ops [(none, .mv 20 (.t 6)),
 (none, .mv 21 (.t 5)),
 (none, .len 22 (.t 21)),
 (none, .bin 23 .lss (.t 20) (.t 22))])
 (.cond (.t 23) (.skip)
 (.exit 0)))
 (.seq (.block 1 (.seq (.draw [⟨(none, .loadN 26 4 (.t 1)), [], []⟩,
 ⟨(none, .mv 27 (.t 5)), [], []⟩,
 ⟨(none, .mv 28 (.t 6)), [], []⟩,
 ⟨(none, .idxS 29 3 (.t 27) (.t 28)), [], []⟩,
 ⟨(none, .loadN 30 3 (.t 29)), [], []⟩,
 ⟨(none, .call (some 31) F.spec_l2Has [(.t 26), (.t 30)]), [], []⟩,
 ⟨(none, .un 32 .not (.t 31)), [], []⟩])
 (.cond (.t 32) (.draw [⟨(none, .fieldAddr 33 (.t 4) 3), [], []⟩,
 ⟨(none, .load1 34 (.t 33)), [], []⟩,
 ⟨(none, .mv 35 (.t 5)), [], []⟩,
 ⟨(none, .mv 36 (.t 6)), [], []⟩,
 ⟨(none, .idxS 37 3 (.t 35) (.t 36)), [], []⟩,
 ⟨(none, .loadN 38 3 (.t 37)), [], []⟩,
 ⟨(none, .buildSl 39 1 3 [(.I 0), (.I 0), (.I 0)] [(0, 3, (.t 38))]), [], []⟩,
 ⟨(none, .append 40 3 24 (.t 34) (.t 39)), [], []⟩,
 ⟨(none, .fieldAddr 41 (.t 4) 3), [], []⟩,
 ⟨(none, .store 1 (.t 41) (.t 40)), [], []⟩])
 (.skip))))
 (.ops [(none, .mv 24 (.t 6)),
 (none, .bin 25 .add (.t 24) (.c (.I 1))),
 (none, .mv 6 (.t 25))]))))))
 (.seq (.ops [(none, .loadN 42 4 (.t 4)),
 (none, .store 4 (.t 2) (.t 42)),
 (none, .mv 3 (.c (.B true)))])
 (.ret)))))⟩
def spec_l2Stack : AFn :=
 ⟨4, 56, [.cellN 8 4],
 .seq (.ops [(none, .alloc 8 [(.I 0), (.I 0), (.I 0), .nil])])
 (.seq (.ops [(none, .mv 12 (.t 0)),
 (none, .mv 13 (.t 1)),
 (none, .mv 14 (.t 2)),
 (none, .call (some 15) F.spec_l2Empty [(.t 12), (.t 13), (.t 14)]),
 (none, .alloc 9 [(.I 0), (.I 0), (.I 0), .nil]),
 (none, .store 4 (.t 9) (.t 15))])
 (.seq (.ops [(none, .loadN 16 4 (.t 9)),
 (none, .call (some 17) F.spec_l2All [(.t 16)]),
 (none, .mv 10 (.t 17))])
 (.seq (.seq (.ops [(none, .mv 11 (.c (.I 0)))])
 (.block 0 (.loop (.seq (.seq (.ops [(none, .mv 18 (.t 11)),
 (none, .mv 19 (.t 10)),
 (none, .len 20 (.t 19)),
 (none, .bin 21 .lss (.t 18) (.t 20))])
 (.cond (.t 21) (.skip)
 (.exit 0)))
 (.seq (.block 1 (.seq (.draw [⟨(none, .mv 24 (.t 10)), [], []⟩,
 ⟨(none, .mv 25 (.t 11)), [], []⟩,
 ⟨(none, .idxS 26 3 (.t 24) (.t 25)), [], []⟩,
 ⟨(none, .idxA 27 3 1 (.t 26) (.c (.I 2))), [], []⟩,
 ⟨(none, .load1 28 (.t 27)), [], []⟩,
 ⟨(none, .mv 29 (.t 3)), [], []⟩,
 ⟨(none, .mv 30 (.t 10)), [], []⟩,
 ⟨(none, .mv 31 (.t 11)), [], []⟩,
 ⟨(none, .idxS 32 3 (.t 30) (.t 31)), [], []⟩,
 ⟨(none, .idxA 33 3 1 (.t 32) (.c (.I 0))), [], []⟩,
 ⟨(none, .load1 34 (.t 33)), [], []⟩,
 ⟨(none, .mv 35 (.t 1)), [], []⟩,
 ⟨(none, .bin 36 .mul (.t 34) (.t 35)), [], []⟩,
 ⟨(none, .mv 37 (.t 10)), [], []⟩,
 ⟨(none, .mv 38 (.t 11)), [], []⟩,
 ⟨(none, .idxS 39 3 (.t 37) (.t 38)), [], []⟩,
 ⟨(none, .idxA 40 3 1 (.t 39) (.c (.I 1))), [], []⟩,
 ⟨(none, .load1 41 (.t 40)), [], []⟩,
 ⟨(none, .bin 42 .add (.t 36) (.t 41)), [], []⟩,
 ⟨(none, .idxS 43 1 (.t 29) (.t 42)), [], []⟩,
 ⟨(none, .load1 44 (.t 43)), [], []⟩,
 ⟨(none, .bin 45 .lss (.t 28) (.t 44)), [], []⟩])
 (.cond (.t 45) (.draw [⟨(none, .fieldAddr 46 (.t 9) 3), [], []⟩,
 ⟨(none, .load1 47 (.t 46)), [], []⟩,
 ⟨(none, .mv 48 (.t 10)), [], []⟩,
 ⟨(none, .mv 49 (.t 11)), [], []⟩,
 ⟨(none, .idxS 50 3 (.t 48) (.t 49)), [], []⟩,
 ⟨(none, .loadN 51 3 (.t 50)), [], []⟩,
 ⟨(none, .buildSl 52 1 3 [(.I 0), (.I 0), (.I 0)] [(0, 3, (.t 51))]), [], []⟩,
 ⟨(none, .append 53 3 24 (.t 47) (.t 52)), [], []⟩,
 ⟨(none, .fieldAddr 54 (.t 9) 3), [], []⟩,
 ⟨(none, .store 1 (.t 54) (.t 53)), [], []⟩])
 (.skip))))
 (.ops [(none, .mv 22 (.t 11)),
 (none, .bin 23 .add (.t 22) (.c (.I 1))),
 (none, .mv 11 (.t 23))]))))))
 (.seq (.ops [(none, .loadN 55 4 (.t 9)),
 (none, .store 4 (.t 8) (.t 55))])
 (.ret)))))⟩
end Go.Ab.C

namespace Go.Ab.K
open Go Go.Ab
theorem spec_OtherCells : prepF Go.Proofs.Try.prog F.spec_OtherCells = some C.spec_OtherCells := by kernel_rfl
theorem spec_l2Stack : prepF Go.Proofs.Try.prog F.spec_l2Stack = some C.spec_l2Stack := by kernel_rfl
end Go.Ab.K

namespace Go.Ab.C
open Go.Ab
end Go.Ab.C

namespace Go.Ab.K
open Go Go.Ab
end Go.Ab.K

namespace Go.Ab.C
open Go.Ab
end Go.Ab.C

namespace Go.Ab.K
open Go Go.Ab
end Go.Ab.K

namespace Go.Ab.C
open Go.Ab
end Go.Ab.C

namespace Go.Ab.K
open Go Go.Ab
end Go.Ab.K

namespace Go.Ab
open Go Go.RowKit

def NoOwn (M : Mem) : Prop := ∀ t b, Live M t b → b.isOwn = false

theorem law_callsR {P : Program} {f : FuncId} {args : List LV} {M : Mem} {b : Bool} {G : Gh} {w : World} {xs : List Value} (hc : CallsR P f args M fun v _ => v = .B b) (hi : Inv G M w) (hn : NoOwn M) (hx : All2 (VR G) args xs) :
    Calls P f xs.toArray w fun e w' => e = .returned (.bool b) ∧ Below w.heap.size w w' := by
  refine (hc.2 G w xs hi hx).mono ?_
  rintro e w' ⟨v, N, x, G', rfl, rfl, h1, h2, h3⟩
  refine ⟨by rw [(vr_val h1).1], h3.os, h3.tape, h3.output, h3.size, fun k hk => h3.keep k hk ?_⟩
  rintro ⟨t, blk, β, hl, ho, _⟩
  rw [hn t blk hl] at ho; cases ho
end Go.Ab

namespace Go.Ab
open Go Go.RowKit

section
variable {H : Type} {enc : TypeId × Value → H} {P : Program} {w : World} {held : Bool}

def RowOf (w : World) (a : Option Addr) (len cap : Nat) (cs : List Cell) : Prop :=
  cs.length = len ∧ len ≤ cap ∧ cap ≤ maxLen ∧ (cap = 0 ∨ ∃ b o c e fz, a = some ⟨b, o, none⟩ ∧ w.heap[b]? = some (.cells c e fz) ∧ ∀ i, i < len → ∀ j v, (cs.getD i default).row[j]? = some (.I v) → c[o + (i * 3 + j)]? = some (.int .i64 v))

theorem cell_heap {a : Addr} {v : Value} (h : w.cell? a = some v) : ∃ b o c e fz, a = ⟨b, o, none⟩ ∧ w.heap[b]? = some (.cells c e fz) ∧ c[o]? = some v := by
  unfold World.cell? at h
  split at h
  · rename_i c e fz hh
    split at h
    · cases h
    · rename_i hs
      obtain ⟨b, o, s⟩ := a
      cases s with
      | some s => simp at hs
      | none => exact ⟨b, o, c, e, fz, rfl, hh, h⟩
  · cases h

end

theorem Inv.addRow {G : Gh} {M : Mem} {w : World} (hi : Inv G M w) (hno : NoOwn M) {a : Option Addr} {len cap esz : Nat} {ls : List LV} (hl : len ≤ cap) (hll : ls.length ≤ cap * esz)
    (h : (cap = 0 ∧ ls = []) ∨ ∃ b o c e fz, a = some ⟨b, o, none⟩ ∧ w.heap[b]? = some (.cells c e fz) ∧ ∀ j l, ls[j]? = some l → ∃ x, c[o + j]? = some x ∧ VR1 G l x) :
    ∃ G', Ext G G' ∧ Inv G' (M ++ [some (.row ls false esz)]) w ∧ NoOwn (M ++ [some (.row ls false esz)]) ∧ VR1 G' (.ref M.length 0 len) (.slice a len cap) := by
  obtain ⟨β, hβ, hv⟩ : ∃ β : Base, (∀ G' : Gh, Ext G G' → EmbB G' w (.row ls false esz) β) ∧ (∀ G' : Gh, G' M.length = some β → VR1 G' (.ref M.length 0 len) (.slice a len cap)) := by
    rcases h with ⟨rfl, rfl⟩ | ⟨b, o, c, e, fz, rfl, hh, hc⟩
    · refine ⟨⟨0, 0, esz, 0, true⟩, fun G' _ => ⟨rfl, .inl ⟨rfl, rfl⟩⟩, fun G' hg => ⟨_, hg, a, 0, rfl, .inl ⟨by omega, rfl⟩⟩⟩
    · refine ⟨⟨b, o, esz, cap * esz, false⟩, fun G' hx => ⟨rfl, .inr ⟨rfl, c, e, fz, hh, (fun h => by cases h), hll, fun j l hj => ?_⟩⟩, fun G' hg => ⟨_, hg, _, cap, rfl, .inr ⟨rfl, rfl, hl, by simp⟩⟩⟩
      obtain ⟨x, h1, h2⟩ := hc j l hj
      exact ⟨x, h1, h2.ext hx⟩
  have hx : Ext G (G.put M.length β) := Gh.put_ext (hi.top _ (Nat.le_refl _))
  have hat : (G.put M.length β) M.length = some β := by simp [Gh.put]
  have hno' : NoOwn (M ++ [some (.row ls false esz)]) := fun t b hb => by
    rcases live_push hb with ⟨_, h1⟩ | ⟨_, rfl⟩
    · exact hno t b h1
    · rfl
  refine ⟨G.put M.length β, hx, ⟨fun t b hb => ?_, fun t t' b b' γ γ' _ hb _ ho => ?_, fun t ht => ?_⟩, hno', hv _ hat⟩
  · rcases live_push hb with ⟨hlt, h1⟩ | ⟨rfl, rfl⟩
    · obtain ⟨γ, hg, he⟩ := hi.emb t b h1
      exact ⟨γ, hx _ _ hg, he.ext hx fun _ => rfl⟩
    · exact ⟨β, hat, hβ _ hx⟩
  · rw [hno' t b hb] at ho; cases ho
  · simp at ht
    unfold Gh.put
    rw [if_neg (by omega)]
    exact hi.top t (by omega)

theorem Inv.none (w : World) : Inv (fun _ => Option.none) [] w := ⟨fun t b h => by unfold Live at h; simp at h, fun t t' b b' _ _ _ h => by unfold Live at h; simp at h, fun _ _ => rfl⟩
theorem NoOwn.none : NoOwn [] := fun t b h => by unfold Live at h; simp at h

end Go.Ab

namespace Go.Ab
open Go Go.RowKit Go.Joins Go.ChangeShapes Go.WideShapes Go.Deep Go.WideElems Go.Maps

def RowOfI (w : World) (a : Option Addr) (len cap : Nat) (xs : List Int) : Prop :=
  xs.length = len ∧ len ≤ cap ∧ cap ≤ maxLen ∧ (cap = 0 ∨ ∃ b o c e fz, a = some ⟨b, o, none⟩ ∧ w.heap[b]? = some (.cells c e fz) ∧ ∀ i, i < len → c[o + i]? = some (.int .i64 (xs.getD i 0)))

section
variable {H : Type} {enc : TypeId × Value → H} {P : Program} {w : World} {held : Bool}
end

section
variable {H : Type} {enc : TypeId × Value → H} {P : Program} {w : World} {base : Nat} {spare : Nat → Bool} {held : Bool}
end
end Go.Ab

namespace Go.Ab
open Go Go.RowKit Go.Joins Go.ChangeShapes Go.WideShapes Go.Deep Go.WideElems Go.Maps

def Pcs (M : Mem) (t : Nat) (L : List (List Cell)) : Prop := ∃ refs, Has M t 0 refs ∧ refs.length = L.length ∧ ∀ i, i < L.length → ∃ u o, refs[i]? = some (.ref u o (L.getD i []).length) ∧ Tri M u o (L.getD i [])
theorem Pcs.pre {M N : Mem} {t : Nat} {L : List (List Cell)} (h : Pcs M t L) (hp : Pre M N) : Pcs N t L := by
  obtain ⟨refs, h1, h2, h3⟩ := h
  exact ⟨refs, h1.pre hp, h2, fun i hi => by obtain ⟨u, o, a, b⟩ := h3 i hi; exact ⟨u, o, a, b.pre hp⟩⟩
theorem Pcs.app {M K : Mem} {t : Nat} {L : List (List Cell)} (h : Pcs M t L) : Pcs (M ++ K) t L := h.pre (Pre.app _ _)
theorem Pcs.lt {M : Mem} {t : Nat} {L : List (List Cell)} (h : Pcs M t L) : t < M.length := by obtain ⟨refs, h1, _⟩ := h; exact h1.lt
theorem Pcs.get {M : Mem} {t i : Nat} {L : List (List Cell)} (h : Pcs M t L) (hi : i < L.length) : ∃ u o, getCell M t i = some (.ref u o (L.getD i []).length) ∧ Tri M u o (L.getD i []) := by
  obtain ⟨refs, h1, h2, h3⟩ := h
  obtain ⟨u, o, a, b⟩ := h3 i hi
  refine ⟨u, o, ?_, b⟩
  have := h1.get (k := i) (by omega)
  rw [Nat.zero_add] at this
  rw [this, a]

def RowOfSS (w : World) (a : Option Addr) (len cap : Nat) (L : List (List Cell)) : Prop :=
  L.length = len ∧ len ≤ cap ∧ cap ≤ maxLen ∧ (cap = 0 ∨ ∃ b o c e fz, a = some ⟨b, o, none⟩ ∧ w.heap[b]? = some (.cells c e fz) ∧ ∀ i, i < len → ∃ a' len' cap', c[o + i]? = some (.slice a' len' cap') ∧ RowOf w a' len' cap' (L.getD i []))
section
variable {H : Type} {enc : TypeId × Value → H} {P : Program} {w : World} {held : Bool}
end
end Go.Ab
namespace Go.Ab
open Go
theorem max63 : maxLen ≤ 9223372036854775807 := by unfold maxLen; omega
theorem RowOf.le {w : World} {a : Option Addr} {len cap : Nat} {cs : List Cell} (h : RowOf w a len cap cs) : cs.length ≤ 9223372036854775807 := by
  obtain ⟨h0, h1, h2, _⟩ := h
  have := max63; omega
theorem RowOfI.le {w : World} {a : Option Addr} {len cap : Nat} {cs : List Int} (h : RowOfI w a len cap cs) : cs.length ≤ 9223372036854775807 := by
  obtain ⟨h0, h1, h2, _⟩ := h
  have := max63; omega
theorem RowOfSS.le {w : World} {a : Option Addr} {len cap : Nat} {L : List (List Cell)} (h : RowOfSS w a len cap L) : L.length ≤ 9223372036854775807 ∧ ∀ l ∈ L, l.length ≤ 9223372036854775807 := by
  obtain ⟨h0, h1, h2, h3⟩ := h
  have := max63
  refine ⟨by omega, fun l hl => ?_⟩
  obtain ⟨i, hi, rfl⟩ := List.getElem_of_mem hl
  rcases h3 with h3 | ⟨b, o, c, e, fz, _, _, h3⟩
  · omega
  · obtain ⟨a', l', c', _, h4⟩ := h3 i (by omega)
    have := h4.le
    simpa [hi] using this
end Go.Ab

namespace Go.Ab.C
open Go.Ab
end Go.Ab.C

namespace Go.Ab.K
open Go Go.Ab
end Go.Ab.K

namespace Go.Ab.C
open Go.Ab
def spec_l2Long : AFn :=
 ⟨2, 14, [.tmp 4],
 .seq (.ops [(none, .box 2 (.t 0)),
 (none, .mv 4 (.c (.I 0)))])
 (.seq (.ops [(none, .fieldAddr 5 (.t 2) 0),
 (none, .load1 6 (.t 5)),
 (none, .fieldAddr 7 (.t 2) 1),
 (none, .load1 8 (.t 7)),
 (none, .fieldAddr 9 (.t 2) 2),
 (none, .load1 10 (.t 9)),
 (none, .build 11 [(.I 0), (.I 0), (.I 0)] [(0, 1, (.t 6)), (1, 1, (.t 8)), (2, 1, (.t 10))]),
 (none, .mv 12 (.t 1)),
 (none, .index 13 3 1 false (.t 11) (.t 12)),
 (none, .mv 4 (.t 13))])
 (.ret))⟩
end Go.Ab.C

namespace Go.Ab.K
open Go Go.Ab
theorem spec_l2Long : prepF Go.Proofs.Try.prog F.spec_l2Long = some C.spec_l2Long := by kernel_rfl
end Go.Ab.K

namespace Go.Ab
open Go

structure Hp where
  x : Int
  y : Int
  z : Int
  cs : List Cell
def Hp.none : Hp := ⟨0, 0, 0, []⟩
abbrev Hp.row (r : Hp) (w : LV) : Blk := .row [.I r.x, .I r.y, .I r.z, w] true 0
def HeapRes (M : Mem) (r : Option Hp) (ext : List LV) (v : LV) (N : Mem) : Prop :=
  ∃ w, v = .tup (.agg [.I (r.getD Hp.none).x, .I (r.getD Hp.none).y, .I (r.getD Hp.none).z, w] :: (ext ++ [.B r.isSome])) ∧ SlC N w (r.getD Hp.none).cs ∧ Newer M w ∧ Pre M N
theorem Older.off {M : Mem} {v : LV} {u : Nat} (h : Older M v) (hu : M.length ≤ u) : Off v u := by
  cases v with
  | ref t o n => have := h t o n rfl; show u ≠ t; omega
  | _ => trivial
end Go.Ab

namespace Go.Ab
open Go

def Cell.at (c : Cell) (d : Int) : Int := if d = 0 then c.a else if d = 1 then c.b else c.c
def Dir (d : Int) : Prop := d = 0 ∨ d = 1 ∨ d = 2
def oddOf (c : Cell) : Int := ((if c.a > c.b then 1 else 0) + (if c.a > c.c then 1 else 0) + (if c.b > c.c then 1 else 0)) % 2
structure Turn where
  fr : Cell
  fl : Cell
deriving DecidableEq
def Turn.row (t : Turn) : List LV := t.fr.row ++ t.fl.row
def sixL (l : List Turn) : List LV := l.flatMap Turn.row
def turnAt (n : Nat) : Option Turn :=
  if n / 24 ≠ n / 8 % 3 ∧ oddOf ⟨n / 24, n / 8 % 3, 3 - n / 24 - n / 8 % 3⟩ = (n % 8 / 4 + n % 8 / 2 % 2 + n % 8 % 2) % 2 then
    some ⟨⟨n / 24, n / 8 % 3, 3 - n / 24 - n / 8 % 3⟩, ⟨n % 8 / 4, n % 8 / 2 % 2, n % 8 % 2⟩⟩ else none
def turnsU (n : Nat) : List Turn := (List.range n).filterMap turnAt
def turns : List Turn := turnsU 72
theorem sixL_len (l : List Turn) : (sixL l).length = l.length * 6 := by
  induction l with
  | nil => rfl
  | cons t l ih => rw [show sixL (t :: l) = t.row ++ sixL l from rfl, List.length_append, ih, List.length_cons]; simp [Turn.row, Cell.row]; omega
theorem sixL_at {l : List Turn} : ∀ {k : Nat}, (hk : k < l.length) → ((sixL l).drop (k * 6)).take 6 = l[k].row := by
  induction l with
  | nil => intro k hk; simp at hk
  | cons t l ih =>
    intro k hk
    have e : sixL (t :: l) = t.row ++ sixL l := rfl
    have hr : t.row.length = 6 := rfl
    cases k with
    | zero => rw [e, Nat.zero_mul, List.drop_zero, List.take_append_of_le_length (by omega), List.take_of_length_le (by omega)]; rfl
    | succ k =>
      rw [e, List.drop_append, List.drop_eq_nil_of_le (by omega), List.nil_append, hr, show (k + 1) * 6 - 6 = k * 6 by omega, ih (by simpa using hk)]
      rfl

def sideOf (x y z d : Int) : Int := if d = 0 then x else if d = 1 then y else z
def turnC (x y z : Int) (c : Cell) (s f : Int) : Int := if f = 1 then sideOf x y z s - 1 - c.at s else c.at s
def mapT (x y z : Int) (t : Turn) (c : Cell) : Cell := ⟨turnC x y z c t.fr.a t.fl.a, turnC x y z c t.fr.b t.fl.b, turnC x y z c t.fr.c t.fl.c⟩
def OkT (t : Turn) : Prop := Dir t.fr.a ∧ Dir t.fr.b ∧ Dir t.fr.c
instance (d : Int) : Decidable (Dir d) := by unfold Dir; exact inferInstance
instance (t : Turn) : Decidable (OkT t) := by unfold OkT; exact inferInstance
def turnHp (x y z : Int) (t : Turn) (cs : List Cell) : Hp := ⟨sideOf x y z t.fr.a, sideOf x y z t.fr.b, sideOf x y z t.fr.c, pick (sideOf x y z t.fr.a) (sideOf x y z t.fr.b) (sideOf x y z t.fr.c) fun d => decide (d ∈ cs.map (mapT x y z t))⟩
section
variable {x y z : Int}
theorem sideOf_in (hS : Sides x y z) (d : Int) : 1 ≤ sideOf x y z d ∧ sideOf x y z d ≤ 4 := by
  obtain ⟨hx, hy, hz⟩ := hS
  unfold sideOf; split <;> (try split) <;> omega
theorem at_in {c : Cell} (hc : c.inBox x y z) (d : Int) : 0 ≤ c.at d ∧ c.at d < sideOf x y z d := by
  obtain ⟨⟨_, _⟩, ⟨_, _⟩, ⟨_, _⟩⟩ := hc
  unfold Cell.at sideOf; split <;> (try split) <;> omega
end
end Go.Ab

namespace Go.Ab
open Go

theorem h_l2Long {x y z d : Int} {v : LV} {M : Mem} (hd : Dir d) : CallsTo PG F.spec_l2Long [.agg [.I x, .I y, .I z, v], .I d] M (.I (sideOf x y z d)) M := by
  refine calls_run K.spec_l2Long rfl ?_
  rcases hd with rfl | rfl | rfl
  all_goals
    simp (disch := omega) only [C.spec_l2Long, splice, ↓SXd, SXu, slBounds, ↓sop, ↓aop, ↓reduceIte, LV.cells, AOp.dst, LV.I, LV.B, LV.U, LV.S, LV.nil, Nat.reduceEqDiff, Nat.reduceAdd, Nat.reduceMul, Nat.reduceSub, Nat.reduceLeDiff, Nat.reduceBEq, Nat.reduceDiv, Nat.reduceMod, Int.reduceToNat, Int.reduceLT, Int.reduceLE, Int.reduceAdd, Int.reduceSub, Int.reduceMul, Int.reduceEq, Int.reduceNeg, reduceCtorEq, resV, resAll, ARes.ev, LV.flat, ite_true, ite_false, exists_eq_left', exists_eq_left, keyOf, implies_true, fillC, capOf]
    exact cmp_drop rfl

def oddK (c : Cell) (i k : Nat) : Int := (if (1 < i ∨ (i = 1 ∧ 0 < k)) ∧ c.a > c.b then 1 else 0) + (if (2 < i ∨ (i = 2 ∧ 0 < k)) ∧ c.a > c.c then 1 else 0) + (if (2 < i ∨ (i = 2 ∧ 1 < k)) ∧ c.b > c.c then 1 else 0)
theorem Cell.row_at {c : Cell} {j : Nat} (hj : j < 3) : c.row[j]? = some (.I (c.at j)) := by
  rcases (show j = 0 ∨ j = 1 ∨ j = 2 by omega) with rfl | rfl | rfl <;> rfl
end Go.Ab

namespace Go.Ab
open Go

theorem Tri.gets_at {M : Mem} {t o k : Nat} {cs : List Cell} {s : Int} (h : Tri M t o cs) (hk : k < cs.length) (hs : Dir s) : getCell M t (o + k * 3 + s.toNat) = some (.I ((cs.getD k default).at s)) := by
  rcases hs with rfl | rfl | rfl
  · exact Tri.get_a h hk
  · exact Tri.get_b h hk
  · exact Tri.get_c h hk

theorem memK_at {M : Mem} {t j e : Nat} {old : List LV} {v : LV} {A : Mem → Prop} (ht : Live M t (.row old true e)) (hj : j < old.length)
    (hA : ∀ M', M'.length = M.length → Live M' t (.row (old.set j v) true e) → (∀ u, u ≠ t → u < M.length → M'[u]? = M[u]?) → A M') : memK (setCells M t j [v]) A := by
  rw [ht.setC, if_pos (by simp; omega), splice_1 hj]
  exact hA _ (by simp) ht.set_eq fun u hu _ => List.getElem?_set_ne (fun e => hu e.symm)
def partC (c : Cell) (d : Nat) : Cell := ⟨if 0 < d then c.a else 0, if 1 < d then c.b else 0, if 2 < d then c.c else 0⟩
end Go.Ab

namespace Go.Ab.C
open Go.Ab
end Go.Ab.C

namespace Go.Ab.K
open Go Go.Ab
end Go.Ab.K

namespace Go.Ab
open Go

def Small (c : Cell) : Prop := (-100 ≤ c.a ∧ c.a ≤ 100) ∧ (-100 ≤ c.b ∧ c.b ≤ 100) ∧ (-100 ≤ c.c ∧ c.c ≤ 100)
def shift (p c : Cell) : Cell := ⟨c.a + p.a, c.b + p.b, c.c + p.c⟩
def loC (c d : Cell) : Cell := ⟨min c.a d.a, min c.b d.b, min c.c d.c⟩
def hiC (c d : Cell) : Cell := ⟨max c.a d.a, max c.b d.b, max c.c d.c⟩
def lowOf (cs : List Cell) : Cell := cs.foldl loC (cs.getD 0 default)
def highOf (cs : List Cell) : Cell := cs.foldl hiC (cs.getD 0 default)
def cropHp (cs : List Cell) : Hp := ⟨(highOf cs).a - (lowOf cs).a + 1, (highOf cs).b - (lowOf cs).b + 1, (highOf cs).c - (lowOf cs).c + 1, cs.map (shift ⟨0 - (lowOf cs).a, 0 - (lowOf cs).b, 0 - (lowOf cs).c⟩)⟩
def mixC (c e : Cell) (d : Nat) : Cell := ⟨if 0 < d then e.a else c.a, if 1 < d then e.b else c.b, if 2 < d then e.c else c.c⟩
end Go.Ab

namespace Go.Ab
open Go
set_option maxRecDepth 20000

def minC (s c : Cell) : Cell := ⟨min s.a c.a, min s.b c.b, min s.c c.c⟩
def lowC (s : Cell) (l : List Cell) : Cell := l.foldl minC s
def PieceOK (l : List Cell) : Prop := (1 ≤ l.length ∧ l.length ≤ 5) ∧ HeapOK 4 4 4 l ∧ lowC ⟨4, 4, 4⟩ l = ⟨0, 0, 0⟩
noncomputable instance (l : List Cell) : Decidable (PieceOK l) := Classical.propDecidable _
def minTo (s c : Cell) : Nat → Cell
  | 0 => s
  | 1 => ⟨min s.a c.a, s.b, s.c⟩
  | 2 => ⟨min s.a c.a, min s.b c.b, s.c⟩
  | _ => minC s c
end Go.Ab

namespace Go.Ab
open Go
set_option maxRecDepth 20000

def PcsOK (L : List (List Cell)) : Prop := ∀ l ∈ L, PieceOK l
def AskOK (x y z : Int) (cs : List Cell) (L : List (List Cell)) : Prop := PcsOK L ∧ HeapOK x y z cs ∧ L.length ≤ 8
noncomputable instance (L : List (List Cell)) : Decidable (PcsOK L) := Classical.propDecidable _
noncomputable instance (x y z : Int) (cs : List Cell) (L : List (List Cell)) : Decidable (AskOK x y z cs L) := Classical.propDecidable _
section
variable {x y z : Int} {t o u : Nat} {cs : List Cell} {L : List (List Cell)} {M : Mem} (hP : Pcs M u L) (hL : L.length ≤ 1000000000) (hLs : ∀ l ∈ L, l.length ≤ 1000000000)
include hP hL hLs
end
end Go.Ab

namespace Go.Ab
open Go

end Go.Ab

namespace Go.Ab
open Go
set_option maxRecDepth 20000

def par1 (c : Cell) : Int := 1 - 2 * ((c.a + c.b + c.c).tmod 2)
def parL : List Cell → Int
  | [] => 0
  | c :: l => par1 c + parL l
section
variable {l : List Cell} {t o : Nat} {M : Mem} (h : Tri M t o l) (hn : l.length ≤ 64) (hin : ∀ c ∈ l, c.inBox 4 4 4)
include h hn hin
end
def freeP (cs : List Cell) (c : Cell) : Bool := !decide (c ∈ cs)
theorem box4 {x y z : Int} (hS : Sides x y z) {c : Cell} (hc : c.inBox x y z) : c.inBox 4 4 4 := by
  obtain ⟨hx, hy, hz⟩ := hS
  obtain ⟨⟨_, _⟩, ⟨_, _⟩, ⟨_, _⟩⟩ := hc
  unfold Cell.inBox; omega
section
variable {x y z : Int} {t o : Nat} {cs : List Cell} {M : Mem} (h : Tri M t o cs) (hH : HeapOK x y z cs)
include h hH
end
end Go.Ab

namespace Go.Ab.C
open Go.Ab
def spec_l2Others : AFn :=
 ⟨1, 9, [.tmp 2, .tmp 3],
 .seq (.ops [(none, .mv 2 (.c (.I 0))),
 (none, .mv 3 (.c (.I 0)))])
 (.seq (.seq (.ops [(none, .mv 4 (.t 0))])
 (.block 0 (.seq (.ops [(none, .bin 6 .eql (.t 4) (.c (.I 0))),
 (none, .mv 5 (.t 6))])
 (.cond (.t 5) (.seq (.ops [(none, .mv 2 (.c (.I 1))),
 (none, .mv 3 (.c (.I 2)))])
 (.ret))
 (.seq (.ops [(none, .bin 8 .eql (.t 4) (.c (.I 1))),
 (none, .mv 7 (.t 8))])
 (.cond (.t 7) (.seq (.ops [(none, .mv 2 (.c (.I 0))),
 (none, .mv 3 (.c (.I 2)))])
 (.ret))
 (.skip)))))))
 (.seq (.ops [(none, .mv 2 (.c (.I 0))),
 (none, .mv 3 (.c (.I 1)))])
 (.ret)))⟩
def spec_l2View : AFn :=
 ⟨2, 54, [.tmp 4],
 .seq (.ops [(none, .box 2 (.t 0)),
 (none, .mv 4 (.c .nil))])
 (.seq (.ops [(none, .mv 10 (.t 1)),
 (none, .call (some 11) F.spec_l2Others [(.t 10)]),
 (none, .mv 9 (.t 11)),
 (none, .extract 12 (.t 9) 0),
 (none, .extract 13 (.t 9) 1),
 (none, .mv 5 (.t 12)),
 (none, .mv 6 (.t 13))])
 (.seq (.draw [⟨(none, .loadN 14 4 (.t 2)), [], []⟩,
 ⟨(none, .mv 15 (.t 5)), [], []⟩,
 ⟨(none, .loadN 17 4 (.t 2)), [], []⟩,
 ⟨(none, .mv 18 (.t 6)), [], []⟩,
 ⟨(none, .call (some 16) F.spec_l2Long [(.t 14), (.t 15)]), [], [2, 3]⟩,
 ⟨(none, .call (some 19) F.spec_l2Long [(.t 17), (.t 18)]), [], []⟩,
 ⟨(none, .bin 20 .mul (.t 16) (.t 19)), [], []⟩,
 ⟨(none, .mksl 21 1 8 [(.I 0)] (.t 20) (.t 20)), [], []⟩,
 ⟨(none, .mv 7 (.t 21)), [], []⟩])
 (.seq (.seq (.ops [(none, .mv 8 (.c (.I 0)))])
 (.block 0 (.loop (.seq (.seq (.ops [(none, .mv 22 (.t 8)),
 (none, .fieldAddr 23 (.t 2) 3),
 (none, .load1 24 (.t 23)),
 (none, .len 25 (.t 24)),
 (none, .bin 26 .lss (.t 22) (.t 25))])
 (.cond (.t 26) (.skip)
 (.exit 0)))
 (.seq (.block 1 (.draw [⟨(none, .mv 29 (.t 7)), [], []⟩,
 ⟨(none, .fieldAddr 30 (.t 2) 3), [], []⟩,
 ⟨(none, .load1 31 (.t 30)), [], []⟩,
 ⟨(none, .mv 32 (.t 8)), [], []⟩,
 ⟨(none, .mv 33 (.t 5)), [], []⟩,
 ⟨(none, .idxS 34 3 (.t 31) (.t 32)), [], []⟩,
 ⟨(none, .idxA 35 3 1 (.t 34) (.t 33)), [], []⟩,
 ⟨(none, .load1 36 (.t 35)), [], []⟩,
 ⟨(none, .loadN 37 4 (.t 2)), [], []⟩,
 ⟨(none, .mv 38 (.t 6)), [], []⟩,
 ⟨(none, .fieldAddr 41 (.t 2) 3), [], []⟩,
 ⟨(none, .load1 42 (.t 41)), [], []⟩,
 ⟨(none, .mv 43 (.t 8)), [], []⟩,
 ⟨(none, .mv 44 (.t 6)), [], []⟩,
 ⟨(none, .idxS 45 3 (.t 42) (.t 43)), [], []⟩,
 ⟨(none, .idxA 46 3 1 (.t 45) (.t 44)), [], []⟩,
 ⟨(none, .load1 47 (.t 46)), [], []⟩,
 ⟨(none, .call (some 39) F.spec_l2Long [(.t 37), (.t 38)]), [], [0, 1, 2, 3, 4, 5, 6, 7, 10, 11, 12, 13, 14, 15, 16]⟩,
 ⟨(none, .bin 40 .mul (.t 36) (.t 39)), [], []⟩,
 ⟨(none, .bin 48 .add (.t 40) (.t 47)), [], []⟩,
 ⟨(none, .idxS 49 1 (.t 29) (.t 48)), [], []⟩,
 ⟨(none, .load1 50 (.t 49)), [], []⟩,
 ⟨(none, .bin 51 .add (.t 50) (.c (.I 1))), [], []⟩,
 ⟨(none, .idxS 52 1 (.t 29) (.t 48)), [], []⟩,
 ⟨(none, .store 1 (.t 52) (.t 51)), [], []⟩]))
 (.ops [(none, .mv 27 (.t 8)),
 (none, .bin 28 .add (.t 27) (.c (.I 1))),
 (none, .mv 8 (.t 28))]))))))
 (.seq (.ops [(none, .mv 53 (.t 7)),
 (none, .mv 4 (.t 53))])
 (.ret)))))⟩
end Go.Ab.C

namespace Go.Ab.K
open Go Go.Ab
theorem spec_l2Others : prepF Go.Proofs.Try.prog F.spec_l2Others = some C.spec_l2Others := by kernel_rfl
theorem spec_l2View : prepF Go.Proofs.Try.prog F.spec_l2View = some C.spec_l2View := by kernel_rfl
end Go.Ab.K

namespace Go.Ab.C
open Go.Ab
end Go.Ab.C

namespace Go.Ab.K
open Go Go.Ab
end Go.Ab.K

namespace Go.Ab
open Go

def viewStep (y z : Int) (d : Nat) (v : List Int) (c : Cell) : List Int := v.set (lineOf y z c d).toNat (v.getD (lineOf y z c d).toNat 0 + 1)
def viewL (x y z : Int) (d : Nat) (cs : List Cell) : List Int := cs.foldl (viewStep y z d) (List.replicate (linesOf x y z d).toNat 0)
theorem foldl_len {y z : Int} {d : Nat} : ∀ {cs : List Cell} {v : List Int}, (cs.foldl (viewStep y z d) v).length = v.length
  | [], _ => rfl
  | c :: cs, v => by rw [List.foldl_cons, foldl_len]; simp [viewStep]
theorem viewL_len {x y z : Int} {d : Nat} {cs : List Cell} : (viewL x y z d cs).length = (linesOf x y z d).toNat := by unfold viewL; rw [foldl_len]; simp
theorem fold_bound {y z : Int} {d : Nat} : ∀ {cs : List Cell} {v : List Int} {n : Int}, (∀ j, 0 ≤ v.getD j 0 ∧ v.getD j 0 ≤ n) → ∀ j, 0 ≤ (cs.foldl (viewStep y z d) v).getD j 0 ∧ (cs.foldl (viewStep y z d) v).getD j 0 ≤ n + cs.length
  | [], v, n, h, j => by have := h j; simp only [List.foldl_nil, List.length_nil]; omega
  | c :: cs, v, n, h, j => by
    rw [List.foldl_cons]
    have := fold_bound (y := y) (z := z) (d := d) (cs := cs) (v := viewStep y z d v c) (n := n + 1) (fun i => by
      have h1 := h i
      have h2 := h (lineOf y z c d).toNat
      unfold viewStep
      rw [List.getD_eq_getElem?_getD, List.getElem?_set]
      split
      · split
        · simp only [Option.getD_some]; omega
        · simp; omega
      · rw [← List.getD_eq_getElem?_getD]; omega) j
    simp only [List.length_cons]; omega
theorem take_foldl {y z : Int} {d i : Nat} {cs : List Cell} {v : List Int} (h : i < cs.length) : (cs.take (i + 1)).foldl (viewStep y z d) v = viewStep y z d ((cs.take i).foldl (viewStep y z d) v) (cs.getD i default) := by
  rw [List.take_succ, List.getElem?_eq_getElem h, Option.toList_some, List.foldl_append]
  have e : cs.getD i default = cs[i] := by simp [h]
  rw [e]; rfl

end Go.Ab

namespace Go.Ab
open Go
set_option maxRecDepth 20000

theorem h_l2Others {d : Nat} {M : Mem} (hd : d < 3) : CallsTo PG F.spec_l2Others [.I d] M (.tup [.I (if d = 0 then 1 else 0), .I (if d = 2 then 1 else 2)]) M := by
  refine calls_run K.spec_l2Others rfl ?_
  rcases (show d = 0 ∨ d = 1 ∨ d = 2 by omega) with rfl | rfl | rfl
  all_goals
    simp (disch := omega) only [C.spec_l2Others, ↓SXd, SXu, slBounds, ↓sop, ↓aop, ↓reduceIte, LV.cells, AOp.dst, LV.I, LV.B, LV.U, LV.S, LV.nil, Nat.reduceEqDiff, Nat.reduceAdd, Nat.reduceMul, Nat.reduceSub, Nat.reduceLeDiff, Nat.reduceBEq, Nat.reduceDiv, Nat.reduceMod, Int.reduceToNat, Int.reduceLT, Int.reduceLE, Int.reduceAdd, Int.reduceSub, Int.reduceMul, Int.reduceEq, Int.reduceNeg, reduceCtorEq, resV, resAll, ARes.ev, LV.flat, ite_true, ite_false, exists_eq_left', exists_eq_left, keyOf, implies_true, fillC, capOf]
    exact cmp_drop0 rfl
theorem h_l2View {x y z : Int} {d t o : Nat} {cs : List Cell} {M : Mem} (h : Tri M t o cs) (hH : HeapOK x y z cs) (hd : d < 3) : CallsTo PG F.spec_l2View [.agg [.I x, .I y, .I z, .ref t o cs.length], .I d] M (.ref M.length 0 (viewL x y z d cs).length) (M ++ [some (.row (intL (viewL x y z d cs)) true 1)]) := by
  have hS := hH.1
  have hlp : 1 ≤ linesOf x y z d ∧ linesOf x y z d ≤ 16 := by
    have := prod_le hS
    rcases (show d = 0 ∨ d = 1 ∨ d = 2 by omega) with rfl | rfl | rfl
    · exact this.2.2
    · exact this.2.1
    · exact this.1
  have hlen := hH.len
  have ht := h.lt
  have hz : ∀ j, 0 ≤ (List.replicate (linesOf x y z d).toNat (0 : Int)).getD j 0 ∧ (List.replicate (linesOf x y z d).toNat (0 : Int)).getD j 0 ≤ 0 := fun j => by
    rw [List.getD_eq_getElem?_getD, List.getElem?_replicate]; split <;> simp
  have hvl := viewL_len (x := x) (y := y) (z := z) (d := d) (cs := cs)
  have hda : Dir (if d = 0 then 1 else 0) := by unfold Dir; split <;> omega
  have hdb : Dir (if d = 2 then 1 else 2) := by unfold Dir; split <;> omega
  have hprod : sideOf x y z (if d = 0 then 1 else 0) * sideOf x y z (if d = 2 then 1 else 2) = linesOf x y z d := by
    rcases (show d = 0 ∨ d = 1 ∨ d = 2 by omega) with rfl | rfl | rfl <;> rfl
  have hline : ∀ c : Cell, c.at (if d = 0 then 1 else 0) * sideOf x y z (if d = 2 then 1 else 2) + c.at (if d = 2 then 1 else 2) = lineOf y z c d := fun c => by
    rcases (show d = 0 ∨ d = 1 ∨ d = 2 by omega) with rfl | rfl | rfl <;> rfl
  have hrA : 0 ≤ (if d = 0 then (1 : Int) else 0) ∧ (if d = 0 then (1 : Int) else 0) < 3 := by split <;> omega
  have hrB : 0 ≤ (if d = 2 then (1 : Int) else 2) ∧ (if d = 2 then (1 : Int) else 2) < 3 := by split <;> omega
  refine calls_run K.spec_l2View rfl ?_
  simp (disch := omega) only [C.spec_l2View, ↓SXd, SXu, slBounds, ↓sop, ↓aop, ↓reduceIte, LV.cells, AOp.dst, LV.I, LV.B, LV.U, LV.S, LV.nil, Nat.reduceEqDiff, Nat.reduceAdd, Nat.reduceMul, Nat.reduceSub, Nat.reduceLeDiff, Nat.reduceBEq, Nat.reduceDiv, Nat.reduceMod, Int.reduceToNat, Int.reduceLT, Int.reduceLE, Int.reduceAdd, Int.reduceSub, Int.reduceMul, Int.reduceEq, Int.reduceNeg, reduceCtorEq, resV, resAll, ARes.ev, LV.flat, ite_true, ite_false, exists_eq_left', exists_eq_left, keyOf, implies_true, fillC, capOf]
  refine callK_of (h_l2Others hd) ?_
  simp (disch := omega) only [↓SXd, SXu, slBounds, ↓sop, ↓aop, ↓reduceIte, LV.cells, AOp.dst, LV.I, LV.B, LV.U, LV.S, LV.nil, Nat.reduceEqDiff, Nat.reduceAdd, Nat.reduceMul, Nat.reduceSub, Nat.reduceLeDiff, Nat.reduceBEq, Nat.reduceDiv, Nat.reduceMod, Int.reduceToNat, Int.reduceLT, Int.reduceLE, Int.reduceAdd, Int.reduceSub, Int.reduceMul, Int.reduceEq, Int.reduceNeg, reduceCtorEq, resV, resAll, ARes.ev, LV.flat, ite_true, ite_false, exists_eq_left', exists_eq_left, keyOf, implies_true, fillC, capOf]
  generalize (if d = 0 then (1 : Int) else 0) = A at hda hprod hline hrA ⊢
  generalize (if d = 2 then (1 : Int) else 2) = B at hdb hprod hline hrB ⊢
  obtain ⟨rA1, rA2⟩ := hrA
  obtain ⟨rB1, rB2⟩ := hrB
  refine callK_of (h_l2Long hda) ?_
  simp (disch := omega) only [↓SXd, SXu, slBounds, ↓sop, ↓aop, ↓reduceIte, LV.cells, AOp.dst, LV.I, LV.B, LV.U, LV.S, LV.nil, Nat.reduceEqDiff, Nat.reduceAdd, Nat.reduceMul, Nat.reduceSub, Nat.reduceLeDiff, Nat.reduceBEq, Nat.reduceDiv, Nat.reduceMod, Int.reduceToNat, Int.reduceLT, Int.reduceLE, Int.reduceAdd, Int.reduceSub, Int.reduceMul, Int.reduceEq, Int.reduceNeg, reduceCtorEq, resV, resAll, ARes.ev, LV.flat, ite_true, ite_false, exists_eq_left', exists_eq_left, keyOf, implies_true, fillC, capOf]
  refine callK_of (h_l2Long hdb) ?_
  simp (disch := omega) only [hprod, made_int, ↓SXd, SXu, slBounds, ↓sop, ↓aop, ↓reduceIte, LV.cells, AOp.dst, LV.I, LV.B, LV.U, LV.S, LV.nil, Nat.reduceEqDiff, Nat.reduceAdd, Nat.reduceMul, Nat.reduceSub, Nat.reduceLeDiff, Nat.reduceBEq, Nat.reduceDiv, Nat.reduceMod, Int.reduceToNat, Int.reduceLT, Int.reduceLE, Int.reduceAdd, Int.reduceSub, Int.reduceMul, Int.reduceEq, Int.reduceNeg, reduceCtorEq, resV, resAll, ARes.ev, LV.flat, ite_true, ite_false, exists_eq_left', exists_eq_left, keyOf, implies_true, fillC, capOf]
  refine ev_loop (fun m fr M' => ∃ i : Nat, i + m = cs.length ∧ Pre M M' ∧ Live M' M.length (.row [.I x, .I y, .I z, .ref t o cs.length] true 0) ∧ Live M' (M.length + 1) (.row (intL ((cs.take i).foldl (viewStep y z d) (List.replicate (linesOf x y z d).toNat 0))) true 1) ∧
    fr 2 = .ptr M.length 0 ∧ fr 5 = .I A ∧ fr 6 = .I B ∧ fr 7 = .ref (M.length + 1) 0 (linesOf x y z d).toNat ∧ fr 8 = .I i) cs.length
    ⟨0, by omega, Pre.app _ _, Live.new, Live.newj rfl, rfl, rfl, rfl, rfl, rfl⟩ ?_
  rintro m fr M' ⟨i, hi, hpre, b2, bo, f2, f5, f6, f7, f8⟩
  simp (disch := omega) only [f2, f5, f6, f7, f8, b2.cell, ↓SXd, SXu, slBounds, ↓sop, ↓aop, ↓reduceIte, LV.cells, AOp.dst, LV.I, LV.B, LV.U, LV.S, LV.nil, Nat.reduceEqDiff, Nat.reduceAdd, Nat.reduceMul, Nat.reduceSub, Nat.reduceLeDiff, Nat.reduceBEq, Nat.reduceDiv, Nat.reduceMod, Int.reduceToNat, Int.reduceLT, Int.reduceLE, Int.reduceAdd, Int.reduceSub, Int.reduceMul, Int.reduceEq, Int.reduceNeg, reduceCtorEq, resV, resAll, ARes.ev, LV.flat, ite_true, ite_false, exists_eq_left', exists_eq_left, keyOf, implies_true, fillC, capOf]
  refine condC_dec (fun hlt => ?_) (fun hlt => ?_)
  · have hil : i < cs.length := by omega
    have hc := hH.mem (getD_mem' (d := default) hil)
    have gA := Tri.gets_at (h.pre hpre) hil hda
    have gB := Tri.gets_at (h.pre hpre) hil hdb
    have htf := take_foldl (y := y) (z := z) (d := d) (v := List.replicate (linesOf x y z d).toNat 0) hil
    have hbd := fold_bound (y := y) (z := z) (d := d) (cs := cs.take i) hz
    have hfl := foldl_len (y := y) (z := z) (d := d) (cs := cs.take i) (v := List.replicate (linesOf x y z d).toNat 0)
    have htl := List.length_take_le i cs
    rw [List.length_replicate] at hfl
    generalize cs.getD i default = c at gA gB hc htf
    generalize (cs.take i).foldl (viewStep y z d) (List.replicate (linesOf x y z d).toNat 0) = v at bo htf hbd hfl
    obtain ⟨l1, l2⟩ := lineOf_in hS hc hd
    obtain ⟨v1, v2⟩ := hbd (lineOf y z c d).toNat
    have hlt2 : (lineOf y z c d).toNat < v.length := by omega
    have hlc := hline c
    have aA := at_in hc A
    have aB := at_in hc B
    have sB := sideOf_in hS B
    have sA := sideOf_in hS A
    have hmul : 0 ≤ c.at A * sideOf x y z B ∧ c.at A * sideOf x y z B ≤ 16 := by
      rcases (show sideOf x y z B = 1 ∨ sideOf x y z B = 2 ∨ sideOf x y z B = 3 ∨ sideOf x y z B = 4 by omega) with e | e | e | e <;> rw [e] <;> omega
    have hcell := bo.cell (o := (lineOf y z c d).toNat)
    rw [intL_get hlt2] at hcell
    simp (disch := omega) only [f2, f5, f6, f7, f8, b2.cell, b2.cells, gA, gB, Nat.mul_one, Nat.zero_add, ↓SXd, SXu, slBounds, ↓sop, ↓aop, ↓reduceIte, LV.cells, AOp.dst, LV.I, LV.B, LV.U, LV.S, LV.nil, Nat.reduceEqDiff, Nat.reduceAdd, Nat.reduceMul, Nat.reduceSub, Nat.reduceLeDiff, Nat.reduceBEq, Nat.reduceDiv, Nat.reduceMod, Int.reduceToNat, Int.reduceLT, Int.reduceLE, Int.reduceAdd, Int.reduceSub, Int.reduceMul, Int.reduceEq, Int.reduceNeg, reduceCtorEq, resV, resAll, ARes.ev, LV.flat, ite_true, ite_false, exists_eq_left', exists_eq_left, keyOf, implies_true, fillC, capOf]
    refine callK_of (h_l2Long hdb) ?_
    simp (disch := omega) only [f2, f5, f6, f7, f8, hlc, hcell, Nat.mul_one, Nat.zero_add, ↓SXd, SXu, slBounds, ↓sop, ↓aop, ↓reduceIte, LV.cells, AOp.dst, LV.I, LV.B, LV.U, LV.S, LV.nil, Nat.reduceEqDiff, Nat.reduceAdd, Nat.reduceMul, Nat.reduceSub, Nat.reduceLeDiff, Nat.reduceBEq, Nat.reduceDiv, Nat.reduceMod, Int.reduceToNat, Int.reduceLT, Int.reduceLE, Int.reduceAdd, Int.reduceSub, Int.reduceMul, Int.reduceEq, Int.reduceNeg, reduceCtorEq, resV, resAll, ARes.ev, LV.flat, ite_true, ite_false, exists_eq_left', exists_eq_left, keyOf, implies_true, fillC, capOf]
    refine memK_int bo hlt2 fun N k1 k2 k3 => ?_
    simp (disch := omega) only [f2, f5, f6, f7, f8, ↓SXd, SXu, slBounds, ↓sop, ↓aop, ↓reduceIte, LV.cells, AOp.dst, LV.I, LV.B, LV.U, LV.S, LV.nil, Nat.reduceEqDiff, Nat.reduceAdd, Nat.reduceMul, Nat.reduceSub, Nat.reduceLeDiff, Nat.reduceBEq, Nat.reduceDiv, Nat.reduceMod, Int.reduceToNat, Int.reduceLT, Int.reduceLE, Int.reduceAdd, Int.reduceSub, Int.reduceMul, Int.reduceEq, Int.reduceNeg, reduceCtorEq, resV, resAll, ARes.ev, LV.flat, ite_true, ite_false, exists_eq_left', exists_eq_left, keyOf, implies_true, fillC, capOf]
    rw [show v.set (lineOf y z c d).toNat (v.getD (lineOf y z c d).toNat 0 + 1) = viewStep y z d v c from rfl, ← htf] at k2
    exact ⟨m - 1, by omega, i + 1, by omega, pre_step hpre (by omega) (j := 0) k1 k3, live_step b2 (by omega) k3, k2, f2, f5, f6, f7, eqI (natI _)⟩
  · simp (disch := omega) only [f2, f5, f6, f7, f8, ↓SXd, SXu, slBounds, ↓sop, ↓aop, ↓reduceIte, LV.cells, AOp.dst, LV.I, LV.B, LV.U, LV.S, LV.nil, Nat.reduceEqDiff, Nat.reduceAdd, Nat.reduceMul, Nat.reduceSub, Nat.reduceLeDiff, Nat.reduceBEq, Nat.reduceDiv, Nat.reduceMod, Int.reduceToNat, Int.reduceLT, Int.reduceLE, Int.reduceAdd, Int.reduceSub, Int.reduceMul, Int.reduceEq, Int.reduceNeg, reduceCtorEq, resV, resAll, ARes.ev, LV.flat, ite_true, ite_false, exists_eq_left', exists_eq_left, keyOf, implies_true, fillC, capOf]
    have : i = cs.length := by omega
    subst this
    rw [List.take_length] at bo
    change Live M' (M.length + 1) (.row (intL (viewL x y z d cs)) true 1) at bo
    exact cmp_keepL hpre (by omega) bo (intL_lo _) (by simp [rn, rn0, rn1, hvl])
end Go.Ab

namespace Go.Ab
open Go
set_option maxRecDepth 20000

theorem take_snoc' {α : Type} {l : List α} {i : Nat} {d : α} (h : i < l.length) : l.take (i + 1) = l.take i ++ [l.getD i d] := by
  rw [List.take_succ, List.getElem?_eq_getElem h]; simp [h]
section
variable {x y z : Int} {t o : Nat} {cs : List Cell} {M : Mem} (h : Tri M t o cs) (hn : cs.length ≤ 1000000000)
include h hn
theorem h_OtherCells : CallsR PG F.spec_OtherCells [.agg [.I x, .I y, .I z, .ref t o cs.length]] M fun v N => (HeapOK x y z cs → ∃ u, v = .tup [.agg [.I x, .I y, .I z, .ref u 0 (pick x y z (freeP cs)).length], .B true] ∧ Live N u (.row (triL (pick x y z (freeP cs))) true 3) ∧ M.length ≤ u) ∧ (¬ HeapOK x y z cs → v = .tup [.agg [.I 0, .I 0, .I 0, .nil], .B false]) ∧ Pre M N := by
  refine callsR_run K.spec_OtherCells rfl ?_
  simp (disch := omega) only [C.spec_OtherCells, ↓SXd, SXu, slBounds, ↓sop, ↓aop, ↓reduceIte, LV.cells, AOp.dst, LV.I, LV.B, LV.U, LV.S, LV.nil, Nat.reduceEqDiff, Nat.reduceAdd, Nat.reduceMul, Nat.reduceSub, Nat.reduceLeDiff, Nat.reduceBEq, Nat.reduceDiv, Nat.reduceMod, Int.reduceToNat, Int.reduceLT, Int.reduceLE, Int.reduceAdd, Int.reduceSub, Int.reduceMul, Int.reduceEq, Int.reduceNeg, reduceCtorEq, resV, resAll, ARes.ev, LV.flat, ite_true, ite_false, exists_eq_left', exists_eq_left, keyOf, implies_true, fillC, capOf]
  refine callK_of (h_l2Heap h.app hn) ?_
  simp (disch := omega) only [↓SXd, SXu, slBounds, ↓sop, ↓aop, ↓reduceIte, LV.cells, AOp.dst, LV.I, LV.B, LV.U, LV.S, LV.nil, Nat.reduceEqDiff, Nat.reduceAdd, Nat.reduceMul, Nat.reduceSub, Nat.reduceLeDiff, Nat.reduceBEq, Nat.reduceDiv, Nat.reduceMod, Int.reduceToNat, Int.reduceLT, Int.reduceLE, Int.reduceAdd, Int.reduceSub, Int.reduceMul, Int.reduceEq, Int.reduceNeg, reduceCtorEq, resV, resAll, ARes.ev, LV.flat, ite_true, ite_false, exists_eq_left', exists_eq_left, keyOf, implies_true, fillC, capOf]
  by_cases hH : HeapOK x y z cs
  · rw [decide_eq_true hH]
    have hS := hH.1
    have hv := vol_cast hS
    have ht := h.lt
    have hcl : (cellsOf x y z).length = vol x y z := by simp [cellsOf]
    simp (disch := omega) only [↓SXd, SXu, slBounds, ↓sop, ↓aop, ↓reduceIte, LV.cells, AOp.dst, LV.I, LV.B, LV.U, LV.S, LV.nil, Nat.reduceEqDiff, Nat.reduceAdd, Nat.reduceMul, Nat.reduceSub, Nat.reduceLeDiff, Nat.reduceBEq, Nat.reduceDiv, Nat.reduceMod, Int.reduceToNat, Int.reduceLT, Int.reduceLE, Int.reduceAdd, Int.reduceSub, Int.reduceMul, Int.reduceEq, Int.reduceNeg, reduceCtorEq, resV, resAll, ARes.ev, LV.flat, ite_true, ite_false, exists_eq_left', exists_eq_left, keyOf, implies_true, fillC, capOf]
    refine callK_of (h_l2Empty) ?_
    simp (disch := omega) only [splice, ↓SXd, SXu, slBounds, ↓sop, ↓aop, ↓reduceIte, LV.cells, AOp.dst, LV.I, LV.B, LV.U, LV.S, LV.nil, Nat.reduceEqDiff, Nat.reduceAdd, Nat.reduceMul, Nat.reduceSub, Nat.reduceLeDiff, Nat.reduceBEq, Nat.reduceDiv, Nat.reduceMod, Int.reduceToNat, Int.reduceLT, Int.reduceLE, Int.reduceAdd, Int.reduceSub, Int.reduceMul, Int.reduceEq, Int.reduceNeg, reduceCtorEq, resV, resAll, ARes.ev, LV.flat, ite_true, ite_false, exists_eq_left', exists_eq_left, keyOf, implies_true, fillC, capOf]
    refine callK_of (h_l2All hS) ?_
    simp (disch := omega) only [splice, ↓SXd, SXu, slBounds, ↓sop, ↓aop, ↓reduceIte, LV.cells, AOp.dst, LV.I, LV.B, LV.U, LV.S, LV.nil, Nat.reduceEqDiff, Nat.reduceAdd, Nat.reduceMul, Nat.reduceSub, Nat.reduceLeDiff, Nat.reduceBEq, Nat.reduceDiv, Nat.reduceMod, Int.reduceToNat, Int.reduceLT, Int.reduceLE, Int.reduceAdd, Int.reduceSub, Int.reduceMul, Int.reduceEq, Int.reduceNeg, reduceCtorEq, resV, resAll, ARes.ev, LV.flat, ite_true, ite_false, exists_eq_left', exists_eq_left, keyOf, implies_true, fillC, capOf]
    refine ev_loop (fun m fr1 M' => ∃ i u : Nat, i + m = (cellsOf x y z).length ∧ Pre M M' ∧ Live M' M.length (.row [.I x, .I y, .I z, .ref t o cs.length] true 0) ∧ Live M' (M.length + 1) (.row [.I 0, .I 0, .I 0, .nil] true 0) ∧
      Live M' (M.length + 2) (.row [.I x, .I y, .I z, .ref u 0 (((cellsOf x y z).take i).filter (freeP cs)).length] true 0) ∧ Live M' (M.length + 4) (.row (triL (cellsOf x y z)) true 3) ∧ Live M' u (.row (triL (((cellsOf x y z).take i).filter (freeP cs))) true 3) ∧ (u = M.length + 3 ∨ M.length + 4 < u) ∧
      fr1 1 = .ptr M.length 0 ∧ fr1 2 = .ptr (M.length + 1) 0 ∧ fr1 4 = .ptr (M.length + 2) 0 ∧ fr1 5 = .ref (M.length + 4) 0 (cellsOf x y z).length ∧ fr1 6 = .I i) (cellsOf x y z).length
      ⟨0, M.length + 3, by omega, Pre.app _ _, Live.new, Live.newj rfl, Live.newj rfl, Live.newj rfl, Live.newj rfl, .inl rfl, rfl, rfl, rfl, rfl, rfl⟩ ?_
    rintro m fr1 M' ⟨i, u, hi, hpre, b1, b2, b3, b4, bu, hu, f1, f2, f4, f5, f6⟩
    simp (disch := omega) only [f1, f2, f4, f5, f6, ↓SXd, SXu, slBounds, ↓sop, ↓aop, ↓reduceIte, LV.cells, AOp.dst, LV.I, LV.B, LV.U, LV.S, LV.nil, Nat.reduceEqDiff, Nat.reduceAdd, Nat.reduceMul, Nat.reduceSub, Nat.reduceLeDiff, Nat.reduceBEq, Nat.reduceDiv, Nat.reduceMod, Int.reduceToNat, Int.reduceLT, Int.reduceLE, Int.reduceAdd, Int.reduceSub, Int.reduceMul, Int.reduceEq, Int.reduceNeg, reduceCtorEq, resV, resAll, ARes.ev, LV.flat, ite_true, ite_false, exists_eq_left', exists_eq_left, keyOf, implies_true, fillC, capOf]
    refine condC_dec (fun hlt => ?_) (fun hlt => ?_)
    · have hil : i < (cellsOf x y z).length := by omega
      have hci := b4.tri0 hil
      have hts := take_snoc' (d := default) hil
      have hal : (((cellsOf x y z).take i).filter (freeP cs)).length ≤ 64 := by
        have q1 := List.length_filter_le (freeP cs) ((cellsOf x y z).take i)
        have q2 := List.length_take_le i (cellsOf x y z)
        omega
      generalize (cellsOf x y z).getD i default = c at hci hts
      have hstep : ((cellsOf x y z).take (i + 1)).filter (freeP cs) = ((cellsOf x y z).take i).filter (freeP cs) ++ (if freeP cs c then [c] else []) := by
        rw [hts, List.filter_append, List.filter_cons, List.filter_nil]
      simp (disch := omega) only [f1, f2, f4, f5, f6, b1.cells, hci, Cell.row, ↓SXd, SXu, slBounds, ↓sop, ↓aop, ↓reduceIte, LV.cells, AOp.dst, LV.I, LV.B, LV.U, LV.S, LV.nil, Nat.reduceEqDiff, Nat.reduceAdd, Nat.reduceMul, Nat.reduceSub, Nat.reduceLeDiff, Nat.reduceBEq, Nat.reduceDiv, Nat.reduceMod, Int.reduceToNat, Int.reduceLT, Int.reduceLE, Int.reduceAdd, Int.reduceSub, Int.reduceMul, Int.reduceEq, Int.reduceNeg, reduceCtorEq, resV, resAll, ARes.ev, LV.flat, ite_true, ite_false, exists_eq_left', exists_eq_left, keyOf, implies_true, fillC, capOf]
      refine callK_of (h_l2Has (h.pre hpre) (by omega)) ?_
      simp (disch := omega) only [f1, f2, f4, f5, f6, ↓SXd, SXu, slBounds, ↓sop, ↓aop, ↓reduceIte, LV.cells, AOp.dst, LV.I, LV.B, LV.U, LV.S, LV.nil, Nat.reduceEqDiff, Nat.reduceAdd, Nat.reduceMul, Nat.reduceSub, Nat.reduceLeDiff, Nat.reduceBEq, Nat.reduceDiv, Nat.reduceMod, Int.reduceToNat, Int.reduceLT, Int.reduceLE, Int.reduceAdd, Int.reduceSub, Int.reduceMul, Int.reduceEq, Int.reduceNeg, reduceCtorEq, resV, resAll, ARes.ev, LV.flat, ite_true, ite_false, exists_eq_left', exists_eq_left, keyOf, implies_true, fillC, capOf]
      rw [cell_eta]
      have hfp : freeP cs c = !decide (c ∈ cs) := rfl
      by_cases hm : c ∈ cs
      · rw [decide_eq_true hm] at hfp ⊢
        simp (disch := omega) only [f1, f2, f4, f5, f6, ↓SXd, SXu, slBounds, ↓sop, ↓aop, ↓reduceIte, LV.cells, AOp.dst, LV.I, LV.B, LV.U, LV.S, LV.nil, Nat.reduceEqDiff, Nat.reduceAdd, Nat.reduceMul, Nat.reduceSub, Nat.reduceLeDiff, Nat.reduceBEq, Nat.reduceDiv, Nat.reduceMod, Int.reduceToNat, Int.reduceLT, Int.reduceLE, Int.reduceAdd, Int.reduceSub, Int.reduceMul, Int.reduceEq, Int.reduceNeg, reduceCtorEq, resV, resAll, ARes.ev, LV.flat, ite_true, ite_false, exists_eq_left', exists_eq_left, keyOf, implies_true, fillC, capOf]
        rw [hfp, if_neg (by simp), List.append_nil] at hstep
        rw [← hstep] at b3 bu
        exact ⟨m - 1, by omega, i + 1, u, by omega, hpre, b1, b2, b3, b4, bu, hu, f1, f2, f4, f5, eqI (natI _)⟩
      · rw [decide_eq_false hm] at hfp ⊢
        simp (disch := omega) only [f1, f2, f4, f5, f6, b3.cell, hci, Cell.row, splice, ↓SXd, SXu, slBounds, ↓sop, ↓aop, ↓reduceIte, LV.cells, AOp.dst, LV.I, LV.B, LV.U, LV.S, LV.nil, Nat.reduceEqDiff, Nat.reduceAdd, Nat.reduceMul, Nat.reduceSub, Nat.reduceLeDiff, Nat.reduceBEq, Nat.reduceDiv, Nat.reduceMod, Int.reduceToNat, Int.reduceLT, Int.reduceLE, Int.reduceAdd, Int.reduceSub, Int.reduceMul, Int.reduceEq, Int.reduceNeg, reduceCtorEq, resV, resAll, ARes.ev, LV.flat, ite_true, ite_false, exists_eq_left', exists_eq_left, keyOf, implies_true, fillC, capOf]
        rw [hfp, if_pos (by rfl)] at hstep
        refine appendK_cell bu (by omega) fun N' l1 l2 l3 => ?_
        have hl4 := b4.lt
        have d3 := live_step b3 (by omega) l3
        simp (disch := omega) only [f1, f2, f4, f5, f6, ↓SXd, SXu, slBounds, ↓sop, ↓aop, ↓reduceIte, LV.cells, AOp.dst, LV.I, LV.B, LV.U, LV.S, LV.nil, Nat.reduceEqDiff, Nat.reduceAdd, Nat.reduceMul, Nat.reduceSub, Nat.reduceLeDiff, Nat.reduceBEq, Nat.reduceDiv, Nat.reduceMod, Int.reduceToNat, Int.reduceLT, Int.reduceLE, Int.reduceAdd, Int.reduceSub, Int.reduceMul, Int.reduceEq, Int.reduceNeg, reduceCtorEq, resV, resAll, ARes.ev, LV.flat, ite_true, ite_false, exists_eq_left', exists_eq_left, keyOf, implies_true, fillC, capOf]
        refine memK_one d3 (by simp) fun N3 j1 j2 j3 => ?_
        simp (disch := omega) only [f1, f2, f4, f5, f6, ↓SXd, SXu, slBounds, ↓sop, ↓aop, ↓reduceIte, LV.cells, AOp.dst, LV.I, LV.B, LV.U, LV.S, LV.nil, Nat.reduceEqDiff, Nat.reduceAdd, Nat.reduceMul, Nat.reduceSub, Nat.reduceLeDiff, Nat.reduceBEq, Nat.reduceDiv, Nat.reduceMod, Int.reduceToNat, Int.reduceLT, Int.reduceLE, Int.reduceAdd, Int.reduceSub, Int.reduceMul, Int.reduceEq, Int.reduceNeg, reduceCtorEq, resV, resAll, ARes.ev, LV.flat, ite_true, ite_false, exists_eq_left', exists_eq_left, keyOf, implies_true, fillC, capOf]
        rw [cell_eta, ← hstep] at l2 j2
        exact ⟨m - 1, by omega, i + 1, M'.length + 1, by omega, pre_step (pre_step hpre (by omega) l1 l3) (by omega) (j := 0) j1 j3, live_step (live_step b1 (by omega) l3) (by omega) j3, live_step (live_step b2 (by omega) l3) (by omega) j3, j2, live_step (live_step b4 (by omega) l3) (by omega) j3, live_step l2 (by omega) j3, by omega, f1, f2, f4, f5, eqI (natI _)⟩
    · simp (disch := omega) only [f1, f2, f4, f5, f6, b3.cells, ↓SXd, SXu, slBounds, ↓sop, ↓aop, ↓reduceIte, LV.cells, AOp.dst, LV.I, LV.B, LV.U, LV.S, LV.nil, Nat.reduceEqDiff, Nat.reduceAdd, Nat.reduceMul, Nat.reduceSub, Nat.reduceLeDiff, Nat.reduceBEq, Nat.reduceDiv, Nat.reduceMod, Int.reduceToNat, Int.reduceLT, Int.reduceLE, Int.reduceAdd, Int.reduceSub, Int.reduceMul, Int.reduceEq, Int.reduceNeg, reduceCtorEq, resV, resAll, ARes.ev, LV.flat, ite_true, ite_false, exists_eq_left', exists_eq_left, keyOf, implies_true, fillC, capOf]
      have : i = (cellsOf x y z).length := by omega
      subst this
      rw [List.take_length] at b3 bu
      change Live M' u (.row (triL (pick x y z (freeP cs))) true 3) at bu
      refine memK_box b2 (by simp) fun N3 k1 k2 k3 => ?_
      simp (disch := omega) only [f1, f2, f4, f5, f6, k2.cells, ↓SXd, SXu, slBounds, ↓sop, ↓aop, ↓reduceIte, LV.cells, AOp.dst, LV.I, LV.B, LV.U, LV.S, LV.nil, Nat.reduceEqDiff, Nat.reduceAdd, Nat.reduceMul, Nat.reduceSub, Nat.reduceLeDiff, Nat.reduceBEq, Nat.reduceDiv, Nat.reduceMod, Int.reduceToNat, Int.reduceLT, Int.reduceLE, Int.reduceAdd, Int.reduceSub, Int.reduceMul, Int.reduceEq, Int.reduceNeg, reduceCtorEq, resV, resAll, ARes.ev, LV.flat, ite_true, ite_false, exists_eq_left', exists_eq_left, keyOf, implies_true, fillC, capOf]
      exact ⟨fun _ => ⟨u, by rw [List.take_length]; rfl, live_step bu (by omega) k3, by omega⟩, fun hno => absurd hH hno, pre_step hpre (by omega) (j := 0) k1 k3⟩
  · rw [decide_eq_false hH]
    simp (disch := omega) only [splice, ↓SXd, SXu, slBounds, ↓sop, ↓aop, ↓reduceIte, LV.cells, AOp.dst, LV.I, LV.B, LV.U, LV.S, LV.nil, Nat.reduceEqDiff, Nat.reduceAdd, Nat.reduceMul, Nat.reduceSub, Nat.reduceLeDiff, Nat.reduceBEq, Nat.reduceDiv, Nat.reduceMod, Int.reduceToNat, Int.reduceLT, Int.reduceLE, Int.reduceAdd, Int.reduceSub, Int.reduceMul, Int.reduceEq, Int.reduceNeg, reduceCtorEq, resV, resAll, ARes.ev, LV.flat, ite_true, ite_false, exists_eq_left', exists_eq_left, keyOf, implies_true, fillC, capOf]
    exact ⟨fun hh => absurd hh hH, fun _ => rfl, Pre.app _ _⟩
end
def stackP (y : Int) (hs : List Int) (c : Cell) : Bool := decide (c.c < hs.getD (c.a * y + c.b).toNat 0)
theorem h_l2Stack {x y z : Int} {u q : Nat} {hs : List Int} {M : Mem} (hS : Sides x y z) (hX : Ints M u q hs) (hl : (hs.length : Int) = x * y) : CallsR PG F.spec_l2Stack [.I x, .I y, .I z, .ref u q hs.length] M fun v N => ∃ w, v = .agg [.I x, .I y, .I z, .ref w 0 (pick x y z (stackP y hs)).length] ∧ Live N w (.row (triL (pick x y z (stackP y hs))) true 3) ∧ M.length ≤ w ∧ Pre M N := by
  have hv := vol_cast hS
  have hul := hX.lt
  have hcl : (cellsOf x y z).length = vol x y z := by simp [cellsOf]
  obtain ⟨⟨_, _⟩, ⟨_, _⟩, ⟨_, _⟩⟩ := id hS
  refine callsR_run K.spec_l2Stack rfl ?_
  simp (disch := omega) only [C.spec_l2Stack, ↓SXd, SXu, slBounds, ↓sop, ↓aop, ↓reduceIte, LV.cells, AOp.dst, LV.I, LV.B, LV.U, LV.S, LV.nil, Nat.reduceEqDiff, Nat.reduceAdd, Nat.reduceMul, Nat.reduceSub, Nat.reduceLeDiff, Nat.reduceBEq, Nat.reduceDiv, Nat.reduceMod, Int.reduceToNat, Int.reduceLT, Int.reduceLE, Int.reduceAdd, Int.reduceSub, Int.reduceMul, Int.reduceEq, Int.reduceNeg, reduceCtorEq, resV, resAll, ARes.ev, LV.flat, ite_true, ite_false, exists_eq_left', exists_eq_left, keyOf, implies_true, fillC, capOf]
  refine callK_of (h_l2Empty) ?_
  simp (disch := omega) only [splice, ↓SXd, SXu, slBounds, ↓sop, ↓aop, ↓reduceIte, LV.cells, AOp.dst, LV.I, LV.B, LV.U, LV.S, LV.nil, Nat.reduceEqDiff, Nat.reduceAdd, Nat.reduceMul, Nat.reduceSub, Nat.reduceLeDiff, Nat.reduceBEq, Nat.reduceDiv, Nat.reduceMod, Int.reduceToNat, Int.reduceLT, Int.reduceLE, Int.reduceAdd, Int.reduceSub, Int.reduceMul, Int.reduceEq, Int.reduceNeg, reduceCtorEq, resV, resAll, ARes.ev, LV.flat, ite_true, ite_false, exists_eq_left', exists_eq_left, keyOf, implies_true, fillC, capOf]
  refine callK_of (h_l2All hS) ?_
  simp (disch := omega) only [splice, ↓SXd, SXu, slBounds, ↓sop, ↓aop, ↓reduceIte, LV.cells, AOp.dst, LV.I, LV.B, LV.U, LV.S, LV.nil, Nat.reduceEqDiff, Nat.reduceAdd, Nat.reduceMul, Nat.reduceSub, Nat.reduceLeDiff, Nat.reduceBEq, Nat.reduceDiv, Nat.reduceMod, Int.reduceToNat, Int.reduceLT, Int.reduceLE, Int.reduceAdd, Int.reduceSub, Int.reduceMul, Int.reduceEq, Int.reduceNeg, reduceCtorEq, resV, resAll, ARes.ev, LV.flat, ite_true, ite_false, exists_eq_left', exists_eq_left, keyOf, implies_true, fillC, capOf]
  refine ev_loop (fun m fr1 M' => ∃ i u' : Nat, i + m = (cellsOf x y z).length ∧ Pre M M' ∧ Live M' M.length (.row [.I 0, .I 0, .I 0, .nil] true 0) ∧
    Live M' (M.length + 2) (.row [.I x, .I y, .I z, .ref u' 0 (((cellsOf x y z).take i).filter (stackP y hs)).length] true 0) ∧ Live M' (M.length + 3) (.row (triL (cellsOf x y z)) true 3) ∧ Live M' u' (.row (triL (((cellsOf x y z).take i).filter (stackP y hs))) true 3) ∧ (u' = M.length + 1 ∨ M.length + 3 < u') ∧
    fr1 1 = .I y ∧ fr1 3 = .ref u q hs.length ∧ fr1 8 = .ptr M.length 0 ∧ fr1 9 = .ptr (M.length + 2) 0 ∧ fr1 10 = .ref (M.length + 3) 0 (cellsOf x y z).length ∧ fr1 11 = .I i) (cellsOf x y z).length
    ⟨0, M.length + 1, by omega, Pre.app _ _, Live.new, Live.newj rfl, Live.newj rfl, Live.newj rfl, .inl rfl, rfl, rfl, rfl, rfl, rfl, rfl⟩ ?_
  rintro m fr1 M' ⟨i, u', hi, hpre, b2, b3, b4, bu, hu, f1, f3, f8, f9, f10, f11⟩
  simp (disch := omega) only [f1, f3, f8, f9, f10, f11, ↓SXd, SXu, slBounds, ↓sop, ↓aop, ↓reduceIte, LV.cells, AOp.dst, LV.I, LV.B, LV.U, LV.S, LV.nil, Nat.reduceEqDiff, Nat.reduceAdd, Nat.reduceMul, Nat.reduceSub, Nat.reduceLeDiff, Nat.reduceBEq, Nat.reduceDiv, Nat.reduceMod, Int.reduceToNat, Int.reduceLT, Int.reduceLE, Int.reduceAdd, Int.reduceSub, Int.reduceMul, Int.reduceEq, Int.reduceNeg, reduceCtorEq, resV, resAll, ARes.ev, LV.flat, ite_true, ite_false, exists_eq_left', exists_eq_left, keyOf, implies_true, fillC, capOf]
  refine condC_dec (fun hlt => ?_) (fun hlt => ?_)
  · have hil : i < (cellsOf x y z).length := by omega
    have hci := b4.tri0 hil
    have ga := Tri.get_a b4.has hil
    have gb := Tri.get_b b4.has hil
    have gc := Tri.get_c b4.has hil
    have hcin := (mem_cellsOf hS).1 (getD_mem' (d := default) hil)
    have hts := take_snoc' (d := default) hil
    have hal : (((cellsOf x y z).take i).filter (stackP y hs)).length ≤ 64 := by
      have q1 := List.length_filter_le (stackP y hs) ((cellsOf x y z).take i)
      have q2 := List.length_take_le i (cellsOf x y z)
      omega
    generalize (cellsOf x y z).getD i default = c at hci hts ga gb gc hcin
    have hstep : ((cellsOf x y z).take (i + 1)).filter (stackP y hs) = ((cellsOf x y z).take i).filter (stackP y hs) ++ (if stackP y hs c then [c] else []) := by
      rw [hts, List.filter_append, List.filter_cons, List.filter_nil]
    rw [Nat.zero_add] at ga gb gc
    obtain ⟨⟨_, _⟩, ⟨_, _⟩, ⟨_, _⟩⟩ := id hcin
    have hpk : 0 ≤ c.a * y + c.b ∧ c.a * y + c.b < x * y ∧ 0 ≤ c.a * y ∧ c.a * y ≤ 12 := by
      rcases (show y = 1 ∨ y = 2 ∨ y = 3 ∨ y = 4 by omega) with rfl | rfl | rfl | rfl <;> omega
    obtain ⟨_, _, _, _⟩ := hpk
    have hkl : (c.a * y + c.b).toNat < hs.length := by omega
    have hx := Ints.get (hX.pre hpre) hkl
    have hidx : ((c.a * y + c.b).toNat : Int) = c.a * y + c.b := by omega
    have hfp : stackP y hs c = decide (c.c < hs.getD (c.a * y + c.b).toNat 0) := rfl
    generalize hs.getD (c.a * y + c.b).toNat 0 = hh at hx hfp
    by_cases hm : c.c < hh
    · rw [decide_eq_true hm] at hfp
      simp (disch := omega) only [f1, f3, f8, f9, f10, f11, ga, gb, gc, Nat.add_zero, Nat.mul_one, hx, hm, b3.cell, hci, Cell.row, splice, ↓SXd, SXu, slBounds, ↓sop, ↓aop, ↓reduceIte, LV.cells, AOp.dst, LV.I, LV.B, LV.U, LV.S, LV.nil, Nat.reduceEqDiff, Nat.reduceAdd, Nat.reduceMul, Nat.reduceSub, Nat.reduceLeDiff, Nat.reduceBEq, Nat.reduceDiv, Nat.reduceMod, Int.reduceToNat, Int.reduceLT, Int.reduceLE, Int.reduceAdd, Int.reduceSub, Int.reduceMul, Int.reduceEq, Int.reduceNeg, reduceCtorEq, resV, resAll, ARes.ev, LV.flat, ite_true, ite_false, exists_eq_left', exists_eq_left, keyOf, implies_true, fillC, capOf]
      rw [hfp, if_pos (by rfl)] at hstep
      refine appendK_cell bu (by omega) fun N' l1 l2 l3 => ?_
      have hl4 := b4.lt
      have d3 := live_step b3 (by omega) l3
      simp (disch := omega) only [f1, f3, f8, f9, f10, f11, ↓SXd, SXu, slBounds, ↓sop, ↓aop, ↓reduceIte, LV.cells, AOp.dst, LV.I, LV.B, LV.U, LV.S, LV.nil, Nat.reduceEqDiff, Nat.reduceAdd, Nat.reduceMul, Nat.reduceSub, Nat.reduceLeDiff, Nat.reduceBEq, Nat.reduceDiv, Nat.reduceMod, Int.reduceToNat, Int.reduceLT, Int.reduceLE, Int.reduceAdd, Int.reduceSub, Int.reduceMul, Int.reduceEq, Int.reduceNeg, reduceCtorEq, resV, resAll, ARes.ev, LV.flat, ite_true, ite_false, exists_eq_left', exists_eq_left, keyOf, implies_true, fillC, capOf]
      refine memK_one d3 (by simp) fun N3 j1 j2 j3 => ?_
      simp (disch := omega) only [f1, f3, f8, f9, f10, f11, ↓SXd, SXu, slBounds, ↓sop, ↓aop, ↓reduceIte, LV.cells, AOp.dst, LV.I, LV.B, LV.U, LV.S, LV.nil, Nat.reduceEqDiff, Nat.reduceAdd, Nat.reduceMul, Nat.reduceSub, Nat.reduceLeDiff, Nat.reduceBEq, Nat.reduceDiv, Nat.reduceMod, Int.reduceToNat, Int.reduceLT, Int.reduceLE, Int.reduceAdd, Int.reduceSub, Int.reduceMul, Int.reduceEq, Int.reduceNeg, reduceCtorEq, resV, resAll, ARes.ev, LV.flat, ite_true, ite_false, exists_eq_left', exists_eq_left, keyOf, implies_true, fillC, capOf]
      rw [cell_eta, ← hstep] at l2 j2
      exact ⟨m - 1, by omega, i + 1, M'.length + 1, by omega, pre_step (pre_step hpre (by omega) l1 l3) (by omega) (j := 0) j1 j3, live_step (live_step b2 (by omega) l3) (by omega) j3, j2, live_step (live_step b4 (by omega) l3) (by omega) j3, live_step l2 (by omega) j3, by omega, f1, f3, f8, f9, f10, eqI (natI _)⟩
    · rw [decide_eq_false hm] at hfp
      simp (disch := omega) only [f1, f3, f8, f9, f10, f11, ga, gb, gc, Nat.add_zero, Nat.mul_one, hx, hm, ↓SXd, SXu, slBounds, ↓sop, ↓aop, ↓reduceIte, LV.cells, AOp.dst, LV.I, LV.B, LV.U, LV.S, LV.nil, Nat.reduceEqDiff, Nat.reduceAdd, Nat.reduceMul, Nat.reduceSub, Nat.reduceLeDiff, Nat.reduceBEq, Nat.reduceDiv, Nat.reduceMod, Int.reduceToNat, Int.reduceLT, Int.reduceLE, Int.reduceAdd, Int.reduceSub, Int.reduceMul, Int.reduceEq, Int.reduceNeg, reduceCtorEq, resV, resAll, ARes.ev, LV.flat, ite_true, ite_false, exists_eq_left', exists_eq_left, keyOf, implies_true, fillC, capOf]
      rw [hfp, if_neg (by simp), List.append_nil] at hstep
      rw [← hstep] at b3 bu
      exact ⟨m - 1, by omega, i + 1, u', by omega, hpre, b2, b3, b4, bu, hu, f1, f3, f8, f9, f10, eqI (natI _)⟩
  · simp (disch := omega) only [f1, f3, f8, f9, f10, f11, b3.cells, ↓SXd, SXu, slBounds, ↓sop, ↓aop, ↓reduceIte, LV.cells, AOp.dst, LV.I, LV.B, LV.U, LV.S, LV.nil, Nat.reduceEqDiff, Nat.reduceAdd, Nat.reduceMul, Nat.reduceSub, Nat.reduceLeDiff, Nat.reduceBEq, Nat.reduceDiv, Nat.reduceMod, Int.reduceToNat, Int.reduceLT, Int.reduceLE, Int.reduceAdd, Int.reduceSub, Int.reduceMul, Int.reduceEq, Int.reduceNeg, reduceCtorEq, resV, resAll, ARes.ev, LV.flat, ite_true, ite_false, exists_eq_left', exists_eq_left, keyOf, implies_true, fillC, capOf]
    have : i = (cellsOf x y z).length := by omega
    subst this
    rw [List.take_length] at b3 bu
    change Live M' u' (.row (triL (pick x y z (stackP y hs))) true 3) at bu
    refine memK_box b2 (by simp) fun N3 k1 k2 k3 => ?_
    simp (disch := omega) only [f1, f3, f8, f9, f10, f11, k2.cells, ↓SXd, SXu, slBounds, ↓sop, ↓aop, ↓reduceIte, LV.cells, AOp.dst, LV.I, LV.B, LV.U, LV.S, LV.nil, Nat.reduceEqDiff, Nat.reduceAdd, Nat.reduceMul, Nat.reduceSub, Nat.reduceLeDiff, Nat.reduceBEq, Nat.reduceDiv, Nat.reduceMod, Int.reduceToNat, Int.reduceLT, Int.reduceLE, Int.reduceAdd, Int.reduceSub, Int.reduceMul, Int.reduceEq, Int.reduceNeg, reduceCtorEq, resV, resAll, ARes.ev, LV.flat, ite_true, ite_false, exists_eq_left', exists_eq_left, keyOf, implies_true, fillC, capOf]
    exact ⟨u', by rw [List.take_length]; rfl, live_step bu (by omega) k3, by omega, pre_step hpre (by omega) (j := 0) k1 k3⟩
end Go.Ab

namespace Go.Ab
open Go
set_option maxRecDepth 20000

section
variable {p t o a : Nat} {bs : List Nat} {M : Mem}
theorem d_amongNew {xs : List Int} (h : CurAt M p t o bs a) (ha : a ≤ 999990) (h0 : 0 < xs.length) (hxl : xs.length ≤ 1000) : CallsR PG F.spec_l1Cur_among [.ptr p 0, .ref M.length 0 xs.length] (M ++ [some (.row (intL xs) true 1)]) fun v N => (∃ b : Int, v = .I b ∧ b ∈ xs) ∧ DrawN M p t o bs (a + 2) N :=
  (d_among (h.pre (Pre.app _ _)) ha (Live.new (b := .row (intL xs) true 1)).has (by obtain ⟨⟨_, _, _, hp⟩, _⟩ := h; have := hp.lt; omega) h0 hxl).mono fun v N hv => ⟨hv.1, DrawN.of_pre (Pre.app _ _) hv.2⟩
theorem DrawN.up {M N : Mem} {p t o : Nat} {bs : List Nat} {a b : Nat} (h : DrawN M p t o bs a N) (hab : a ≤ b) : DrawN M p t o bs b N := ⟨h.1.keep (fun _ _ => rfl) hab, h.2⟩
theorem d_sides (h : CurAt M p t o bs a) (ha : a ≤ 999900) : CallsR PG F.spec_l1Cur_sides [.ptr p 0] M fun v N => (∃ x y z : Int, v = .tup [.I x, .I y, .I z]) ∧ DrawN M p t o bs (a + 10) N := by
  refine callsR_run K.spec_l1Cur_sides rfl ?_
  simp (disch := omega) only [C.spec_l1Cur_sides, ↓SXd, SXu, slBounds, ↓sop, ↓aop, ↓reduceIte, LV.cells, AOp.dst, LV.I, LV.B, LV.U, LV.S, LV.nil, Nat.reduceEqDiff, Nat.reduceAdd, Nat.reduceMul, Nat.reduceSub, Nat.reduceLeDiff, Nat.reduceBEq, Nat.reduceDiv, Nat.reduceMod, Int.reduceToNat, Int.reduceLT, Int.reduceLE, Int.reduceAdd, Int.reduceSub, Int.reduceMul, Int.reduceEq, Int.reduceNeg, reduceCtorEq, resV, resAll, ARes.ev, LV.flat, ite_true, ite_false, exists_eq_left', exists_eq_left, keyOf, implies_true, fillC, capOf]
  refine callR_of (d_amongNew (xs := [2, 3, 3, 1, 4]) h (by omega) (by simp) (by simp)) ?_
  rintro _ N1 ⟨⟨x, rfl, _⟩, hd1⟩
  simp (disch := omega) only [↓SXd, SXu, slBounds, ↓sop, ↓aop, ↓reduceIte, LV.cells, AOp.dst, LV.I, LV.B, LV.U, LV.S, LV.nil, Nat.reduceEqDiff, Nat.reduceAdd, Nat.reduceMul, Nat.reduceSub, Nat.reduceLeDiff, Nat.reduceBEq, Nat.reduceDiv, Nat.reduceMod, Int.reduceToNat, Int.reduceLT, Int.reduceLE, Int.reduceAdd, Int.reduceSub, Int.reduceMul, Int.reduceEq, Int.reduceNeg, reduceCtorEq, resV, resAll, ARes.ev, LV.flat, ite_true, ite_false, exists_eq_left', exists_eq_left, keyOf, implies_true, fillC, capOf]
  refine callR_of (d_amongNew (xs := [2, 3, 2, 1, 4]) hd1.1 (by omega) (by simp) (by simp)) ?_
  rintro _ N2 ⟨⟨y, rfl, _⟩, hd2⟩
  simp (disch := omega) only [↓SXd, SXu, slBounds, ↓sop, ↓aop, ↓reduceIte, LV.cells, AOp.dst, LV.I, LV.B, LV.U, LV.S, LV.nil, Nat.reduceEqDiff, Nat.reduceAdd, Nat.reduceMul, Nat.reduceSub, Nat.reduceLeDiff, Nat.reduceBEq, Nat.reduceDiv, Nat.reduceMod, Int.reduceToNat, Int.reduceLT, Int.reduceLE, Int.reduceAdd, Int.reduceSub, Int.reduceMul, Int.reduceEq, Int.reduceNeg, reduceCtorEq, resV, resAll, ARes.ev, LV.flat, ite_true, ite_false, exists_eq_left', exists_eq_left, keyOf, implies_true, fillC, capOf]
  refine callR_of (d_amongNew (xs := [2, 3, 3, 1, 4]) hd2.1 (by omega) (by simp) (by simp)) ?_
  rintro _ N3 ⟨⟨z, rfl, _⟩, hd3⟩
  simp (disch := omega) only [↓SXd, SXu, slBounds, ↓sop, ↓aop, ↓reduceIte, LV.cells, AOp.dst, LV.I, LV.B, LV.U, LV.S, LV.nil, Nat.reduceEqDiff, Nat.reduceAdd, Nat.reduceMul, Nat.reduceSub, Nat.reduceLeDiff, Nat.reduceBEq, Nat.reduceDiv, Nat.reduceMod, Int.reduceToNat, Int.reduceLT, Int.reduceLE, Int.reduceAdd, Int.reduceSub, Int.reduceMul, Int.reduceEq, Int.reduceNeg, reduceCtorEq, resV, resAll, ARes.ev, LV.flat, ite_true, ite_false, exists_eq_left', exists_eq_left, keyOf, implies_true, fillC, capOf]
  refine callR_of (d_pick hd3.1 (by omega)) ?_
  rintro _ N4 ⟨⟨b, rfl, _⟩, hd4⟩
  have hD := ((hd1.trans hd2).trans hd3).trans hd4
  by_cases b0 : (b : Int) = 0
  · simp (disch := omega) only [b0, ↓SXd, SXu, slBounds, ↓sop, ↓aop, ↓reduceIte, LV.cells, AOp.dst, LV.I, LV.B, LV.U, LV.S, LV.nil, Nat.reduceEqDiff, Nat.reduceAdd, Nat.reduceMul, Nat.reduceSub, Nat.reduceLeDiff, Nat.reduceBEq, Nat.reduceDiv, Nat.reduceMod, Int.reduceToNat, Int.reduceLT, Int.reduceLE, Int.reduceAdd, Int.reduceSub, Int.reduceMul, Int.reduceEq, Int.reduceNeg, reduceCtorEq, resV, resAll, ARes.ev, LV.flat, ite_true, ite_false, exists_eq_left', exists_eq_left, keyOf, implies_true, fillC, capOf]
    refine callR_of (d_amongNew (xs := [0, 5, -1, 4611686018427387904]) hd4.1 (by omega) (by simp) (by simp)) ?_
    rintro _ N5 ⟨⟨x', rfl, _⟩, hd5⟩
    simp (disch := omega) only [↓SXd, SXu, slBounds, ↓sop, ↓aop, ↓reduceIte, LV.cells, AOp.dst, LV.I, LV.B, LV.U, LV.S, LV.nil, Nat.reduceEqDiff, Nat.reduceAdd, Nat.reduceMul, Nat.reduceSub, Nat.reduceLeDiff, Nat.reduceBEq, Nat.reduceDiv, Nat.reduceMod, Int.reduceToNat, Int.reduceLT, Int.reduceLE, Int.reduceAdd, Int.reduceSub, Int.reduceMul, Int.reduceEq, Int.reduceNeg, reduceCtorEq, resV, resAll, ARes.ev, LV.flat, ite_true, ite_false, exists_eq_left', exists_eq_left, keyOf, implies_true, fillC, capOf]
    exact ⟨⟨_, _, _, rfl⟩, hD.trans hd5⟩
  by_cases b1 : (b : Int) = 1
  · simp (disch := omega) only [b1, ↓SXd, SXu, slBounds, ↓sop, ↓aop, ↓reduceIte, LV.cells, AOp.dst, LV.I, LV.B, LV.U, LV.S, LV.nil, Nat.reduceEqDiff, Nat.reduceAdd, Nat.reduceMul, Nat.reduceSub, Nat.reduceLeDiff, Nat.reduceBEq, Nat.reduceDiv, Nat.reduceMod, Int.reduceToNat, Int.reduceLT, Int.reduceLE, Int.reduceAdd, Int.reduceSub, Int.reduceMul, Int.reduceEq, Int.reduceNeg, reduceCtorEq, resV, resAll, ARes.ev, LV.flat, ite_true, ite_false, exists_eq_left', exists_eq_left, keyOf, implies_true, fillC, capOf]
    refine callR_of (d_amongNew (xs := [0, 5, -1]) hd4.1 (by omega) (by simp) (by simp)) ?_
    rintro _ N5 ⟨⟨x', rfl, _⟩, hd5⟩
    simp (disch := omega) only [↓SXd, SXu, slBounds, ↓sop, ↓aop, ↓reduceIte, LV.cells, AOp.dst, LV.I, LV.B, LV.U, LV.S, LV.nil, Nat.reduceEqDiff, Nat.reduceAdd, Nat.reduceMul, Nat.reduceSub, Nat.reduceLeDiff, Nat.reduceBEq, Nat.reduceDiv, Nat.reduceMod, Int.reduceToNat, Int.reduceLT, Int.reduceLE, Int.reduceAdd, Int.reduceSub, Int.reduceMul, Int.reduceEq, Int.reduceNeg, reduceCtorEq, resV, resAll, ARes.ev, LV.flat, ite_true, ite_false, exists_eq_left', exists_eq_left, keyOf, implies_true, fillC, capOf]
    exact ⟨⟨_, _, _, rfl⟩, hD.trans hd5⟩
  by_cases b2 : (b : Int) = 2
  · simp (disch := omega) only [b2, ↓SXd, SXu, slBounds, ↓sop, ↓aop, ↓reduceIte, LV.cells, AOp.dst, LV.I, LV.B, LV.U, LV.S, LV.nil, Nat.reduceEqDiff, Nat.reduceAdd, Nat.reduceMul, Nat.reduceSub, Nat.reduceLeDiff, Nat.reduceBEq, Nat.reduceDiv, Nat.reduceMod, Int.reduceToNat, Int.reduceLT, Int.reduceLE, Int.reduceAdd, Int.reduceSub, Int.reduceMul, Int.reduceEq, Int.reduceNeg, reduceCtorEq, resV, resAll, ARes.ev, LV.flat, ite_true, ite_false, exists_eq_left', exists_eq_left, keyOf, implies_true, fillC, capOf]
    refine callR_of (d_amongNew (xs := [0, 5, -1]) hd4.1 (by omega) (by simp) (by simp)) ?_
    rintro _ N5 ⟨⟨x', rfl, _⟩, hd5⟩
    simp (disch := omega) only [↓SXd, SXu, slBounds, ↓sop, ↓aop, ↓reduceIte, LV.cells, AOp.dst, LV.I, LV.B, LV.U, LV.S, LV.nil, Nat.reduceEqDiff, Nat.reduceAdd, Nat.reduceMul, Nat.reduceSub, Nat.reduceLeDiff, Nat.reduceBEq, Nat.reduceDiv, Nat.reduceMod, Int.reduceToNat, Int.reduceLT, Int.reduceLE, Int.reduceAdd, Int.reduceSub, Int.reduceMul, Int.reduceEq, Int.reduceNeg, reduceCtorEq, resV, resAll, ARes.ev, LV.flat, ite_true, ite_false, exists_eq_left', exists_eq_left, keyOf, implies_true, fillC, capOf]
    exact ⟨⟨_, _, _, rfl⟩, hD.trans hd5⟩
  · simp (disch := omega) only [b0, b1, b2, ↓SXd, SXu, slBounds, ↓sop, ↓aop, ↓reduceIte, LV.cells, AOp.dst, LV.I, LV.B, LV.U, LV.S, LV.nil, Nat.reduceEqDiff, Nat.reduceAdd, Nat.reduceMul, Nat.reduceSub, Nat.reduceLeDiff, Nat.reduceBEq, Nat.reduceDiv, Nat.reduceMod, Int.reduceToNat, Int.reduceLT, Int.reduceLE, Int.reduceAdd, Int.reduceSub, Int.reduceMul, Int.reduceEq, Int.reduceNeg, reduceCtorEq, resV, resAll, ARes.ev, LV.flat, ite_true, ite_false, exists_eq_left', exists_eq_left, keyOf, implies_true, fillC, capOf]
    exact ⟨⟨_, _, _, rfl⟩, hD.up (by omega)⟩
end
theorem DrawN.keep {M N N' : Mem} {p t o : Nat} {bs : List Nat} {a b : Nat} (h : DrawN M p t o bs a N) (hp : p < M.length) (ht : t < M.length) (hab : a ≤ b) (hl : N.length ≤ N'.length) (hk : ∀ q, q < M.length → N'[q]? = N[q]?) : DrawN M p t o bs b N' := by
  obtain ⟨⟨⟨i, s, h1, h2⟩, h3, h4⟩, h5, h6⟩ := h
  exact ⟨⟨⟨i, s, by omega, Live.at h2 (hk _ hp)⟩, Has.at' h3 (hk _ ht), h4⟩, by omega, fun q q1 q2 => by rw [hk q q1]; exact h6 q q1 q2⟩
theorem sub_heap {x y z : Int} (hS : Sides x y z) {cs : List Cell} (h : cs.Sublist (cellsOf x y z)) : HeapOK x y z cs :=
  HeapOK.of hS ((cellsOf_sorted hS).sublist h) fun c hc => (mem_cellsOf hS).1 (h.mem hc)
section
variable {p t o a : Nat} {bs : List Nat} {M : Mem}
theorem h_l2Heights {x y z : Int} {t o : Nat} {cs : List Cell} {M : Mem} (h : Tri M t o cs) (hH : HeapOK x y z cs) : CallsTo PG F.spec_l2Heights [.agg [.I x, .I y, .I z, .ref t o cs.length]] M (.ref M.length 0 (viewL x y z 2 cs).length) (M ++ [some (.row (intL (viewL x y z 2 cs)) true 1)]) := by
  have hv := h_l2View (d := 2) (M := M ++ [some (.row [.I x, .I y, .I z, .ref t o cs.length] true 0)]) h.app hH (by omega)
  rw [show ((2 : Nat) : Int) = 2 from rfl] at hv
  refine calls_run K.spec_l2Heights rfl ?_
  simp (disch := omega) only [C.spec_l2Heights, ↓SXd, SXu, slBounds, ↓sop, ↓aop, ↓reduceIte, LV.cells, AOp.dst, LV.I, LV.B, LV.U, LV.S, LV.nil, Nat.reduceEqDiff, Nat.reduceAdd, Nat.reduceMul, Nat.reduceSub, Nat.reduceLeDiff, Nat.reduceBEq, Nat.reduceDiv, Nat.reduceMod, Int.reduceToNat, Int.reduceLT, Int.reduceLE, Int.reduceAdd, Int.reduceSub, Int.reduceMul, Int.reduceEq, Int.reduceNeg, reduceCtorEq, resV, resAll, ARes.ev, LV.flat, ite_true, ite_false, exists_eq_left', exists_eq_left, keyOf, implies_true, fillC, capOf]
  refine callK_of hv ?_
  simp (disch := omega) only [↓SXd, SXu, slBounds, ↓sop, ↓aop, ↓reduceIte, LV.cells, AOp.dst, LV.I, LV.B, LV.U, LV.S, LV.nil, Nat.reduceEqDiff, Nat.reduceAdd, Nat.reduceMul, Nat.reduceSub, Nat.reduceLeDiff, Nat.reduceBEq, Nat.reduceDiv, Nat.reduceMod, Int.reduceToNat, Int.reduceLT, Int.reduceLE, Int.reduceAdd, Int.reduceSub, Int.reduceMul, Int.reduceEq, Int.reduceNeg, reduceCtorEq, resV, resAll, ARes.ev, LV.flat, ite_true, ite_false, exists_eq_left', exists_eq_left, keyOf, implies_true, fillC, capOf]
  exact cmp_keepL (Pre.app _ _) (t := M.length + 1) (by omega) (Live.newj rfl) (intL_lo _) (by simp [rn, rn0, rn1])
def HeapN (M : Mem) (x y z : Int) (v : LV) (N : Mem) : Prop := ∃ (cs : List Cell) (u : Nat), v = .agg [.I x, .I y, .I z, .ref u 0 cs.length] ∧ Live N u (.row (triL cs) true 3) ∧ M.length ≤ u ∧ cs.length ≤ 64
def HeapNK (M : Mem) (x y z : Int) (v : LV) (N : Mem) : Prop := ∃ (cs : List Cell) (u : Nat), v = .agg [.I x, .I y, .I z, .ref u 0 cs.length] ∧ Live N u (.row (triL cs) true 3) ∧ M.length ≤ u ∧ cs.length ≤ 64 ∧ (Sides x y z → HeapOK x y z cs)
theorem d_someHeapK {x y z : Int} (h : CurAt M p t o bs a) (ha : a ≤ 999000) : CallsR PG F.spec_l1Cur_someHeap [.ptr p 0, .I x, .I y, .I z] M fun v N => HeapNK M x y z v N ∧ DrawN M p t o bs (a + 140) N := by
  obtain ⟨⟨_, _, _, hpl'⟩, hB, _⟩ := id h
  have hpl := hpl'.lt
  refine callsR_run K.spec_l1Cur_someHeap rfl ?_
  simp (disch := omega) only [C.spec_l1Cur_someHeap, ↓SXd, SXu, slBounds, ↓sop, ↓aop, ↓reduceIte, LV.cells, AOp.dst, LV.I, LV.B, LV.U, LV.S, LV.nil, Nat.reduceEqDiff, Nat.reduceAdd, Nat.reduceMul, Nat.reduceSub, Nat.reduceLeDiff, Nat.reduceBEq, Nat.reduceDiv, Nat.reduceMod, Int.reduceToNat, Int.reduceLT, Int.reduceLE, Int.reduceAdd, Int.reduceSub, Int.reduceMul, Int.reduceEq, Int.reduceNeg, reduceCtorEq, resV, resAll, ARes.ev, LV.flat, ite_true, ite_false, exists_eq_left', exists_eq_left, keyOf, implies_true, fillC, capOf]
  refine callK_of (h_l2Empty) ?_
  simp (disch := omega) only [↓SXd, SXu, slBounds, ↓sop, ↓aop, ↓reduceIte, LV.cells, AOp.dst, LV.I, LV.B, LV.U, LV.S, LV.nil, Nat.reduceEqDiff, Nat.reduceAdd, Nat.reduceMul, Nat.reduceSub, Nat.reduceLeDiff, Nat.reduceBEq, Nat.reduceDiv, Nat.reduceMod, Int.reduceToNat, Int.reduceLT, Int.reduceLE, Int.reduceAdd, Int.reduceSub, Int.reduceMul, Int.reduceEq, Int.reduceNeg, reduceCtorEq, resV, resAll, ARes.ev, LV.flat, ite_true, ite_false, exists_eq_left', exists_eq_left, keyOf, implies_true, fillC, capOf]
  have h1 : CurAt (M ++ [some (.row [.I 0, .I 0, .I 0, .nil] true 0), some (.row [] true 3)]) p t o bs a := h.pre (Pre.app _ _)
  have hL1 : Live (M ++ [some (.row [.I 0, .I 0, .I 0, .nil] true 0), some (.row [] true 3)]) (M.length + 1) (.row (triL []) true 3) := Live.newj rfl
  have hL0 : Live (M ++ [some (.row [.I 0, .I 0, .I 0, .nil] true 0), some (.row [] true 3)]) M.length (.row [.I 0, .I 0, .I 0, .nil] true 0) := Live.new
  have hpM : Pre M (M ++ [some (.row [.I 0, .I 0, .I 0, .nil] true 0), some (.row [] true 3)]) := Pre.app _ _
  have ham := d_amongNew (xs := [2, 3, 2, 4]) h1 (by omega) (by simp) (by simp)
  rw [List.append_assoc, List.length_append] at ham
  refine callR_of ham ?_
  rintro _ N1 ⟨⟨odds, rfl, _⟩, hd1⟩
  have htM := hB.lt
  have hN1 := hd1.2.1
  simp only [List.length_append, List.length_cons, List.length_nil] at hN1
  have b8 : Live N1 M.length (.row [.I 0, .I 0, .I 0, .nil] true 0) := Live.at hL0 (hd1.2.2 _ (by simp) (by omega))
  have bc : Live N1 (M.length + 1) (.row (triL []) true 3) := Live.at hL1 (hd1.2.2 _ (by simp) (by omega))
  have hD1 : DrawN M p t o bs (a + 2) N1 := DrawN.of_pre hpM hd1
  simp (disch := omega) only [splice, ↓SXd, SXu, slBounds, ↓sop, ↓aop, ↓reduceIte, LV.cells, AOp.dst, LV.I, LV.B, LV.U, LV.S, LV.nil, Nat.reduceEqDiff, Nat.reduceAdd, Nat.reduceMul, Nat.reduceSub, Nat.reduceLeDiff, Nat.reduceBEq, Nat.reduceDiv, Nat.reduceMod, Int.reduceToNat, Int.reduceLT, Int.reduceLE, Int.reduceAdd, Int.reduceSub, Int.reduceMul, Int.reduceEq, Int.reduceNeg, reduceCtorEq, resV, resAll, ARes.ev, LV.flat, ite_true, ite_false, exists_eq_left', exists_eq_left, keyOf, implies_true, fillC, capOf]
  refine callK_of (h_l2Sides) ?_
  simp (disch := omega) only [↓SXd, SXu, slBounds, ↓sop, ↓aop, ↓reduceIte, LV.cells, AOp.dst, LV.I, LV.B, LV.U, LV.S, LV.nil, Nat.reduceEqDiff, Nat.reduceAdd, Nat.reduceMul, Nat.reduceSub, Nat.reduceLeDiff, Nat.reduceBEq, Nat.reduceDiv, Nat.reduceMod, Int.reduceToNat, Int.reduceLT, Int.reduceLE, Int.reduceAdd, Int.reduceSub, Int.reduceMul, Int.reduceEq, Int.reduceNeg, reduceCtorEq, resV, resAll, ARes.ev, LV.flat, ite_true, ite_false, exists_eq_left', exists_eq_left, keyOf, implies_true, fillC, capOf]
  by_cases hS : Sides x y z
  · rw [decide_eq_true hS]
    have hcl : (cellsOf x y z).length = vol x y z := by simp [cellsOf]
    have hv := vol_cast hS
    simp (disch := omega) only [splice, ↓SXd, SXu, slBounds, ↓sop, ↓aop, ↓reduceIte, LV.cells, AOp.dst, LV.I, LV.B, LV.U, LV.S, LV.nil, Nat.reduceEqDiff, Nat.reduceAdd, Nat.reduceMul, Nat.reduceSub, Nat.reduceLeDiff, Nat.reduceBEq, Nat.reduceDiv, Nat.reduceMod, Int.reduceToNat, Int.reduceLT, Int.reduceLE, Int.reduceAdd, Int.reduceSub, Int.reduceMul, Int.reduceEq, Int.reduceNeg, reduceCtorEq, resV, resAll, ARes.ev, LV.flat, ite_true, ite_false, exists_eq_left', exists_eq_left, keyOf, implies_true, fillC, capOf]
    refine callK_of (h_l2All hS) ?_
    simp (disch := omega) only [↓SXd, SXu, slBounds, ↓sop, ↓aop, ↓reduceIte, LV.cells, AOp.dst, LV.I, LV.B, LV.U, LV.S, LV.nil, Nat.reduceEqDiff, Nat.reduceAdd, Nat.reduceMul, Nat.reduceSub, Nat.reduceLeDiff, Nat.reduceBEq, Nat.reduceDiv, Nat.reduceMod, Int.reduceToNat, Int.reduceLT, Int.reduceLE, Int.reduceAdd, Int.reduceSub, Int.reduceMul, Int.reduceEq, Int.reduceNeg, reduceCtorEq, resV, resAll, ARes.ev, LV.flat, ite_true, ite_false, exists_eq_left', exists_eq_left, keyOf, implies_true, fillC, capOf]
    refine ev_loop (fun m fr M' => ∃ (i u : Nat) (cs : List Cell), i + m = (cellsOf x y z).length ∧ DrawN M p t o bs (a + 2 + 2 * i) M' ∧ N1.length + 2 ≤ M'.length ∧ Live M' M.length (.row [.I 0, .I 0, .I 0, .nil] true 0) ∧ Live M' N1.length (.row [.I x, .I y, .I z, .ref u 0 cs.length] true 0) ∧ Live M' (N1.length + 1) (.row (triL (cellsOf x y z)) true 3) ∧ Live M' u (.row (triL cs) true 3) ∧
      (u = M.length + 1 ∨ N1.length + 2 ≤ u) ∧ cs.Sublist ((cellsOf x y z).take i) ∧
      fr 0 = .ptr p 0 ∧ fr 1 = .I x ∧ fr 2 = .I y ∧ fr 3 = .I z ∧ fr 8 = .ptr M.length 0 ∧ fr 9 = .ptr N1.length 0 ∧ fr 10 = .I odds ∧ fr 11 = .ref (N1.length + 1) 0 (cellsOf x y z).length ∧ fr 12 = .I i) (cellsOf x y z).length
      ⟨0, M.length + 1, [], by omega, hD1.keep hpl htM (by omega) (by simp) fun q q1 => List.getElem?_append_left (by omega), by simp, b8.app, Live.new, Live.newj rfl, bc.app, .inl rfl, by simp, rfl, rfl, rfl, rfl, rfl, rfl, rfl, rfl, rfl⟩ ?_
    rintro m fr M' ⟨i, u, cs, hi, hd, hMl, c8, c9, ca, cu, hu, hsub, f0, f1, f2, f3, f8, f9, f10, f11, f12⟩
    have hsl := hsub.length_le
    have htl := List.length_take_le i (cellsOf x y z)
    simp (disch := omega) only [f0, f1, f2, f3, f8, f9, f10, f11, f12, ↓SXd, SXu, slBounds, ↓sop, ↓aop, ↓reduceIte, LV.cells, AOp.dst, LV.I, LV.B, LV.U, LV.S, LV.nil, Nat.reduceEqDiff, Nat.reduceAdd, Nat.reduceMul, Nat.reduceSub, Nat.reduceLeDiff, Nat.reduceBEq, Nat.reduceDiv, Nat.reduceMod, Int.reduceToNat, Int.reduceLT, Int.reduceLE, Int.reduceAdd, Int.reduceSub, Int.reduceMul, Int.reduceEq, Int.reduceNeg, reduceCtorEq, resV, resAll, ARes.ev, LV.flat, ite_true, ite_false, exists_eq_left', exists_eq_left, keyOf, implies_true, fillC, capOf]
    refine condC_dec (fun hlt => ?_) (fun hlt => ?_)
    · have hil : i < (cellsOf x y z).length := by omega
      have hts := take_snoc' (d := default) hil
      simp (disch := omega) only [f0, f1, f2, f3, f8, f9, f10, f11, f12, ↓SXd, SXu, slBounds, ↓sop, ↓aop, ↓reduceIte, LV.cells, AOp.dst, LV.I, LV.B, LV.U, LV.S, LV.nil, Nat.reduceEqDiff, Nat.reduceAdd, Nat.reduceMul, Nat.reduceSub, Nat.reduceLeDiff, Nat.reduceBEq, Nat.reduceDiv, Nat.reduceMod, Int.reduceToNat, Int.reduceLT, Int.reduceLE, Int.reduceAdd, Int.reduceSub, Int.reduceMul, Int.reduceEq, Int.reduceNeg, reduceCtorEq, resV, resAll, ARes.ev, LV.flat, ite_true, ite_false, exists_eq_left', exists_eq_left, keyOf, implies_true, fillC, capOf]
      refine callR_of (d_one hd.1 (by omega)) ?_
      rintro _ N2 ⟨⟨b, rfl⟩, hd2⟩
      have k2 : ∀ q, M.length ≤ q → q < M'.length → N2[q]? = M'[q]? := fun q q1 q2 => hd2.2.2 q q2 (by omega)
      have hN2 := hd2.2.1
      have e8 := Live.at c8 (k2 _ (by omega) c8.lt)
      have e9 := Live.at c9 (k2 _ (by omega) c9.lt)
      have ea := Live.at ca (k2 _ (by omega) ca.lt)
      have eu := Live.at cu (k2 _ (by omega) cu.lt)
      have hDD := hd.trans hd2
      have hg2 := ea.tri0 hil
      generalize (cellsOf x y z).getD i default = c at hts hg2
      have e8l := e8.lt
      have e9l := e9.lt
      have eal := ea.lt
      cases b with
      | true =>
        simp (disch := omega) only [f0, f1, f2, f3, f8, f9, f10, f11, f12, e9.cell, hg2, Cell.row, Nat.zero_add, ↓SXd, SXu, slBounds, ↓sop, ↓aop, ↓reduceIte, LV.cells, AOp.dst, LV.I, LV.B, LV.U, LV.S, LV.nil, Nat.reduceEqDiff, Nat.reduceAdd, Nat.reduceMul, Nat.reduceSub, Nat.reduceLeDiff, Nat.reduceBEq, Nat.reduceDiv, Nat.reduceMod, Int.reduceToNat, Int.reduceLT, Int.reduceLE, Int.reduceAdd, Int.reduceSub, Int.reduceMul, Int.reduceEq, Int.reduceNeg, reduceCtorEq, resV, resAll, ARes.ev, LV.flat, ite_true, ite_false, exists_eq_left', exists_eq_left, keyOf, implies_true, fillC, capOf]
        refine appendK_cell eu (by omega) fun N' l1 l2 l3 => ?_
        have d9 := live_step e9 (by omega) l3
        simp (disch := omega) only [f0, f1, f2, f3, f8, f9, f10, f11, f12, ↓SXd, SXu, slBounds, ↓sop, ↓aop, ↓reduceIte, LV.cells, AOp.dst, LV.I, LV.B, LV.U, LV.S, LV.nil, Nat.reduceEqDiff, Nat.reduceAdd, Nat.reduceMul, Nat.reduceSub, Nat.reduceLeDiff, Nat.reduceBEq, Nat.reduceDiv, Nat.reduceMod, Int.reduceToNat, Int.reduceLT, Int.reduceLE, Int.reduceAdd, Int.reduceSub, Int.reduceMul, Int.reduceEq, Int.reduceNeg, reduceCtorEq, resV, resAll, ARes.ev, LV.flat, ite_true, ite_false, exists_eq_left', exists_eq_left, keyOf, implies_true, fillC, capOf]
        refine memK_one d9 (by simp) fun N3 j1 j2 j3 => ?_
        simp (disch := omega) only [f0, f1, f2, f3, f8, f9, f10, f11, f12, ↓SXd, SXu, slBounds, ↓sop, ↓aop, ↓reduceIte, LV.cells, AOp.dst, LV.I, LV.B, LV.U, LV.S, LV.nil, Nat.reduceEqDiff, Nat.reduceAdd, Nat.reduceMul, Nat.reduceSub, Nat.reduceLeDiff, Nat.reduceBEq, Nat.reduceDiv, Nat.reduceMod, Int.reduceToNat, Int.reduceLT, Int.reduceLE, Int.reduceAdd, Int.reduceSub, Int.reduceMul, Int.reduceEq, Int.reduceNeg, reduceCtorEq, resV, resAll, ARes.ev, LV.flat, ite_true, ite_false, exists_eq_left', exists_eq_left, keyOf, implies_true, fillC, capOf]
        rw [cell_eta] at l2 j2
        exact ⟨m - 1, by omega, i + 1, N2.length + 1, cs ++ [c], by omega, hDD.keep hpl htM (by omega) (by omega) fun q q1 => by rw [j3 q (by omega) (by omega), l3 q (by omega) (by omega)], by omega, live_step (live_step e8 (by omega) l3) (by omega) j3, j2, live_step (live_step ea (by omega) l3) (by omega) j3, live_step l2 (by omega) j3, by omega, by rw [hts]; exact hsub.append (List.Sublist.refl _), f0, f1, f2, f3, f8, f9, f10, f11, eqI (natI _)⟩
      | false =>
        simp (disch := omega) only [f0, f1, f2, f3, f8, f9, f10, f11, f12, ↓SXd, SXu, slBounds, ↓sop, ↓aop, ↓reduceIte, LV.cells, AOp.dst, LV.I, LV.B, LV.U, LV.S, LV.nil, Nat.reduceEqDiff, Nat.reduceAdd, Nat.reduceMul, Nat.reduceSub, Nat.reduceLeDiff, Nat.reduceBEq, Nat.reduceDiv, Nat.reduceMod, Int.reduceToNat, Int.reduceLT, Int.reduceLE, Int.reduceAdd, Int.reduceSub, Int.reduceMul, Int.reduceEq, Int.reduceNeg, reduceCtorEq, resV, resAll, ARes.ev, LV.flat, ite_true, ite_false, exists_eq_left', exists_eq_left, keyOf, implies_true, fillC, capOf]
        exact ⟨m - 1, by omega, i + 1, u, cs, by omega, hDD.up (by omega), by omega, e8, e9, ea, eu, hu, by rw [hts]; exact hsub.trans (List.sublist_append_left _ _), f0, f1, f2, f3, f8, f9, f10, f11, eqI (natI _)⟩
    · have hil : i = (cellsOf x y z).length := by omega
      subst hil
      rw [List.take_length] at hsub
      have hH := sub_heap hS hsub
      simp (disch := omega) only [f0, f1, f2, f3, f8, f9, f10, f11, f12, ↓SXd, SXu, slBounds, ↓sop, ↓aop, ↓reduceIte, LV.cells, AOp.dst, LV.I, LV.B, LV.U, LV.S, LV.nil, Nat.reduceEqDiff, Nat.reduceAdd, Nat.reduceMul, Nat.reduceSub, Nat.reduceLeDiff, Nat.reduceBEq, Nat.reduceDiv, Nat.reduceMod, Int.reduceToNat, Int.reduceLT, Int.reduceLE, Int.reduceAdd, Int.reduceSub, Int.reduceMul, Int.reduceEq, Int.reduceNeg, reduceCtorEq, resV, resAll, ARes.ev, LV.flat, ite_true, ite_false, exists_eq_left', exists_eq_left, keyOf, implies_true, fillC, capOf]
      refine callR_of (d_pick hd.1 (by omega)) ?_
      rintro _ N2 ⟨⟨b, rfl, _⟩, hd2⟩
      have k2 : ∀ q, M.length ≤ q → q < M'.length → N2[q]? = M'[q]? := fun q q1 q2 => hd2.2.2 q q2 (by omega)
      have hN2 := hd2.2.1
      have e8 := Live.at c8 (k2 _ (by omega) c8.lt)
      have e9 := Live.at c9 (k2 _ (by omega) c9.lt)
      have eu := Live.at cu (k2 _ (by omega) cu.lt)
      have hDD := hd.trans hd2
      have hfin : ∀ {N3 : Mem} {u3 : Nat} {cs3 : List Cell}, Pre N2 N3 → Live N3 u3 (.row (triL cs3) true 3) → cs3.length ≤ 64 → HeapOK x y z cs3 → M.length ≤ u3 → u3 ≠ M.length → u3 ≠ N1.length → ∀ {N4 N5 : Mem}, N4.length = N3.length → (∀ q, q ≠ N1.length → q < N3.length → N4[q]? = N3[q]?) → N5.length = N4.length → (∀ q, q ≠ M.length → q < N4.length → N5[q]? = N4[q]?) → HeapNK M x y z (.agg [.I x, .I y, .I z, .ref u3 0 cs3.length]) N5 ∧ DrawN M p t o bs (a + 140) N5 := fun {N3 u3 cs3} hp3 hl3 hc3 hHK h1 h2 h3 {N4 N5} a1 a2 a3 a4 => by
        have hl := hp3.1
        have hul := hl3.lt
        exact ⟨⟨cs3, u3, rfl, live_step (live_step hl3 h3 a2) h2 a4, h1, hc3, fun _ => hHK⟩, hDD.keep hpl htM (by omega) (by omega) fun q q1 => by rw [a4 q (by omega) (by omega), a2 q (by omega) (by omega)]; exact hp3.2 q (by omega)⟩
      by_cases b0 : (b : Int) = 0
      · simp (disch := omega) only [b0, f0, f1, f2, f3, f8, f9, f10, f11, f12, e9.cells, ↓SXd, SXu, slBounds, ↓sop, ↓aop, ↓reduceIte, LV.cells, AOp.dst, LV.I, LV.B, LV.U, LV.S, LV.nil, Nat.reduceEqDiff, Nat.reduceAdd, Nat.reduceMul, Nat.reduceSub, Nat.reduceLeDiff, Nat.reduceBEq, Nat.reduceDiv, Nat.reduceMod, Int.reduceToNat, Int.reduceLT, Int.reduceLE, Int.reduceAdd, Int.reduceSub, Int.reduceMul, Int.reduceEq, Int.reduceNeg, reduceCtorEq, resV, resAll, ARes.ev, LV.flat, ite_true, ite_false, exists_eq_left', exists_eq_left, keyOf, implies_true, fillC, capOf]
        refine callR_of (h_OtherCells eu.has (by omega)) ?_
        rintro _ N3 ⟨h1, _, hp3⟩
        obtain ⟨u3, rfl, hl3, hu3⟩ := h1 hH
        have hl := hp3.1
        simp (disch := omega) only [f0, f1, f2, f3, f8, f9, f10, f11, f12, ↓SXd, SXu, slBounds, ↓sop, ↓aop, ↓reduceIte, LV.cells, AOp.dst, LV.I, LV.B, LV.U, LV.S, LV.nil, Nat.reduceEqDiff, Nat.reduceAdd, Nat.reduceMul, Nat.reduceSub, Nat.reduceLeDiff, Nat.reduceBEq, Nat.reduceDiv, Nat.reduceMod, Int.reduceToNat, Int.reduceLT, Int.reduceLE, Int.reduceAdd, Int.reduceSub, Int.reduceMul, Int.reduceEq, Int.reduceNeg, reduceCtorEq, resV, resAll, ARes.ev, LV.flat, ite_true, ite_false, exists_eq_left', exists_eq_left, keyOf, implies_true, fillC, capOf]
        refine memK_box (e9.pre hp3) (by simp) fun N4 j1 j2 j3 => ?_
        simp (disch := omega) only [f0, f1, f2, f3, f8, f9, f10, f11, f12, j2.cells, ↓SXd, SXu, slBounds, ↓sop, ↓aop, ↓reduceIte, LV.cells, AOp.dst, LV.I, LV.B, LV.U, LV.S, LV.nil, Nat.reduceEqDiff, Nat.reduceAdd, Nat.reduceMul, Nat.reduceSub, Nat.reduceLeDiff, Nat.reduceBEq, Nat.reduceDiv, Nat.reduceMod, Int.reduceToNat, Int.reduceLT, Int.reduceLE, Int.reduceAdd, Int.reduceSub, Int.reduceMul, Int.reduceEq, Int.reduceNeg, reduceCtorEq, resV, resAll, ARes.ev, LV.flat, ite_true, ite_false, exists_eq_left', exists_eq_left, keyOf, implies_true, fillC, capOf]
        refine memK_box (live_step (e8.pre hp3) (by omega) j3) (by simp) fun N5 i1 i2 i3 => ?_
        simp (disch := omega) only [f0, f1, f2, f3, f8, f9, f10, f11, f12, i2.cells, ↓SXd, SXu, slBounds, ↓sop, ↓aop, ↓reduceIte, LV.cells, AOp.dst, LV.I, LV.B, LV.U, LV.S, LV.nil, Nat.reduceEqDiff, Nat.reduceAdd, Nat.reduceMul, Nat.reduceSub, Nat.reduceLeDiff, Nat.reduceBEq, Nat.reduceDiv, Nat.reduceMod, Int.reduceToNat, Int.reduceLT, Int.reduceLE, Int.reduceAdd, Int.reduceSub, Int.reduceMul, Int.reduceEq, Int.reduceNeg, reduceCtorEq, resV, resAll, ARes.ev, LV.flat, ite_true, ite_false, exists_eq_left', exists_eq_left, keyOf, implies_true, fillC, capOf]
        exact hfin hp3 hl3 (pick_len hS _) (pick_ok hS _) (by omega) (by omega) (by omega) j1 j3 i1 i3
      by_cases b1 : (b : Int) = 1
      · simp (disch := omega) only [b1, f0, f1, f2, f3, f8, f9, f10, f11, f12, e9.cells, ↓SXd, SXu, slBounds, ↓sop, ↓aop, ↓reduceIte, LV.cells, AOp.dst, LV.I, LV.B, LV.U, LV.S, LV.nil, Nat.reduceEqDiff, Nat.reduceAdd, Nat.reduceMul, Nat.reduceSub, Nat.reduceLeDiff, Nat.reduceBEq, Nat.reduceDiv, Nat.reduceMod, Int.reduceToNat, Int.reduceLT, Int.reduceLE, Int.reduceAdd, Int.reduceSub, Int.reduceMul, Int.reduceEq, Int.reduceNeg, reduceCtorEq, resV, resAll, ARes.ev, LV.flat, ite_true, ite_false, exists_eq_left', exists_eq_left, keyOf, implies_true, fillC, capOf]
        refine callN_of (h_l2Heights eu.has hH) ?_
        intro w N3 hw hp3 hl3
        have hl := hp3.1
        simp (disch := omega) only [f0, f1, f2, f3, f8, f9, f10, f11, f12, ↓SXd, SXu, slBounds, ↓sop, ↓aop, ↓reduceIte, LV.cells, AOp.dst, LV.I, LV.B, LV.U, LV.S, LV.nil, Nat.reduceEqDiff, Nat.reduceAdd, Nat.reduceMul, Nat.reduceSub, Nat.reduceLeDiff, Nat.reduceBEq, Nat.reduceDiv, Nat.reduceMod, Int.reduceToNat, Int.reduceLT, Int.reduceLE, Int.reduceAdd, Int.reduceSub, Int.reduceMul, Int.reduceEq, Int.reduceNeg, reduceCtorEq, resV, resAll, ARes.ev, LV.flat, ite_true, ite_false, exists_eq_left', exists_eq_left, keyOf, implies_true, fillC, capOf]
        refine callR_of (h_l2Stack hS hl3.has (by
          rw [viewL_len]
          have := prod_le hS
          have e : linesOf x y z 2 = x * y := rfl
          omega)) ?_
        rintro _ N4 ⟨u4, rfl, hl4, hu4, hp4⟩
        have hp34 := hp3.trans hp4
        have hll := hp4.1
        simp (disch := omega) only [f0, f1, f2, f3, f8, f9, f10, f11, f12, ↓SXd, SXu, slBounds, ↓sop, ↓aop, ↓reduceIte, LV.cells, AOp.dst, LV.I, LV.B, LV.U, LV.S, LV.nil, Nat.reduceEqDiff, Nat.reduceAdd, Nat.reduceMul, Nat.reduceSub, Nat.reduceLeDiff, Nat.reduceBEq, Nat.reduceDiv, Nat.reduceMod, Int.reduceToNat, Int.reduceLT, Int.reduceLE, Int.reduceAdd, Int.reduceSub, Int.reduceMul, Int.reduceEq, Int.reduceNeg, reduceCtorEq, resV, resAll, ARes.ev, LV.flat, ite_true, ite_false, exists_eq_left', exists_eq_left, keyOf, implies_true, fillC, capOf]
        refine memK_box (e9.pre hp34) (by simp) fun N5 j1 j2 j3 => ?_
        simp (disch := omega) only [f0, f1, f2, f3, f8, f9, f10, f11, f12, j2.cells, ↓SXd, SXu, slBounds, ↓sop, ↓aop, ↓reduceIte, LV.cells, AOp.dst, LV.I, LV.B, LV.U, LV.S, LV.nil, Nat.reduceEqDiff, Nat.reduceAdd, Nat.reduceMul, Nat.reduceSub, Nat.reduceLeDiff, Nat.reduceBEq, Nat.reduceDiv, Nat.reduceMod, Int.reduceToNat, Int.reduceLT, Int.reduceLE, Int.reduceAdd, Int.reduceSub, Int.reduceMul, Int.reduceEq, Int.reduceNeg, reduceCtorEq, resV, resAll, ARes.ev, LV.flat, ite_true, ite_false, exists_eq_left', exists_eq_left, keyOf, implies_true, fillC, capOf]
        refine memK_box (live_step (e8.pre hp34) (by omega) j3) (by simp) fun N6 i1 i2 i3 => ?_
        simp (disch := omega) only [f0, f1, f2, f3, f8, f9, f10, f11, f12, i2.cells, ↓SXd, SXu, slBounds, ↓sop, ↓aop, ↓reduceIte, LV.cells, AOp.dst, LV.I, LV.B, LV.U, LV.S, LV.nil, Nat.reduceEqDiff, Nat.reduceAdd, Nat.reduceMul, Nat.reduceSub, Nat.reduceLeDiff, Nat.reduceBEq, Nat.reduceDiv, Nat.reduceMod, Int.reduceToNat, Int.reduceLT, Int.reduceLE, Int.reduceAdd, Int.reduceSub, Int.reduceMul, Int.reduceEq, Int.reduceNeg, reduceCtorEq, resV, resAll, ARes.ev, LV.flat, ite_true, ite_false, exists_eq_left', exists_eq_left, keyOf, implies_true, fillC, capOf]
        exact hfin hp34 hl4 (pick_len hS _) (pick_ok hS _) (by omega) (by omega) (by omega) j1 j3 i1 i3
      · simp (disch := omega) only [b0, b1, f0, f1, f2, f3, f8, f9, f10, f11, f12, e9.cells, ↓SXd, SXu, slBounds, ↓sop, ↓aop, ↓reduceIte, LV.cells, AOp.dst, LV.I, LV.B, LV.U, LV.S, LV.nil, Nat.reduceEqDiff, Nat.reduceAdd, Nat.reduceMul, Nat.reduceSub, Nat.reduceLeDiff, Nat.reduceBEq, Nat.reduceDiv, Nat.reduceMod, Int.reduceToNat, Int.reduceLT, Int.reduceLE, Int.reduceAdd, Int.reduceSub, Int.reduceMul, Int.reduceEq, Int.reduceNeg, reduceCtorEq, resV, resAll, ARes.ev, LV.flat, ite_true, ite_false, exists_eq_left', exists_eq_left, keyOf, implies_true, fillC, capOf]
        refine memK_box e8 (by simp) fun N5 i1 i2 i3 => ?_
        simp (disch := omega) only [f0, f1, f2, f3, f8, f9, f10, f11, f12, i2.cells, ↓SXd, SXu, slBounds, ↓sop, ↓aop, ↓reduceIte, LV.cells, AOp.dst, LV.I, LV.B, LV.U, LV.S, LV.nil, Nat.reduceEqDiff, Nat.reduceAdd, Nat.reduceMul, Nat.reduceSub, Nat.reduceLeDiff, Nat.reduceBEq, Nat.reduceDiv, Nat.reduceMod, Int.reduceToNat, Int.reduceLT, Int.reduceLE, Int.reduceAdd, Int.reduceSub, Int.reduceMul, Int.reduceEq, Int.reduceNeg, reduceCtorEq, resV, resAll, ARes.ev, LV.flat, ite_true, ite_false, exists_eq_left', exists_eq_left, keyOf, implies_true, fillC, capOf]
        exact hfin (Pre.refl _) eu (by omega) hH (by omega) (by omega) (by omega) rfl (fun _ _ _ => rfl) i1 i3
  · rw [decide_eq_false hS]
    simp (disch := omega) only [splice, ↓SXd, SXu, slBounds, ↓sop, ↓aop, ↓reduceIte, LV.cells, AOp.dst, LV.I, LV.B, LV.U, LV.S, LV.nil, Nat.reduceEqDiff, Nat.reduceAdd, Nat.reduceMul, Nat.reduceSub, Nat.reduceLeDiff, Nat.reduceBEq, Nat.reduceDiv, Nat.reduceMod, Int.reduceToNat, Int.reduceLT, Int.reduceLE, Int.reduceAdd, Int.reduceSub, Int.reduceMul, Int.reduceEq, Int.reduceNeg, reduceCtorEq, resV, resAll, ARes.ev, LV.flat, ite_true, ite_false, exists_eq_left', exists_eq_left, keyOf, implies_true, fillC, capOf]
    refine memK_box b8.app (by simp) fun N3 j1 j2 j3 => ?_
    simp (disch := omega) only [j2.cells, ↓SXd, SXu, slBounds, ↓sop, ↓aop, ↓reduceIte, LV.cells, AOp.dst, LV.I, LV.B, LV.U, LV.S, LV.nil, Nat.reduceEqDiff, Nat.reduceAdd, Nat.reduceMul, Nat.reduceSub, Nat.reduceLeDiff, Nat.reduceBEq, Nat.reduceDiv, Nat.reduceMod, Int.reduceToNat, Int.reduceLT, Int.reduceLE, Int.reduceAdd, Int.reduceSub, Int.reduceMul, Int.reduceEq, Int.reduceNeg, reduceCtorEq, resV, resAll, ARes.ev, LV.flat, ite_true, ite_false, exists_eq_left', exists_eq_left, keyOf, implies_true, fillC, capOf]
    refine ⟨⟨[], M.length + 1, rfl, live_step bc.app (by omega) j3, by omega, by simp, fun h => absurd h hS⟩, hD1.keep hpl htM (by omega) (by rw [j1]; simp) fun q q1 => by rw [j3 q (by omega) (by simp; omega), List.getElem?_append_left (by omega)]⟩
theorem d_someHeap {x y z : Int} (h : CurAt M p t o bs a) (ha : a ≤ 999000) : CallsR PG F.spec_l1Cur_someHeap [.ptr p 0, .I x, .I y, .I z] M fun v N => HeapN M x y z v N ∧ DrawN M p t o bs (a + 140) N :=
  (d_someHeapK h ha).mono fun v N hv => by
    obtain ⟨⟨cs, u, h1, h2, h3, h4, _⟩, hd⟩ := hv
    exact ⟨⟨cs, u, h1, h2, h3, h4⟩, hd⟩
end
end Go.Ab

namespace Go.Ab
open Go
set_option maxRecDepth 20000

theorem CurAt.new {t o : Nat} {bs : List Nat} {M : Mem} (hB : Bytes M t o bs) (h255 : ∀ b ∈ bs, b ≤ 255) (hl : bs.length ≤ 1000000000) : CurAt (M ++ [some (.row [.ref t o bs.length, .I 0, .val (.int .u64 0)] true 0)]) M.length t o bs 0 := by
  have ht := hB.lt
  exact ⟨⟨0, 0, Nat.le_refl _, Live.new⟩, Has.app hB, by omega, h255, hl⟩
def HeapD (M : Mem) (v : LV) (N : Mem) : Prop := ∃ (x y z : Int) (w : LV) (cs : List Cell), v = .agg [.I x, .I y, .I z, w] ∧ ((w = .nil ∧ cs = []) ∨ ∃ u, w = .ref u 0 cs.length ∧ Live N u (.row (triL cs) true 3)) ∧ Newer M w ∧ cs.length ≤ 65
theorem d_heap {p t o a : Nat} {bs : List Nat} {M : Mem} (h : CurAt M p t o bs a) (ha : a ≤ 990000) : CallsR PG F.spec_l1Cur_heap [.ptr p 0] M fun v N => HeapD M v N ∧ DrawN M p t o bs (a + 160) N := by
  obtain ⟨⟨_, _, _, hpl'⟩, hB, _⟩ := id h
  have hpl := hpl'.lt
  have htM := hB.lt
  refine callsR_run K.spec_l1Cur_heap rfl ?_
  simp (disch := omega) only [C.spec_l1Cur_heap, ↓SXd, SXu, slBounds, ↓sop, ↓aop, ↓reduceIte, LV.cells, AOp.dst, LV.I, LV.B, LV.U, LV.S, LV.nil, Nat.reduceEqDiff, Nat.reduceAdd, Nat.reduceMul, Nat.reduceSub, Nat.reduceLeDiff, Nat.reduceBEq, Nat.reduceDiv, Nat.reduceMod, Int.reduceToNat, Int.reduceLT, Int.reduceLE, Int.reduceAdd, Int.reduceSub, Int.reduceMul, Int.reduceEq, Int.reduceNeg, reduceCtorEq, resV, resAll, ARes.ev, LV.flat, ite_true, ite_false, exists_eq_left', exists_eq_left, keyOf, implies_true, fillC, capOf]
  have h0 : CurAt (M ++ [some (.row [.I 0, .I 0, .I 0, .val (.slice none 0 0)] true 0)]) p t o bs a := h.pre (Pre.app _ _)
  refine callR_of (d_sides h0 (by omega)) ?_
  rintro _ N1 ⟨⟨x, y, z, rfl⟩, hd1⟩
  have hN1 := hd1.2.1
  rw [List.length_append, List.length_singleton] at hN1
  have b2 : Live N1 M.length (.row [.I 0, .I 0, .I 0, .val (.slice none 0 0)] true 0) := Live.at Live.new (hd1.2.2 _ (by simp) (by omega))
  have hD1 := DrawN.of_pre (Pre.app _ _) hd1
  simp (disch := omega) only [↓SXd, SXu, slBounds, ↓sop, ↓aop, ↓reduceIte, LV.cells, AOp.dst, LV.I, LV.B, LV.U, LV.S, LV.nil, Nat.reduceEqDiff, Nat.reduceAdd, Nat.reduceMul, Nat.reduceSub, Nat.reduceLeDiff, Nat.reduceBEq, Nat.reduceDiv, Nat.reduceMod, Int.reduceToNat, Int.reduceLT, Int.reduceLE, Int.reduceAdd, Int.reduceSub, Int.reduceMul, Int.reduceEq, Int.reduceNeg, reduceCtorEq, resV, resAll, ARes.ev, LV.flat, ite_true, ite_false, exists_eq_left', exists_eq_left, keyOf, implies_true, fillC, capOf]
  refine callR_of (d_someHeap hd1.1 (by omega)) ?_
  rintro _ N2 ⟨⟨cs, u, rfl, hu, hul, hcl⟩, hd2⟩
  have hN2 := hd2.2.1
  have c2 := Live.at b2 (hd2.2.2 _ b2.lt (by omega))
  have hD2 := hD1.trans hd2
  have hull := hu.lt
  simp (disch := omega) only [splice, ↓SXd, SXu, slBounds, ↓sop, ↓aop, ↓reduceIte, LV.cells, AOp.dst, LV.I, LV.B, LV.U, LV.S, LV.nil, Nat.reduceEqDiff, Nat.reduceAdd, Nat.reduceMul, Nat.reduceSub, Nat.reduceLeDiff, Nat.reduceBEq, Nat.reduceDiv, Nat.reduceMod, Int.reduceToNat, Int.reduceLT, Int.reduceLE, Int.reduceAdd, Int.reduceSub, Int.reduceMul, Int.reduceEq, Int.reduceNeg, reduceCtorEq, resV, resAll, ARes.ev, LV.flat, ite_true, ite_false, exists_eq_left', exists_eq_left, keyOf, implies_true, fillC, capOf]
  have hu3 : Live (N2 ++ [some (.row [.I x, .I y, .I z, .ref u 0 cs.length] true 0)]) u (.row (triL cs) true 3) := hu.app
  have c3 : Live (N2 ++ [some (.row [.I x, .I y, .I z, .ref u 0 cs.length] true 0)]) M.length (.row [.I 0, .I 0, .I 0, .val (.slice none 0 0)] true 0) := c2.app
  have c6 : Live (N2 ++ [some (.row [.I x, .I y, .I z, .ref u 0 cs.length] true 0)]) N2.length (.row [.I x, .I y, .I z, .ref u 0 cs.length] true 0) := Live.new
  have hD3 : DrawN M p t o bs (a + 150) (N2 ++ [some (.row [.I x, .I y, .I z, .ref u 0 cs.length] true 0)]) := hD2.keep hpl htM (by omega) (by simp) fun q q1 => List.getElem?_append_left (by omega)
  have hl3 : (N2 ++ [some (Blk.row [.I x, .I y, .I z, .ref u 0 cs.length] true 0)]).length = N2.length + 1 := by simp
  generalize N2 ++ [some (Blk.row [.I x, .I y, .I z, .ref u 0 cs.length] true 0)] = N3 at hu3 c3 c6 hD3 hl3 ⊢
  refine callR_of (d_pick hD3.1 (by omega)) ?_
  rintro _ N4 ⟨⟨b, rfl, _⟩, hd4⟩
  have hN4 := hd4.2.1
  have k4 : ∀ q, M.length ≤ q → q < N3.length → N4[q]? = N3[q]? := fun q q1 q2 => hd4.2.2 q q2 (by omega)
  have u4 := Live.at hu3 (k4 _ (by omega) hu3.lt)
  have e2 := Live.at c3 (k4 _ (by omega) c3.lt)
  have e6 := Live.at c6 (k4 _ (by omega) c6.lt)
  have e2l := e2.lt
  have e6l := e6.lt
  have u4l := u4.lt
  have hD4 := hD3.trans hd4
  have hfin : ∀ {cs5 : List Cell} {u5 : Nat} {N5 N6 : Mem}, Live N5 u5 (.row (triL cs5) true 3) → cs5.length ≤ 65 → N1.length ≤ u5 → DrawN M p t o bs (a + 160) N5 → N6.length = N5.length → (∀ q, q ≠ M.length → q < N5.length → N6[q]? = N5[q]?) → HeapD M (.agg [.I x, .I y, .I z, .ref u5 0 cs5.length]) N6 ∧ DrawN M p t o bs (a + 160) N6 := fun {cs5 u5 N5 N6} h1 h2 h3 h4 a1 a2 =>
    ⟨⟨x, y, z, _, cs5, rfl, .inr ⟨u5, rfl, live_step h1 (by omega) a2⟩, Newer.of (by omega), h2⟩, h4.keep hpl htM (Nat.le_refl _) (by omega) fun q q1 => a2 q (by omega) (by have := h4.2.1; omega)⟩
  have happ : ∀ {c : Cell} {N5 N6 : Mem}, N5.length = N4.length + 2 → Live N5 (N4.length + 1) (.row (triL (cs ++ [c])) true 3) → (∀ q, q ≠ u → q < N4.length → N5[q]? = N4[q]?) → N6.length = N5.length → (∀ q, q ≠ N2.length → q < N5.length → N6[q]? = N5[q]?) → Live N6 (N4.length + 1) (.row (triL (cs ++ [c])) true 3) ∧ Live N6 M.length (.row [.I 0, .I 0, .I 0, .val (.slice none 0 0)] true 0) ∧ DrawN M p t o bs (a + 160) N6 := fun {c N5 N6} a1 a2 a3 a4 a5 =>
    ⟨live_step a2 (by omega) a5, live_step (live_step e2 (by omega) a3) (by omega) a5, hD4.keep hpl htM (by omega) (by omega) fun q q1 => by rw [a5 q (by omega) (by omega), a3 q (by omega) (by omega)]⟩
  by_cases b0 : (b : Int) = 0
  · simp (disch := omega) only [b0, e6.cell, splice, ↓SXd, SXu, slBounds, ↓sop, ↓aop, ↓reduceIte, LV.cells, AOp.dst, LV.I, LV.B, LV.U, LV.S, LV.nil, Nat.reduceEqDiff, Nat.reduceAdd, Nat.reduceMul, Nat.reduceSub, Nat.reduceLeDiff, Nat.reduceBEq, Nat.reduceDiv, Nat.reduceMod, Int.reduceToNat, Int.reduceLT, Int.reduceLE, Int.reduceAdd, Int.reduceSub, Int.reduceMul, Int.reduceEq, Int.reduceNeg, reduceCtorEq, resV, resAll, ARes.ev, LV.flat, ite_true, ite_false, exists_eq_left', exists_eq_left, keyOf, implies_true, fillC, capOf]
    refine appendK_cell u4 (by omega) fun N5 l1 l2 l3 => ?_
    simp (disch := omega) only [↓SXd, SXu, slBounds, ↓sop, ↓aop, ↓reduceIte, LV.cells, AOp.dst, LV.I, LV.B, LV.U, LV.S, LV.nil, Nat.reduceEqDiff, Nat.reduceAdd, Nat.reduceMul, Nat.reduceSub, Nat.reduceLeDiff, Nat.reduceBEq, Nat.reduceDiv, Nat.reduceMod, Int.reduceToNat, Int.reduceLT, Int.reduceLE, Int.reduceAdd, Int.reduceSub, Int.reduceMul, Int.reduceEq, Int.reduceNeg, reduceCtorEq, resV, resAll, ARes.ev, LV.flat, ite_true, ite_false, exists_eq_left', exists_eq_left, keyOf, implies_true, fillC, capOf]
    refine memK_one (live_step e6 (by omega) l3) (by simp) fun N6 j1 j2 j3 => ?_
    obtain ⟨g1, g2, g3⟩ := happ l1 l2 l3 j1 j3
    simp (disch := omega) only [j2.cells, ↓SXd, SXu, slBounds, ↓sop, ↓aop, ↓reduceIte, LV.cells, AOp.dst, LV.I, LV.B, LV.U, LV.S, LV.nil, Nat.reduceEqDiff, Nat.reduceAdd, Nat.reduceMul, Nat.reduceSub, Nat.reduceLeDiff, Nat.reduceBEq, Nat.reduceDiv, Nat.reduceMod, Int.reduceToNat, Int.reduceLT, Int.reduceLE, Int.reduceAdd, Int.reduceSub, Int.reduceMul, Int.reduceEq, Int.reduceNeg, reduceCtorEq, resV, resAll, ARes.ev, LV.flat, ite_true, ite_false, exists_eq_left', exists_eq_left, keyOf, implies_true, fillC, capOf]
    refine memK_box g2 (by simp) fun N7 i1 i2 i3 => ?_
    simp (disch := omega) only [i2.cells, ↓SXd, SXu, slBounds, ↓sop, ↓aop, ↓reduceIte, LV.cells, AOp.dst, LV.I, LV.B, LV.U, LV.S, LV.nil, Nat.reduceEqDiff, Nat.reduceAdd, Nat.reduceMul, Nat.reduceSub, Nat.reduceLeDiff, Nat.reduceBEq, Nat.reduceDiv, Nat.reduceMod, Int.reduceToNat, Int.reduceLT, Int.reduceLE, Int.reduceAdd, Int.reduceSub, Int.reduceMul, Int.reduceEq, Int.reduceNeg, reduceCtorEq, resV, resAll, ARes.ev, LV.flat, ite_true, ite_false, exists_eq_left', exists_eq_left, keyOf, implies_true, fillC, capOf]
    exact hfin g1 (by simp; omega) (by omega) g3 i1 i3
  by_cases b1 : (b : Int) = 1
  · simp (disch := omega) only [b1, e6.cell, splice, ↓SXd, SXu, slBounds, ↓sop, ↓aop, ↓reduceIte, LV.cells, AOp.dst, LV.I, LV.B, LV.U, LV.S, LV.nil, Nat.reduceEqDiff, Nat.reduceAdd, Nat.reduceMul, Nat.reduceSub, Nat.reduceLeDiff, Nat.reduceBEq, Nat.reduceDiv, Nat.reduceMod, Int.reduceToNat, Int.reduceLT, Int.reduceLE, Int.reduceAdd, Int.reduceSub, Int.reduceMul, Int.reduceEq, Int.reduceNeg, reduceCtorEq, resV, resAll, ARes.ev, LV.flat, ite_true, ite_false, exists_eq_left', exists_eq_left, keyOf, implies_true, fillC, capOf]
    refine appendK_cell u4 (by omega) fun N5 l1 l2 l3 => ?_
    simp (disch := omega) only [↓SXd, SXu, slBounds, ↓sop, ↓aop, ↓reduceIte, LV.cells, AOp.dst, LV.I, LV.B, LV.U, LV.S, LV.nil, Nat.reduceEqDiff, Nat.reduceAdd, Nat.reduceMul, Nat.reduceSub, Nat.reduceLeDiff, Nat.reduceBEq, Nat.reduceDiv, Nat.reduceMod, Int.reduceToNat, Int.reduceLT, Int.reduceLE, Int.reduceAdd, Int.reduceSub, Int.reduceMul, Int.reduceEq, Int.reduceNeg, reduceCtorEq, resV, resAll, ARes.ev, LV.flat, ite_true, ite_false, exists_eq_left', exists_eq_left, keyOf, implies_true, fillC, capOf]
    refine memK_one (live_step e6 (by omega) l3) (by simp) fun N6 j1 j2 j3 => ?_
    obtain ⟨g1, g2, g3⟩ := happ l1 l2 l3 j1 j3
    simp (disch := omega) only [j2.cells, ↓SXd, SXu, slBounds, ↓sop, ↓aop, ↓reduceIte, LV.cells, AOp.dst, LV.I, LV.B, LV.U, LV.S, LV.nil, Nat.reduceEqDiff, Nat.reduceAdd, Nat.reduceMul, Nat.reduceSub, Nat.reduceLeDiff, Nat.reduceBEq, Nat.reduceDiv, Nat.reduceMod, Int.reduceToNat, Int.reduceLT, Int.reduceLE, Int.reduceAdd, Int.reduceSub, Int.reduceMul, Int.reduceEq, Int.reduceNeg, reduceCtorEq, resV, resAll, ARes.ev, LV.flat, ite_true, ite_false, exists_eq_left', exists_eq_left, keyOf, implies_true, fillC, capOf]
    refine memK_box g2 (by simp) fun N7 i1 i2 i3 => ?_
    simp (disch := omega) only [i2.cells, ↓SXd, SXu, slBounds, ↓sop, ↓aop, ↓reduceIte, LV.cells, AOp.dst, LV.I, LV.B, LV.U, LV.S, LV.nil, Nat.reduceEqDiff, Nat.reduceAdd, Nat.reduceMul, Nat.reduceSub, Nat.reduceLeDiff, Nat.reduceBEq, Nat.reduceDiv, Nat.reduceMod, Int.reduceToNat, Int.reduceLT, Int.reduceLE, Int.reduceAdd, Int.reduceSub, Int.reduceMul, Int.reduceEq, Int.reduceNeg, reduceCtorEq, resV, resAll, ARes.ev, LV.flat, ite_true, ite_false, exists_eq_left', exists_eq_left, keyOf, implies_true, fillC, capOf]
    exact hfin g1 (by simp; omega) (by omega) g3 i1 i3
  by_cases b2 : (b : Int) = 2
  · by_cases hc0 : (cs.length : Int) > 0
    · have hg := u4.tri0 (k := 0) (by omega)
      rw [Nat.zero_mul] at hg
      simp (disch := omega) only [b2, e6.cell, hc0, hg, Cell.row, splice, ↓SXd, SXu, slBounds, ↓sop, ↓aop, ↓reduceIte, LV.cells, AOp.dst, LV.I, LV.B, LV.U, LV.S, LV.nil, Nat.reduceEqDiff, Nat.reduceAdd, Nat.reduceMul, Nat.reduceSub, Nat.reduceLeDiff, Nat.reduceBEq, Nat.reduceDiv, Nat.reduceMod, Int.reduceToNat, Int.reduceLT, Int.reduceLE, Int.reduceAdd, Int.reduceSub, Int.reduceMul, Int.reduceEq, Int.reduceNeg, reduceCtorEq, resV, resAll, ARes.ev, LV.flat, ite_true, ite_false, exists_eq_left', exists_eq_left, keyOf, implies_true, fillC, capOf]
      refine appendK_cell u4 (by omega) fun N5 l1 l2 l3 => ?_
      simp (disch := omega) only [↓SXd, SXu, slBounds, ↓sop, ↓aop, ↓reduceIte, LV.cells, AOp.dst, LV.I, LV.B, LV.U, LV.S, LV.nil, Nat.reduceEqDiff, Nat.reduceAdd, Nat.reduceMul, Nat.reduceSub, Nat.reduceLeDiff, Nat.reduceBEq, Nat.reduceDiv, Nat.reduceMod, Int.reduceToNat, Int.reduceLT, Int.reduceLE, Int.reduceAdd, Int.reduceSub, Int.reduceMul, Int.reduceEq, Int.reduceNeg, reduceCtorEq, resV, resAll, ARes.ev, LV.flat, ite_true, ite_false, exists_eq_left', exists_eq_left, keyOf, implies_true, fillC, capOf]
      refine memK_one (live_step e6 (by omega) l3) (by simp) fun N6 j1 j2 j3 => ?_
      obtain ⟨g1, g2, g3⟩ := happ l1 l2 l3 j1 j3
      simp (disch := omega) only [j2.cells, ↓SXd, SXu, slBounds, ↓sop, ↓aop, ↓reduceIte, LV.cells, AOp.dst, LV.I, LV.B, LV.U, LV.S, LV.nil, Nat.reduceEqDiff, Nat.reduceAdd, Nat.reduceMul, Nat.reduceSub, Nat.reduceLeDiff, Nat.reduceBEq, Nat.reduceDiv, Nat.reduceMod, Int.reduceToNat, Int.reduceLT, Int.reduceLE, Int.reduceAdd, Int.reduceSub, Int.reduceMul, Int.reduceEq, Int.reduceNeg, reduceCtorEq, resV, resAll, ARes.ev, LV.flat, ite_true, ite_false, exists_eq_left', exists_eq_left, keyOf, implies_true, fillC, capOf]
      refine memK_box g2 (by simp) fun N7 i1 i2 i3 => ?_
      simp (disch := omega) only [i2.cells, ↓SXd, SXu, slBounds, ↓sop, ↓aop, ↓reduceIte, LV.cells, AOp.dst, LV.I, LV.B, LV.U, LV.S, LV.nil, Nat.reduceEqDiff, Nat.reduceAdd, Nat.reduceMul, Nat.reduceSub, Nat.reduceLeDiff, Nat.reduceBEq, Nat.reduceDiv, Nat.reduceMod, Int.reduceToNat, Int.reduceLT, Int.reduceLE, Int.reduceAdd, Int.reduceSub, Int.reduceMul, Int.reduceEq, Int.reduceNeg, reduceCtorEq, resV, resAll, ARes.ev, LV.flat, ite_true, ite_false, exists_eq_left', exists_eq_left, keyOf, implies_true, fillC, capOf]
      exact hfin g1 (by simp; omega) (by omega) g3 i1 i3
    · simp (disch := omega) only [b2, e6.cell, hc0, e6.cells, ↓SXd, SXu, slBounds, ↓sop, ↓aop, ↓reduceIte, LV.cells, AOp.dst, LV.I, LV.B, LV.U, LV.S, LV.nil, Nat.reduceEqDiff, Nat.reduceAdd, Nat.reduceMul, Nat.reduceSub, Nat.reduceLeDiff, Nat.reduceBEq, Nat.reduceDiv, Nat.reduceMod, Int.reduceToNat, Int.reduceLT, Int.reduceLE, Int.reduceAdd, Int.reduceSub, Int.reduceMul, Int.reduceEq, Int.reduceNeg, reduceCtorEq, resV, resAll, ARes.ev, LV.flat, ite_true, ite_false, exists_eq_left', exists_eq_left, keyOf, implies_true, fillC, capOf]
      refine memK_box e2 (by simp) fun N7 i1 i2 i3 => ?_
      simp (disch := omega) only [i2.cells, ↓SXd, SXu, slBounds, ↓sop, ↓aop, ↓reduceIte, LV.cells, AOp.dst, LV.I, LV.B, LV.U, LV.S, LV.nil, Nat.reduceEqDiff, Nat.reduceAdd, Nat.reduceMul, Nat.reduceSub, Nat.reduceLeDiff, Nat.reduceBEq, Nat.reduceDiv, Nat.reduceMod, Int.reduceToNat, Int.reduceLT, Int.reduceLE, Int.reduceAdd, Int.reduceSub, Int.reduceMul, Int.reduceEq, Int.reduceNeg, reduceCtorEq, resV, resAll, ARes.ev, LV.flat, ite_true, ite_false, exists_eq_left', exists_eq_left, keyOf, implies_true, fillC, capOf]
      exact hfin u4 (by omega) (by omega) (hD4.up (by omega)) i1 i3
  by_cases b3 : (b : Int) = 3
  · simp (disch := omega) only [b3, ↓SXd, SXu, slBounds, ↓sop, ↓aop, ↓reduceIte, LV.cells, AOp.dst, LV.I, LV.B, LV.U, LV.S, LV.nil, Nat.reduceEqDiff, Nat.reduceAdd, Nat.reduceMul, Nat.reduceSub, Nat.reduceLeDiff, Nat.reduceBEq, Nat.reduceDiv, Nat.reduceMod, Int.reduceToNat, Int.reduceLT, Int.reduceLE, Int.reduceAdd, Int.reduceSub, Int.reduceMul, Int.reduceEq, Int.reduceNeg, reduceCtorEq, resV, resAll, ARes.ev, LV.flat, ite_true, ite_false, exists_eq_left', exists_eq_left, keyOf, implies_true, fillC, capOf]
    refine memK_box e2 (by simp) fun N7 i1 i2 i3 => ?_
    simp (disch := omega) only [i2.cells, ↓SXd, SXu, slBounds, ↓sop, ↓aop, ↓reduceIte, LV.cells, AOp.dst, LV.I, LV.B, LV.U, LV.S, LV.nil, Nat.reduceEqDiff, Nat.reduceAdd, Nat.reduceMul, Nat.reduceSub, Nat.reduceLeDiff, Nat.reduceBEq, Nat.reduceDiv, Nat.reduceMod, Int.reduceToNat, Int.reduceLT, Int.reduceLE, Int.reduceAdd, Int.reduceSub, Int.reduceMul, Int.reduceEq, Int.reduceNeg, reduceCtorEq, resV, resAll, ARes.ev, LV.flat, ite_true, ite_false, exists_eq_left', exists_eq_left, keyOf, implies_true, fillC, capOf]
    exact ⟨⟨0, 0, 0, .nil, [], rfl, .inl ⟨rfl, rfl⟩, Newer.nil, by simp⟩, (hD4.up (by omega)).keep hpl htM (Nat.le_refl _) (by omega) fun q q1 => i3 q (by omega) (by omega)⟩
  · simp (disch := omega) only [b0, b1, b2, b3, e6.cells, ↓SXd, SXu, slBounds, ↓sop, ↓aop, ↓reduceIte, LV.cells, AOp.dst, LV.I, LV.B, LV.U, LV.S, LV.nil, Nat.reduceEqDiff, Nat.reduceAdd, Nat.reduceMul, Nat.reduceSub, Nat.reduceLeDiff, Nat.reduceBEq, Nat.reduceDiv, Nat.reduceMod, Int.reduceToNat, Int.reduceLT, Int.reduceLE, Int.reduceAdd, Int.reduceSub, Int.reduceMul, Int.reduceEq, Int.reduceNeg, reduceCtorEq, resV, resAll, ARes.ev, LV.flat, ite_true, ite_false, exists_eq_left', exists_eq_left, keyOf, implies_true, fillC, capOf]
    refine memK_box e2 (by simp) fun N7 i1 i2 i3 => ?_
    simp (disch := omega) only [i2.cells, ↓SXd, SXu, slBounds, ↓sop, ↓aop, ↓reduceIte, LV.cells, AOp.dst, LV.I, LV.B, LV.U, LV.S, LV.nil, Nat.reduceEqDiff, Nat.reduceAdd, Nat.reduceMul, Nat.reduceSub, Nat.reduceLeDiff, Nat.reduceBEq, Nat.reduceDiv, Nat.reduceMod, Int.reduceToNat, Int.reduceLT, Int.reduceLE, Int.reduceAdd, Int.reduceSub, Int.reduceMul, Int.reduceEq, Int.reduceNeg, reduceCtorEq, resV, resAll, ARes.ev, LV.flat, ite_true, ite_false, exists_eq_left', exists_eq_left, keyOf, implies_true, fillC, capOf]
    exact hfin u4 (by omega) (by omega) (hD4.up (by omega)) i1 i3
end Go.Ab

namespace Go.Ab.C
open Go.Ab
end Go.Ab.C

namespace Go.Ab.K
open Go Go.Ab
end Go.Ab.K

namespace Go.Ab
open Go
set_option maxRecDepth 20000

end Go.Ab

namespace Go.Ab.C
open Go.Ab
end Go.Ab.C

namespace Go.Ab.K
open Go Go.Ab
end Go.Ab.K

namespace Go.Ab.C
open Go.Ab
end Go.Ab.C

namespace Go.Ab.K
open Go Go.Ab
end Go.Ab.K

namespace Go.Ab
open Go

theorem HeapOK.cell {x y z : Int} {cs : List Cell} (h : HeapOK x y z cs) {k : Nat} (hk : k < cs.length) : (cs.getD k default).inBox x y z := (h.2 k hk).1

end Go.Ab

namespace Go.Ab.C
open Go.Ab
end Go.Ab.C

namespace Go.Ab.K
open Go Go.Ab
end Go.Ab.K

namespace Go.Ab
open Go
set_option maxRecDepth 20000

end Go.Ab

namespace Go.Ab
open Go
set_option maxRecDepth 20000

end Go.Ab

namespace Go.Ab
open Go
set_option maxRecDepth 20000

def HeapR (M : Mem) (v : LV) (N : Mem) : Prop := ∃ (x y z : Int) (cs : List Cell) (u : Nat) (ex : List Cell), v = .agg [.I x, .I y, .I z, .ref u 0 cs.length] ∧ Live N u (.row (triL (cs ++ ex)) true 3) ∧ M.length ≤ u ∧ cs.length ≤ 65
def HeapE (M : Mem) (v : LV) (N : Mem) : Prop := ∃ (x y z : Int) (cs : List Cell) (u : Nat), v = .agg [.I x, .I y, .I z, .ref u 0 cs.length] ∧ Live N u (.row (triL cs) true 3) ∧ M.length ≤ u ∧ cs.length ≤ 65
theorem d_heapE {p t o a : Nat} {bs : List Nat} {M : Mem} (h : CurAt M p t o bs a) (ha : a ≤ 990000) : CallsR PG F.spec_l1Cur_heap [.ptr p 0] M fun v N => HeapE M v N ∧ DrawN M p t o bs (a + 160) N := by
  obtain ⟨⟨_, _, _, hpl'⟩, hB, _⟩ := id h
  have hpl := hpl'.lt
  have htM := hB.lt
  refine (d_heap h ha).den (e := 3) ?_
  rintro v N ⟨⟨x, y, z, w, cs, rfl, hs, hnw, hl⟩, hd⟩
  rcases hs with ⟨rfl, rfl⟩ | ⟨u, rfl, hu⟩
  · exact .inr ⟨.agg [.I x, .I y, .I z, .ref N.length 0 0], .inl (.inr ⟨_, _, rfl, rfl, .rfl, .rfl, .rfl, .nil, trivial⟩), ⟨x, y, z, [], N.length, rfl, Live.new, hd.2.1, by simp⟩, hd.keep hpl htM (Nat.le_refl _) (by simp) fun q q1 => List.getElem?_append_left (by have := hd.2.1; omega)⟩
  · refine .inl ⟨⟨x, y, z, cs, u, rfl, hu, ?_, hl⟩, hd⟩
    rcases Nat.lt_or_ge u M.length with h1 | h1
    · exact absurd rfl (hnw u h1)
    · exact h1
theorem DrawN.live {M N : Mem} {p t o a u : Nat} {bs : List Nat} {b : Blk} (hd : DrawN M p t o bs a N) (h : Live M u b) (hne : u ≠ p) : Live N u b := Live.at h (hd.2.2 u h.lt hne)
theorem DrawN.stay {M N : Mem} {p t o a q : Nat} {bs : List Nat} (hd : DrawN M p t o bs a N) (h : q < M.length) (hne : q ≠ p) : ∀ b : Blk, M[q]? = some (some b) → N[q]? = some (some b) := fun b hb => by rw [hd.2.2 q h hne]; exact hb
theorem DrawN.pre {M M0 N : Mem} {p t o a : Nat} {bs : List Nat} (hd : DrawN M p t o bs a N) (h : Pre M0 M) (hp : M0.length ≤ p) : Pre M0 N :=
  ⟨Nat.le_trans h.1 hd.2.1, fun q hq => by rw [hd.2.2 q (Nat.lt_of_lt_of_le hq h.1) (by omega)]; exact h.2 q hq⟩
theorem CurAt.new2 {t o : Nat} {bs : List Nat} {M : Mem} {b : Option Blk} (hB : Bytes M t o bs) (h255 : ∀ b ∈ bs, b ≤ 255) (hl : bs.length ≤ 1000000000) : CurAt (M ++ [b, some (.row [.ref t o bs.length, .I 0, .val (.int .u64 0)] true 0)]) (M.length + 1) t o bs 0 := by
  have := CurAt.new (M := M ++ [b]) (t := t) (o := o) (bs := bs) (Has.app hB) h255 hl
  rw [List.append_assoc, List.length_append] at this
  exact this
section
variable {p t o a : Nat} {bs : List Nat} {M : Mem}
end
section
variable {t o : Nat} {bs : List Nat} {M : Mem} (hB : Bytes M t o bs) (h255 : ∀ b ∈ bs, b ≤ 255) (hl : bs.length ≤ 1000000000)
include hB h255 hl
end
end Go.Ab

namespace Go.Ab.C
open Go.Ab
end Go.Ab.C

namespace Go.Ab.K
open Go Go.Ab
end Go.Ab.K

namespace Go.Ab.C
open Go.Ab
end Go.Ab.C

namespace Go.Ab.K
open Go Go.Ab
end Go.Ab.K

namespace Go.Ab
open Go

def lexC : List Cell → List Cell → Bool
  | _, [] => false
  | [], _ :: _ => true
  | a :: l, b :: m => if a = b then lexC l m else decide (a.lt b)
def Hp.dims (h : Hp) : Cell := ⟨h.x, h.y, h.z⟩
def lessHp (g h : Hp) : Bool := if g.dims = h.dims then lexC g.cs h.cs else decide (g.dims.lt h.dims)
theorem beq3 {a b : Cell} : (a.a == b.a && (a.b == b.b && a.c == b.c)) = decide (a = b) := by
  rw [Bool.eq_iff_iff, decide_eq_true_iff, cell_eq]
  simp only [Bool.and_eq_true, beq_iff_eq]
end Go.Ab

namespace Go.Ab
open Go

def bestH (b : Hp) (l : List Hp) : Hp := l.foldl (fun b n => if lessHp n b then n else b) b
def posHp (x y z : Int) (cs : List Cell) (T : Turn) : Hp := cropHp (turnHp x y z T cs).cs
def formHp (x y z : Int) (cs : List Cell) : Hp := bestH (cropHp cs) (turns.map (posHp x y z cs))
theorem Live.six {N : Mem} {t k e : Nat} {w : Bool} {l : List Turn} (h : Live N t (.row (sixL l) w e)) (hk : k < l.length) : getCells N t (k * 6) 6 = some l[k].row := by
  rw [h.cells, if_pos (by rw [sixL_len]; omega), sixL_at hk]
end Go.Ab

namespace Go.Ab
open Go
set_option maxRecDepth 20000

section
variable {t o : Nat} {bs : List Nat} {M : Mem} (hB : Bytes M t o bs) (h255 : ∀ b ∈ bs, b ≤ 255) (hl : bs.length ≤ 1000000000)
include hB h255 hl
end
end Go.Ab

namespace Go.Ab.C
open Go.Ab
def spec_ClustersOf : AFn :=
 ⟨1, 10, [.tmp 2, .tmp 3],
 .seq (.ops [(none, .box 1 (.t 0)),
 (none, .mv 2 (.c .nil)),
 (none, .mv 3 (.c (.B false)))])
 (.seq (.seq (.ops [(none, .loadN 4 4 (.t 1)),
 (none, .call (some 5) F.spec_l2Heap [(.t 4)]),
 (none, .un 6 .not (.t 5))])
 (.cond (.t 6) (.seq (.ops [(none, .buildSl 7 0 1 [] []),
 (none, .mv 2 (.t 7)),
 (none, .mv 3 (.c (.B false)))])
 (.ret))
 (.skip)))
 (.seq (.ops [(none, .loadN 8 4 (.t 1)),
 (none, .call (some 9) F.spec_l6Clusters [(.t 8)]),
 (none, .mv 2 (.t 9)),
 (none, .mv 3 (.c (.B true)))])
 (.ret)))⟩
def impl_ClustersOf : AFn :=
 ⟨1, 12, [.tmp 2, .tmp 3],
 .seq (.ops [(none, .box 1 (.t 0)),
 (none, .mv 2 (.c .nil)),
 (none, .mv 3 (.c (.B false)))])
 (.seq (.seq (.ops [(none, .loadN 4 4 (.t 1)),
 (none, .call (some 5) F.impl_IsHeap [(.t 4)]),
 (none, .un 6 .not (.t 5))])
 (.cond (.t 6) (.seq (.ops [(none, .mv 2 (.c .nil)),
 (none, .mv 3 (.c (.B false)))])
 (.ret))
 (.skip)))
 (.seq (.draw [⟨(none, .loadN 7 4 (.t 1)), [], []⟩,
 ⟨(none, .loadN 9 4 (.t 1)), [], []⟩,
 ⟨(none, .call (some 8) F.impl_Heap_box [(.t 7)]), [], [1]⟩,
 ⟨(none, .call (some 10) F.impl_Heap_clusters [(.t 9)]), [], []⟩,
 ⟨(none, .call (some 11) F.impl_box_lists [(.t 8), (.t 10)]), [], []⟩,
 ⟨(none, .mv 2 (.t 11)), [], []⟩,
 ⟨(none, .mv 3 (.c (.B true))), [], []⟩])
 (.ret)))⟩
def impl_BodyCounts : AFn :=
 ⟨1, 10, [.cellN 2 4, .tmp 3],
 .seq (.ops [(none, .box 1 (.t 0)),
 (none, .alloc 2 [(.I 0), (.I 0), (.I 0), (.I 0)]),
 (none, .mv 3 (.c (.B false)))])
 (.seq (.seq (.ops [(none, .loadN 4 4 (.t 1)),
 (none, .call (some 5) F.impl_IsHeap [(.t 4)]),
 (none, .un 6 .not (.t 5))])
 (.cond (.t 6) (.seq (.ops [(none, .build 7 [(.I 0), (.I 0), (.I 0), (.I 0)] []),
 (none, .store 4 (.t 2) (.t 7)),
 (none, .mv 3 (.c (.B false)))])
 (.ret))
 (.skip)))
 (.seq (.ops [(none, .loadN 8 4 (.t 1)),
 (none, .call (some 9) F.impl_Heap_counts [(.t 8)]),
 (none, .store 4 (.t 2) (.t 9)),
 (none, .mv 3 (.c (.B true)))])
 (.ret)))⟩
def spec_BodyCounts : AFn :=
 ⟨1, 10, [.cellN 2 4, .tmp 3],
 .seq (.ops [(none, .box 1 (.t 0)),
 (none, .alloc 2 [(.I 0), (.I 0), (.I 0), (.I 0)]),
 (none, .mv 3 (.c (.B false)))])
 (.seq (.seq (.ops [(none, .loadN 4 4 (.t 1)),
 (none, .call (some 5) F.spec_l2Heap [(.t 4)]),
 (none, .un 6 .not (.t 5))])
 (.cond (.t 6) (.seq (.ops [(none, .build 7 [(.I 0), (.I 0), (.I 0), (.I 0)] []),
 (none, .store 4 (.t 2) (.t 7)),
 (none, .mv 3 (.c (.B false)))])
 (.ret))
 (.skip)))
 (.seq (.ops [(none, .loadN 8 4 (.t 1)),
 (none, .call (some 9) F.spec_l6Counts [(.t 8)]),
 (none, .store 4 (.t 2) (.t 9)),
 (none, .mv 3 (.c (.B true)))])
 (.ret)))⟩
def impl_EulerNumber : AFn :=
 ⟨1, 9, [.tmp 2, .tmp 3],
 .seq (.ops [(none, .box 1 (.t 0)),
 (none, .mv 2 (.c (.I 0))),
 (none, .mv 3 (.c (.B false)))])
 (.seq (.seq (.ops [(none, .loadN 4 4 (.t 1)),
 (none, .call (some 5) F.impl_IsHeap [(.t 4)]),
 (none, .un 6 .not (.t 5))])
 (.cond (.t 6) (.seq (.ops [(none, .mv 2 (.c (.I 0))),
 (none, .mv 3 (.c (.B false)))])
 (.ret))
 (.skip)))
 (.seq (.ops [(none, .loadN 7 4 (.t 1)),
 (none, .call (some 8) F.impl_Heap_euler [(.t 7)]),
 (none, .mv 2 (.t 8)),
 (none, .mv 3 (.c (.B true)))])
 (.ret)))⟩
def spec_EulerNumber : AFn :=
 ⟨1, 9, [.tmp 2, .tmp 3],
 .seq (.ops [(none, .box 1 (.t 0)),
 (none, .mv 2 (.c (.I 0))),
 (none, .mv 3 (.c (.B false)))])
 (.seq (.seq (.ops [(none, .loadN 4 4 (.t 1)),
 (none, .call (some 5) F.spec_l2Heap [(.t 4)]),
 (none, .un 6 .not (.t 5))])
 (.cond (.t 6) (.seq (.ops [(none, .mv 2 (.c (.I 0))),
 (none, .mv 3 (.c (.B false)))])
 (.ret))
 (.skip)))
 (.seq (.ops [(none, .loadN 7 4 (.t 1)),
 (none, .call (some 8) F.spec_l6Euler [(.t 7)]),
 (none, .mv 2 (.t 8)),
 (none, .mv 3 (.c (.B true)))])
 (.ret)))⟩
def impl_FullHeap : AFn :=
 ⟨3, 21, [.cellN 6 4, .tmp 7],
 .seq (.ops [(none, .alloc 6 [(.I 0), (.I 0), (.I 0), .nil]),
 (none, .mv 7 (.c (.B false)))])
 (.seq (.ops [(none, .mv 9 (.t 0)),
 (none, .mv 10 (.t 1)),
 (none, .mv 11 (.t 2)),
 (none, .build 12 [(.I 0), (.I 0), (.I 0)] [(0, 1, (.t 9)), (1, 1, (.t 10)), (2, 1, (.t 11))]),
 (none, .alloc 8 [(.I 0), (.I 0), (.I 0)]),
 (none, .store 3 (.t 8) (.t 12))])
 (.seq (.seq (.ops [(none, .loadN 13 3 (.t 8)),
 (none, .call (some 14) F.impl_box_valid [(.t 13)]),
 (none, .un 15 .not (.t 14))])
 (.cond (.t 15) (.seq (.ops [(none, .build 16 [(.I 0), (.I 0), (.I 0), .nil] []),
 (none, .store 4 (.t 6) (.t 16)),
 (none, .mv 7 (.c (.B false)))])
 (.ret))
 (.skip)))
 (.seq (.draw [⟨(none, .loadN 17 3 (.t 8)), [], []⟩,
 ⟨(none, .loadN 18 3 (.t 8)), [], []⟩,
 ⟨(none, .call (some 19) F.impl_box_full [(.t 18)]), [], [0]⟩,
 ⟨(none, .call (some 20) F.impl_box_heap [(.t 17), (.t 19)]), [], []⟩,
 ⟨(none, .store 4 (.t 6) (.t 20)), [], []⟩,
 ⟨(none, .mv 7 (.c (.B true))), [], []⟩])
 (.ret))))⟩
def impl_PartsOf : AFn :=
 ⟨1, 30, [.tmp 2, .tmp 3],
 .seq (.ops [(none, .box 1 (.t 0)),
 (none, .mv 2 (.c .nil)),
 (none, .mv 3 (.c (.B false)))])
 (.seq (.seq (.ops [(none, .loadN 7 4 (.t 1)),
 (none, .call (some 8) F.impl_IsHeap [(.t 7)]),
 (none, .un 9 .not (.t 8))])
 (.cond (.t 9) (.seq (.ops [(none, .mv 2 (.c .nil)),
 (none, .mv 3 (.c (.B false)))])
 (.ret))
 (.skip)))
 (.seq (.ops [(none, .buildSl 10 0 1 [] []),
 (none, .mv 4 (.t 10))])
 (.seq (.seq (.draw [⟨(none, .loadN 11 4 (.t 1)), [], []⟩,
 ⟨(none, .loadN 13 4 (.t 1)), [], []⟩,
 ⟨(none, .mv 17 (.c (.I 0))), [], []⟩,
 ⟨(none, .call (some 12) F.impl_Heap_box [(.t 11)]), [], [1, 2]⟩,
 ⟨(none, .call (some 14) F.impl_Heap_cubes [(.t 13)]), [], [2]⟩,
 ⟨(none, .call (some 15) F.impl_box_parts [(.t 12), (.t 14)]), [], [2]⟩,
 ⟨(none, .len 16 (.t 15)), [], []⟩])
 (.block 0 (.loop (.seq (.ops [(none, .bin 18 .lss (.t 17) (.t 16))])
 (.seq (.cond (.t 18) (.skip)
 (.exit 0))
 (.seq (.block 1 (.seq (.ops [(none, .idxS 19 1 (.t 15) (.t 17)),
 (none, .load1 20 (.t 19)),
 (none, .mv 6 (.t 20))])
 (.ops [(none, .mv 21 (.t 4)),
 (none, .loadN 22 4 (.t 1)),
 (none, .call (some 23) F.impl_Heap_box [(.t 22)]),
 (none, .mv 24 (.t 6)),
 (none, .call (some 25) F.impl_box_list [(.t 23), (.t 24)]),
 (none, .buildSl 26 1 1 [.nil] [(0, 1, (.t 25))]),
 (none, .append 27 1 24 (.t 21) (.t 26)),
 (none, .mv 4 (.t 27))])))
 (.ops [(none, .bin 28 .add (.t 17) (.c (.I 1))),
 (none, .mv 17 (.t 28))])))))))
 (.seq (.ops [(none, .mv 29 (.t 4)),
 (none, .mv 2 (.t 29)),
 (none, .mv 3 (.c (.B true)))])
 (.ret)))))⟩
def laws_rLists : AFn :=
 ⟨2, 27, [.tmp 4],
 .seq (.ops [(none, .mv 4 (.c (.B false)))])
 (.seq (.seq (.ops [(none, .mv 6 (.t 0)),
 (none, .len 7 (.t 6)),
 (none, .mv 8 (.t 1)),
 (none, .len 9 (.t 8)),
 (none, .bin 10 .neq (.t 7) (.t 9))])
 (.cond (.t 10) (.seq (.ops [(none, .mv 4 (.c (.B false)))])
 (.ret))
 (.skip)))
 (.seq (.seq (.ops [(none, .mv 5 (.c (.I 0)))])
 (.block 0 (.loop (.seq (.seq (.ops [(none, .mv 11 (.t 5)),
 (none, .mv 12 (.t 0)),
 (none, .len 13 (.t 12)),
 (none, .bin 14 .lss (.t 11) (.t 13))])
 (.cond (.t 14) (.skip)
 (.exit 0)))
 (.seq (.block 1 (.seq (.draw [⟨(none, .mv 17 (.t 0)), [], []⟩,
 ⟨(none, .mv 18 (.t 5)), [], []⟩,
 ⟨(none, .idxS 19 1 (.t 17) (.t 18)), [], []⟩,
 ⟨(none, .load1 20 (.t 19)), [], []⟩,
 ⟨(none, .mv 21 (.t 1)), [], []⟩,
 ⟨(none, .mv 22 (.t 5)), [], []⟩,
 ⟨(none, .idxS 23 1 (.t 21) (.t 22)), [], []⟩,
 ⟨(none, .load1 24 (.t 23)), [], []⟩,
 ⟨(none, .call (some 25) F.laws_rCells [(.t 20), (.t 24)]), [], []⟩,
 ⟨(none, .un 26 .not (.t 25)), [], []⟩])
 (.cond (.t 26) (.seq (.ops [(none, .mv 4 (.c (.B false)))])
 (.ret))
 (.skip))))
 (.ops [(none, .mv 15 (.t 5)),
 (none, .bin 16 .add (.t 15) (.c (.I 1))),
 (none, .mv 5 (.t 16))]))))))
 (.seq (.ops [(none, .mv 4 (.c (.B true)))])
 (.ret))))⟩
def laws_rAll : AFn :=
 ⟨1, 19, [.tmp 2],
 .seq (.ops [(none, .mv 2 (.c (.I 0)))])
 (.seq (.ops [(none, .mv 3 (.c (.I 0)))])
 (.seq (.seq (.ops [(none, .mv 4 (.c (.I 0)))])
 (.block 0 (.loop (.seq (.seq (.ops [(none, .mv 5 (.t 4)),
 (none, .mv 6 (.t 0)),
 (none, .len 7 (.t 6)),
 (none, .bin 8 .lss (.t 5) (.t 7))])
 (.cond (.t 8) (.skip)
 (.exit 0)))
 (.seq (.block 1 (.ops [(none, .mv 11 (.t 3)),
 (none, .mv 12 (.t 0)),
 (none, .mv 13 (.t 4)),
 (none, .idxS 14 1 (.t 12) (.t 13)),
 (none, .load1 15 (.t 14)),
 (none, .len 16 (.t 15)),
 (none, .bin 17 .add (.t 11) (.t 16)),
 (none, .mv 3 (.t 17))]))
 (.ops [(none, .mv 9 (.t 4)),
 (none, .bin 10 .add (.t 9) (.c (.I 1))),
 (none, .mv 4 (.t 10))]))))))
 (.seq (.ops [(none, .mv 18 (.t 3)),
 (none, .mv 2 (.t 18))])
 (.ret))))⟩
def spec_DrawCavitiesOf : AFn :=
 ⟨1, 5, [.cellN 2 4],
 .seq (.ops [(none, .alloc 2 [(.I 0), (.I 0), (.I 0), .nil])])
 (.seq (.ops [(none, .mv 3 (.t 0)),
 (none, .call (some 4) F.spec_DrawBareFaces [(.t 3)]),
 (none, .store 4 (.t 2) (.t 4))])
 (.ret))⟩
def spec_DrawFullHeap : AFn :=
 ⟨1, 10, [.tmp 2, .tmp 3, .tmp 4],
 .seq (.ops [(none, .mv 2 (.c (.I 0))),
 (none, .mv 3 (.c (.I 0))),
 (none, .mv 4 (.c (.I 0)))])
 (.seq (.ops [(none, .mv 5 (.t 0)),
 (none, .call (some 6) F.spec_DrawEmptyHeap [(.t 5)]),
 (none, .extract 7 (.t 6) 0),
 (none, .extract 8 (.t 6) 1),
 (none, .extract 9 (.t 6) 2),
 (none, .mv 2 (.t 7)),
 (none, .mv 3 (.t 8)),
 (none, .mv 4 (.t 9))])
 (.ret))⟩
def spec_DrawEmptyHeap : AFn :=
 ⟨1, 14, [.tmp 2, .tmp 3, .tmp 4],
 .seq (.ops [(none, .mv 2 (.c (.I 0))),
 (none, .mv 3 (.c (.I 0))),
 (none, .mv 4 (.c (.I 0)))])
 (.seq (.ops [(none, .mv 6 (.t 0)),
 (none, .build 7 [.nil, (.I 0), (.U 0)] [(0, 1, (.t 6))]),
 (none, .box 8 (.t 7)),
 (none, .mv 5 (.t 8))])
 (.seq (.ops [(none, .mv 9 (.t 5)),
 (none, .call (some 10) F.spec_l1Cur_sides [(.t 9)]),
 (none, .extract 11 (.t 10) 0),
 (none, .extract 12 (.t 10) 1),
 (none, .extract 13 (.t 10) 2),
 (none, .mv 2 (.t 11)),
 (none, .mv 3 (.t 12)),
 (none, .mv 4 (.t 13))])
 (.ret)))⟩
end Go.Ab.C

namespace Go.Ab.K
open Go Go.Ab
theorem spec_ClustersOf : prepF Go.Proofs.Try.prog F.spec_ClustersOf = some C.spec_ClustersOf := by kernel_rfl
theorem impl_ClustersOf : prepF Go.Proofs.Try.prog F.impl_ClustersOf = some C.impl_ClustersOf := by kernel_rfl
theorem impl_BodyCounts : prepF Go.Proofs.Try.prog F.impl_BodyCounts = some C.impl_BodyCounts := by kernel_rfl
theorem spec_BodyCounts : prepF Go.Proofs.Try.prog F.spec_BodyCounts = some C.spec_BodyCounts := by kernel_rfl
theorem impl_EulerNumber : prepF Go.Proofs.Try.prog F.impl_EulerNumber = some C.impl_EulerNumber := by kernel_rfl
theorem spec_EulerNumber : prepF Go.Proofs.Try.prog F.spec_EulerNumber = some C.spec_EulerNumber := by kernel_rfl
theorem impl_FullHeap : prepF Go.Proofs.Try.prog F.impl_FullHeap = some C.impl_FullHeap := by kernel_rfl
theorem impl_PartsOf : prepF Go.Proofs.Try.prog F.impl_PartsOf = some C.impl_PartsOf := by kernel_rfl
theorem laws_rLists : prepF Go.Proofs.Try.prog F.laws_rLists = some C.laws_rLists := by kernel_rfl
theorem laws_rAll : prepF Go.Proofs.Try.prog F.laws_rAll = some C.laws_rAll := by kernel_rfl
theorem spec_DrawCavitiesOf : prepF Go.Proofs.Try.prog F.spec_DrawCavitiesOf = some C.spec_DrawCavitiesOf := by kernel_rfl
theorem spec_DrawFullHeap : prepF Go.Proofs.Try.prog F.spec_DrawFullHeap = some C.spec_DrawFullHeap := by kernel_rfl
theorem spec_DrawEmptyHeap : prepF Go.Proofs.Try.prog F.spec_DrawEmptyHeap = some C.spec_DrawEmptyHeap := by kernel_rfl
end Go.Ab.K

namespace Go.Ab.C
open Go.Ab
def spec_l6Counts : AFn :=
 ⟨1, 48, [.cellN 2 4],
 .seq (.ops [(none, .box 1 (.t 0)),
 (none, .alloc 2 [(.I 0), (.I 0), (.I 0), (.I 0)])])
 (.seq (.ops [(none, .build 7 [(.I 0), (.I 0), (.I 0), (.I 0)] []),
 (none, .alloc 3 [(.I 0), (.I 0), (.I 0), (.I 0)]),
 (none, .store 4 (.t 3) (.t 7))])
 (.seq (.seq (.ops [(none, .mv 4 (.c (.I 0)))])
 (.block 0 (.loop (.seq (.seq (.ops [(none, .mv 8 (.t 4)),
 (none, .fieldAddr 9 (.t 1) 0),
 (none, .load1 10 (.t 9)),
 (none, .bin 11 .mul (.c (.I 2)) (.t 10)),
 (none, .bin 12 .leq (.t 8) (.t 11))])
 (.cond (.t 12) (.skip)
 (.exit 0)))
 (.seq (.block 1 (.seq (.ops [(none, .mv 5 (.c (.I 0)))])
 (.block 2 (.loop (.seq (.seq (.ops [(none, .mv 15 (.t 5)),
 (none, .fieldAddr 16 (.t 1) 1),
 (none, .load1 17 (.t 16)),
 (none, .bin 18 .mul (.c (.I 2)) (.t 17)),
 (none, .bin 19 .leq (.t 15) (.t 18))])
 (.cond (.t 19) (.skip)
 (.exit 2)))
 (.seq (.block 3 (.seq (.ops [(none, .mv 6 (.c (.I 0)))])
 (.block 4 (.loop (.seq (.seq (.ops [(none, .mv 22 (.t 6)),
 (none, .fieldAddr 23 (.t 1) 2),
 (none, .load1 24 (.t 23)),
 (none, .bin 25 .mul (.c (.I 2)) (.t 24)),
 (none, .bin 26 .leq (.t 22) (.t 25))])
 (.cond (.t 26) (.skip)
 (.exit 4)))
 (.seq (.block 5 (.seq (.ops [(none, .loadN 29 4 (.t 1)),
 (none, .mv 30 (.t 4)),
 (none, .mv 31 (.t 5)),
 (none, .mv 32 (.t 6)),
 (none, .build 33 [(.I 0), (.I 0), (.I 0)] [(0, 1, (.t 30)), (1, 1, (.t 31)), (2, 1, (.t 32))]),
 (none, .call (some 34) F.spec_l6In [(.t 29), (.t 33)])])
 (.cond (.t 34) (.ops [(none, .mv 35 (.t 4)),
 (none, .bin 36 .rem (.t 35) (.c (.I 2))),
 (none, .mv 37 (.t 5)),
 (none, .bin 38 .rem (.t 37) (.c (.I 2))),
 (none, .bin 39 .add (.t 36) (.t 38)),
 (none, .mv 40 (.t 6)),
 (none, .bin 41 .rem (.t 40) (.c (.I 2))),
 (none, .bin 42 .add (.t 39) (.t 41)),
 (none, .idxA 43 4 1 (.t 3) (.t 42)),
 (none, .load1 44 (.t 43)),
 (none, .bin 45 .add (.t 44) (.c (.I 1))),
 (none, .idxA 46 4 1 (.t 3) (.t 42)),
 (none, .store 1 (.t 46) (.t 45))])
 (.skip))))
 (.ops [(none, .mv 27 (.t 6)),
 (none, .bin 28 .add (.t 27) (.c (.I 1))),
 (none, .mv 6 (.t 28))])))))))
 (.ops [(none, .mv 20 (.t 5)),
 (none, .bin 21 .add (.t 20) (.c (.I 1))),
 (none, .mv 5 (.t 21))])))))))
 (.ops [(none, .mv 13 (.t 4)),
 (none, .bin 14 .add (.t 13) (.c (.I 1))),
 (none, .mv 4 (.t 14))]))))))
 (.seq (.ops [(none, .loadN 47 4 (.t 3)),
 (none, .store 4 (.t 2) (.t 47))])
 (.ret))))⟩
def spec_l6Euler : AFn :=
 ⟨1, 17, [.tmp 2],
 .seq (.ops [(none, .box 1 (.t 0)),
 (none, .mv 2 (.c (.I 0)))])
 (.seq (.ops [(none, .loadN 4 4 (.t 1)),
 (none, .call (some 5) F.spec_l6Counts [(.t 4)]),
 (none, .alloc 3 [(.I 0), (.I 0), (.I 0), (.I 0)]),
 (none, .store 4 (.t 3) (.t 5))])
 (.seq (.ops [(none, .idxA 6 4 1 (.t 3) (.c (.I 0))),
 (none, .load1 7 (.t 6)),
 (none, .idxA 8 4 1 (.t 3) (.c (.I 1))),
 (none, .load1 9 (.t 8)),
 (none, .bin 10 .sub (.t 7) (.t 9)),
 (none, .idxA 11 4 1 (.t 3) (.c (.I 2))),
 (none, .load1 12 (.t 11)),
 (none, .bin 13 .add (.t 10) (.t 12)),
 (none, .idxA 14 4 1 (.t 3) (.c (.I 3))),
 (none, .load1 15 (.t 14)),
 (none, .bin 16 .sub (.t 13) (.t 15)),
 (none, .mv 2 (.t 16))])
 (.ret)))⟩
end Go.Ab.C

namespace Go.Ab.K
open Go Go.Ab
theorem spec_l6Counts : prepF Go.Proofs.Try.prog F.spec_l6Counts = some C.spec_l6Counts := by kernel_rfl
theorem spec_l6Euler : prepF Go.Proofs.Try.prog F.spec_l6Euler = some C.spec_l6Euler := by kernel_rfl
end Go.Ab.K

namespace Go.Ab.C
open Go.Ab
def spec_l6In : AFn :=
 ⟨2, 36, [.tmp 4],
 .seq (.ops [(none, .box 2 (.t 0)),
 (none, .box 3 (.t 1)),
 (none, .mv 4 (.c (.B false)))])
 (.seq (.seq (.ops [(none, .mv 5 (.c (.I 0)))])
 (.block 0 (.loop (.seq (.seq (.ops [(none, .mv 8 (.t 5)),
 (none, .fieldAddr 9 (.t 2) 3),
 (none, .load1 10 (.t 9)),
 (none, .len 11 (.t 10)),
 (none, .bin 12 .lss (.t 8) (.t 11))])
 (.cond (.t 12) (.skip)
 (.exit 0)))
 (.seq (.block 1 (.seq (.ops [(none, .mv 6 (.c (.B true)))])
 (.seq (.seq (.ops [(none, .mv 7 (.c (.I 0)))])
 (.block 2 (.loop (.seq (.seq (.ops [(none, .mv 15 (.t 7)),
 (none, .bin 16 .lss (.t 15) (.c (.I 3)))])
 (.cond (.t 16) (.skip)
 (.exit 2)))
 (.seq (.block 3 (.draw [⟨(none, .mv 19 (.t 6)), [], []⟩,
 ⟨(none, .mv 20 (.t 19)), [], []⟩,
 ⟨(some (20, true), .mv 21 (.t 7)), [], []⟩,
 ⟨(some (20, true), .idxA 22 3 1 (.t 3) (.t 21)), [], []⟩,
 ⟨(some (20, true), .load1 23 (.t 22)), [], []⟩,
 ⟨(some (20, true), .fieldAddr 24 (.t 2) 3), [], []⟩,
 ⟨(some (20, true), .load1 25 (.t 24)), [], []⟩,
 ⟨(some (20, true), .mv 26 (.t 5)), [], []⟩,
 ⟨(some (20, true), .mv 27 (.t 7)), [], []⟩,
 ⟨(some (20, true), .idxS 28 3 (.t 25) (.t 26)), [], []⟩,
 ⟨(some (20, true), .idxA 29 3 1 (.t 28) (.t 27)), [], []⟩,
 ⟨(some (20, true), .load1 30 (.t 29)), [], []⟩,
 ⟨(some (20, true), .bin 31 .mul (.c (.I 2)) (.t 30)), [], []⟩,
 ⟨(some (20, true), .bin 32 .sub (.t 23) (.t 31)), [], []⟩,
 ⟨(some (20, true), .call (some 33) F.spec_l1In [(.t 32), (.c (.I 0)), (.c (.I 2))]), [], []⟩,
 ⟨(none, .pick 34 (.t 20) (.t 33) (.c (.B false))), [], []⟩,
 ⟨(none, .mv 6 (.t 34)), [], []⟩]))
 (.ops [(none, .mv 17 (.t 7)),
 (none, .bin 18 .add (.t 17) (.c (.I 1))),
 (none, .mv 7 (.t 18))]))))))
 (.seq (.ops [(none, .mv 35 (.t 6))])
 (.cond (.t 35) (.seq (.ops [(none, .mv 4 (.c (.B true)))])
 (.ret))
 (.skip))))))
 (.ops [(none, .mv 13 (.t 5)),
 (none, .bin 14 .add (.t 13) (.c (.I 1))),
 (none, .mv 5 (.t 14))]))))))
 (.seq (.ops [(none, .mv 4 (.c (.B false)))])
 (.ret)))⟩
end Go.Ab.C

namespace Go.Ab.K
open Go Go.Ab
theorem spec_l6In : prepF Go.Proofs.Try.prog F.spec_l6In = some C.spec_l6In := by kernel_rfl
end Go.Ab.K

namespace Go.Ab.C
open Go.Ab
end Go.Ab.C

namespace Go.Ab.K
open Go Go.Ab
end Go.Ab.K

namespace Go.Ab
open Go

def ordersL : List Cell := [⟨0, 1, 2⟩, ⟨0, 2, 1⟩, ⟨1, 0, 2⟩, ⟨1, 2, 0⟩, ⟨2, 0, 1⟩, ⟨2, 1, 0⟩]
def nO (o : Nat) : Nat := if o = 0 then 8 else if o = 1 then 16 else if o = 2 then 24 else if o = 3 then 40 else if o = 4 then 48 else if o = 5 then 56 else 72
end Go.Ab
