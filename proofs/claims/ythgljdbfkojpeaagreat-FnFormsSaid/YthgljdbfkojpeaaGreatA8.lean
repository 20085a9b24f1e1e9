/- Parts of the proof of FnFormsSaid: C_De K_De De C_Dd2 K_Dd2 Dd2 De2 He C_Th K_Th C_Tg K_Tg C_Tf K_Tf C_Te K_Te Te Tf Tg Th C_Pe K_Pe C_Pc K_Pc C_Pb K_Pb Pa C_Nc K_Nc Nc Pb Oe Pc Pd Pe C_Wb K_Wb Va Wa C_Uk K_Uk C_Uj K_Uj C_Ui K_Ui Ui Uj Uk Wb. -/
import Derived.Test.YthgljdbfkojpeaaGreatA3
import Derived.Test.YthgljdbfkojpeaaGreatA4
import Derived.Test.YthgljdbfkojpeaaGreatProg
import Derived.KernelRfl
import Derived.Test.YthgljdbfkojpeaaGreatA6
import Derived.Test.YthgljdbfkojpeaaGreatA5
import Derived.Test.YthgljdbfkojpeaaGreatA7
set_option linter.all false
/- The abstract code of some functions (written by a program of mine from the translation, by way of prepF). -/
namespace Go.Ab.C
open Go.Ab
end Go.Ab.C

/- That the program has this code. -/
namespace Go.Ab.K
open Go Go.Ab
end Go.Ab.K

/- Contracts: the reference's heights and neighbours. -/
namespace Go.Ab
open Go
set_option linter.unusedSimpArgs false
set_option linter.unusedVariables false

theorem HeapOK.cell {x y z : Int} {cs : List Cell} (h : HeapOK x y z cs) {k : Nat} (hk : k < cs.length) : (cs.getD k default).inBox x y z := (h.2 k hk).1

end Go.Ab

/- The abstract code of some functions (written by a program of mine from the translation, by way of prepF). -/
namespace Go.Ab.C
open Go.Ab
end Go.Ab.C

/- That the program has this code. -/
namespace Go.Ab.K
open Go Go.Ab
end Go.Ab.K

/- Contracts: h_l10Up. -/
namespace Go.Ab
open Go
set_option linter.unusedSimpArgs false
set_option linter.unusedVariables false
set_option maxRecDepth 20000

end Go.Ab

/- Contracts: h_l10Next. -/
namespace Go.Ab
open Go
set_option linter.unusedSimpArgs false
set_option linter.unusedVariables false
set_option maxRecDepth 20000

end Go.Ab

/- Contracts: what the laws of the walks draw. -/
namespace Go.Ab
open Go
set_option linter.unusedSimpArgs false
set_option linter.unusedVariables false
set_option maxRecDepth 20000

/-- A heap, valid or not, all of whose cells are new. -/
def HeapR (M : Mem) (v : LV) (N : Mem) : Prop := ∃ (x y z : Int) (cs : List Cell) (u : Nat) (ex : List Cell), v = .agg [.I x, .I y, .I z, .ref u 0 cs.length] ∧ Live N u (.row (triL (cs ++ ex)) true 3) ∧ M.length ≤ u ∧ cs.length ≤ 65
/-- The same, with nothing behind its cells. -/
def HeapE (M : Mem) (v : LV) (N : Mem) : Prop := ∃ (x y z : Int) (cs : List Cell) (u : Nat), v = .agg [.I x, .I y, .I z, .ref u 0 cs.length] ∧ Live N u (.row (triL cs) true 3) ∧ M.length ≤ u ∧ cs.length ≤ 65
theorem d_heapE {p t o a : Nat} {bs : List Nat} {M : Mem} (h : CurAt M p t o bs a) (ha : a ≤ 990000) : CallsR PG F.spec_l1Cur_heap [.ptr p 0] M fun v N => HeapE M v N ∧ DrawN M p t o bs (a + 160) N := by
  obtain ⟨⟨_, _, _, hpl'⟩, hB, _⟩ := id h
  have hpl := hpl'.lt
  have htM := hB.lt
  refine (d_heap h ha).den (e := 3) ?_
  rintro v N ⟨⟨x, y, z, w, cs, rfl, hs, hnw, hl⟩, hd⟩
  rcases hs with ⟨rfl, rfl⟩ | ⟨u, rfl, hu⟩
  · exact .inr ⟨.agg [.I x, .I y, .I z, .ref N.length 0 0], .inl (.inr ⟨_, _, rfl, rfl, .rfl, .rfl, .rfl, .nil, trivial⟩), ⟨x, y, z, [], N.length, rfl, Live.new, hd.2.1, by simp⟩, hd.keep hpl htM (Nat.le_refl _) (by simp) fun q q1 => List.getElem?_append_left (by have := hd.2.1; omega)⟩
  · refine .inl ⟨⟨x, y, z, cs, u, rfl, hu, ?_, hl⟩, hd⟩
    rcases Nat.lt_or_ge u M.length with h1 | h1
    · exact absurd rfl (hnw u h1)
    · exact h1
theorem DrawN.live {M N : Mem} {p t o a u : Nat} {bs : List Nat} {b : Blk} (hd : DrawN M p t o bs a N) (h : Live M u b) (hne : u ≠ p) : Live N u b := Live.at h (hd.2.2 u h.lt hne)
theorem CurAt.stepped {M N : Mem} {p t o a u : Nat} {bs : List Nat} (h : CurAt M p t o bs a) (hp : p ≠ u) (ht : t ≠ u) (l3 : ∀ q, q ≠ u → q < M.length → N[q]? = M[q]?) : CurAt N p t o bs a := by
  obtain ⟨⟨i, s, h1, h2⟩, h3, h4⟩ := h
  exact ⟨⟨i, s, h1, Live.at h2 (l3 _ hp h2.lt)⟩, Has.at' h3 (l3 _ ht h3.lt), h4⟩
/-- Behind a draw of a reader that is new. -/
theorem DrawN.pre {M M0 N : Mem} {p t o a : Nat} {bs : List Nat} (hd : DrawN M p t o bs a N) (h : Pre M0 M) (hp : M0.length ≤ p) : Pre M0 N :=
  ⟨Nat.le_trans h.1 hd.2.1, fun q hq => by rw [hd.2.2 q (Nat.lt_of_lt_of_le hq h.1) (by omega)]; exact h.2 q hq⟩
theorem CurAt.new2 {t o : Nat} {bs : List Nat} {M : Mem} {b : Option Blk} (hB : Bytes M t o bs) (h255 : ∀ b ∈ bs, b ≤ 255) (hl : bs.length ≤ 1000000000) : CurAt (M ++ [b, some (.row [.ref t o bs.length, .I 0, .val (.int .u64 0)] true 0)]) (M.length + 1) t o bs 0 := by
  have := CurAt.new (M := M ++ [b]) (t := t) (o := o) (bs := bs) (Has.app hB) h255 hl
  rw [List.append_assoc, List.length_append] at this
  exact this
section
variable {p t o a : Nat} {bs : List Nat} {M : Mem}
end
section
variable {t o : Nat} {bs : List Nat} {M : Mem} (hB : Bytes M t o bs) (h255 : ∀ b ∈ bs, b ≤ 255) (hl : bs.length ≤ 1000000000)
include hB h255 hl
end
end Go.Ab

/- The abstract code of some functions (written by a program of mine from the translation, by way of prepF). -/
namespace Go.Ab.C
open Go.Ab
def spec_l2Mirrored : AFn :=
  ⟨2, 41, [.cellN 4 4],
    .seq (.ops [(none, .box 2 (.t 0)),
       (none, .alloc 4 [(.I 0), (.I 0), (.I 0), .nil])])
    (.seq (.ops [(none, .fieldAddr 8 (.t 2) 0),
        (none, .load1 9 (.t 8)),
        (none, .fieldAddr 10 (.t 2) 1),
        (none, .load1 11 (.t 10)),
        (none, .fieldAddr 12 (.t 2) 2),
        (none, .load1 13 (.t 12)),
        (none, .call (some 14) F.spec_l2Empty [(.t 9), (.t 11), (.t 13)]),
        (none, .alloc 5 [(.I 0), (.I 0), (.I 0), .nil]),
        (none, .store 4 (.t 5) (.t 14))])
     (.seq (.seq (.ops [(none, .mv 6 (.c (.I 0)))])
       (.block 0 (.loop (.seq (.seq (.ops [(none, .mv 15 (.t 6)),
              (none, .fieldAddr 16 (.t 2) 3),
              (none, .load1 17 (.t 16)),
              (none, .len 18 (.t 17)),
              (none, .bin 19 .lss (.t 15) (.t 18))])
           (.cond (.t 19) (.skip)
            (.exit 0)))
          (.seq (.block 1 (.seq (.ops [(none, .fieldAddr 22 (.t 2) 3),
                (none, .load1 23 (.t 22)),
                (none, .mv 24 (.t 6)),
                (none, .idxS 25 3 (.t 23) (.t 24)),
                (none, .loadN 26 3 (.t 25)),
                (none, .alloc 7 [(.I 0), (.I 0), (.I 0)]),
                (none, .store 3 (.t 7) (.t 26))])
             (.seq (.draw [⟨(none, .mv 27 (.t 1)), [], []⟩,
                 ⟨(none, .loadN 28 4 (.t 2)), [], []⟩,
                 ⟨(none, .mv 29 (.t 1)), [], []⟩,
                 ⟨(none, .mv 32 (.t 1)), [], []⟩,
                 ⟨(none, .idxA 33 3 1 (.t 7) (.t 32)), [], []⟩,
                 ⟨(none, .load1 34 (.t 33)), [], []⟩,
                 ⟨(none, .call (some 30) F.spec_l2Long [(.t 28), (.t 29)]), [], [0, 3, 4, 5]⟩,
                 ⟨(none, .bin 31 .sub (.t 30) (.c (.I 1))), [], []⟩,
                 ⟨(none, .bin 35 .sub (.t 31) (.t 34)), [], []⟩,
                 ⟨(none, .idxA 36 3 1 (.t 7) (.t 27)), [], []⟩,
                 ⟨(none, .store 1 (.t 36) (.t 35)), [], []⟩])
              (.ops [(none, .loadN 37 4 (.t 5)),
                 (none, .loadN 38 3 (.t 7)),
                 (none, .call (some 39) F.spec_l2With [(.t 37), (.t 38)]),
                 (none, .store 4 (.t 5) (.t 39))]))))
           (.ops [(none, .mv 20 (.t 6)),
              (none, .bin 21 .add (.t 20) (.c (.I 1))),
              (none, .mv 6 (.t 21))]))))))
      (.seq (.ops [(none, .loadN 40 4 (.t 5)),
          (none, .store 4 (.t 4) (.t 40))])
       (.ret))))⟩
def spec_l8Handed : AFn :=
  ⟨1, 10, [.tmp 2],
    .seq (.ops [(none, .box 1 (.t 0)),
       (none, .mv 2 (.c (.B false)))])
    (.seq (.draw [⟨(none, .loadN 3 4 (.t 1)), [], []⟩,
        ⟨(none, .loadN 6 4 (.t 1)), [], []⟩,
        ⟨(none, .call (some 4) F.spec_l2Mirrored [(.t 3), (.c (.I 0))]), [], [1]⟩,
        ⟨(none, .call (some 5) F.spec_l8First [(.t 4)]), [], [1]⟩,
        ⟨(none, .call (some 7) F.spec_l8First [(.t 6)]), [], []⟩,
        ⟨(none, .call (some 8) F.spec_l8Same [(.t 5), (.t 7)]), [], []⟩,
        ⟨(none, .un 9 .not (.t 8)), [], []⟩,
        ⟨(none, .mv 2 (.t 9)), [], []⟩])
     (.ret))⟩
def spec_IsHanded : AFn :=
  ⟨1, 9, [.tmp 2, .tmp 3],
    .seq (.ops [(none, .box 1 (.t 0)),
       (none, .mv 2 (.c (.B false))),
       (none, .mv 3 (.c (.B false)))])
    (.seq (.seq (.ops [(none, .loadN 4 4 (.t 1)),
         (none, .call (some 5) F.spec_l8Some [(.t 4)]),
         (none, .un 6 .not (.t 5))])
      (.cond (.t 6) (.seq (.ops [(none, .mv 2 (.c (.B false))),
           (none, .mv 3 (.c (.B false)))])
        (.ret))
       (.skip)))
     (.seq (.ops [(none, .loadN 7 4 (.t 1)),
         (none, .call (some 8) F.spec_l8Handed [(.t 7)]),
         (none, .mv 2 (.t 8)),
         (none, .mv 3 (.c (.B true)))])
      (.ret)))⟩
def spec_AreSameForm : AFn :=
  ⟨2, 19, [.tmp 4, .tmp 5],
    .seq (.ops [(none, .box 2 (.t 0)),
       (none, .box 3 (.t 1)),
       (none, .mv 4 (.c (.B false))),
       (none, .mv 5 (.c (.B false)))])
    (.seq (.seq (.ops [(none, .loadN 6 4 (.t 2)),
         (none, .call (some 7) F.spec_l8Some [(.t 6)]),
         (none, .un 8 .not (.t 7)),
         (none, .mv 9 (.t 8)),
         (some (9, false), .loadN 10 4 (.t 3)),
         (some (9, false), .call (some 11) F.spec_l8Some [(.t 10)]),
         (some (9, false), .un 12 .not (.t 11)),
         (none, .pick 13 (.t 9) (.c (.B true)) (.t 12))])
      (.cond (.t 13) (.seq (.ops [(none, .mv 4 (.c (.B false))),
           (none, .mv 5 (.c (.B false)))])
        (.ret))
       (.skip)))
     (.seq (.draw [⟨(none, .loadN 14 4 (.t 2)), [], []⟩,
         ⟨(none, .loadN 16 4 (.t 3)), [], []⟩,
         ⟨(none, .call (some 15) F.spec_l8First [(.t 14)]), [], [1]⟩,
         ⟨(none, .call (some 17) F.spec_l8First [(.t 16)]), [], []⟩,
         ⟨(none, .call (some 18) F.spec_l8Same [(.t 15), (.t 17)]), [], []⟩,
         ⟨(none, .mv 4 (.t 18)), [], []⟩,
         ⟨(none, .mv 5 (.c (.B true))), [], []⟩])
      (.ret)))⟩
end Go.Ab.C

/- That the program has this code. -/
namespace Go.Ab.K
open Go Go.Ab
theorem spec_l2Mirrored : prepF Go.Proofs.Tryz.prog F.spec_l2Mirrored = some C.spec_l2Mirrored := by kernel_rfl
theorem spec_l8Handed : prepF Go.Proofs.Tryz.prog F.spec_l8Handed = some C.spec_l8Handed := by kernel_rfl
theorem spec_IsHanded : prepF Go.Proofs.Tryz.prog F.spec_IsHanded = some C.spec_IsHanded := by kernel_rfl
theorem spec_AreSameForm : prepF Go.Proofs.Tryz.prog F.spec_AreSameForm = some C.spec_AreSameForm := by kernel_rfl
end Go.Ab.K

/- The abstract code of some functions (written by a program of mine from the translation, by way of prepF). -/
namespace Go.Ab.C
open Go.Ab
def spec_l8Some : AFn :=
  ⟨1, 11, [.tmp 2],
    .seq (.ops [(none, .box 1 (.t 0)),
       (none, .mv 2 (.c (.B false)))])
    (.seq (.ops [(none, .loadN 3 4 (.t 1)),
        (none, .call (some 4) F.spec_l2Heap [(.t 3)]),
        (none, .mv 5 (.t 4)),
        (some (5, true), .fieldAddr 6 (.t 1) 3),
        (some (5, true), .load1 7 (.t 6)),
        (some (5, true), .len 8 (.t 7)),
        (some (5, true), .bin 9 .gtr (.t 8) (.c (.I 0))),
        (none, .pick 10 (.t 5) (.t 9) (.c (.B false))),
        (none, .mv 2 (.t 10))])
     (.ret))⟩
def spec_FirstForm : AFn :=
  ⟨1, 10, [.cellN 2 4, .tmp 3],
    .seq (.ops [(none, .box 1 (.t 0)),
       (none, .alloc 2 [(.I 0), (.I 0), (.I 0), .nil]),
       (none, .mv 3 (.c (.B false)))])
    (.seq (.seq (.ops [(none, .loadN 4 4 (.t 1)),
         (none, .call (some 5) F.spec_l8Some [(.t 4)]),
         (none, .un 6 .not (.t 5))])
      (.cond (.t 6) (.seq (.ops [(none, .build 7 [(.I 0), (.I 0), (.I 0), .nil] []),
           (none, .store 4 (.t 2) (.t 7)),
           (none, .mv 3 (.c (.B false)))])
        (.ret))
       (.skip)))
     (.seq (.ops [(none, .loadN 8 4 (.t 1)),
         (none, .call (some 9) F.spec_l8First [(.t 8)]),
         (none, .store 4 (.t 2) (.t 9)),
         (none, .mv 3 (.c (.B true)))])
      (.ret)))⟩
def spec_l8Symmetries : AFn :=
  ⟨1, 31, [.tmp 2],
    .seq (.ops [(none, .box 1 (.t 0)),
       (none, .mv 2 (.c .nil))])
    (.seq (.draw [⟨(none, .loadN 9 4 (.t 1)), [], []⟩,
        ⟨(none, .buildSl 7 0 1 [] []), [], []⟩,
        ⟨(none, .alloc 5 [(.I 0), (.I 0), (.I 0), .nil]), [], []⟩,
        ⟨(none, .call (some 8) F.spec_l8Turns []), [1, 2], [0]⟩,
        ⟨(none, .call (some 10) F.spec_l2Cropped [(.t 9)]), [1, 2], []⟩,
        ⟨(none, .mv 3 (.t 7)), [], []⟩,
        ⟨(none, .mv 4 (.t 8)), [], []⟩,
        ⟨(none, .store 4 (.t 5) (.t 10)), [], []⟩])
     (.seq (.seq (.ops [(none, .mv 6 (.c (.I 0)))])
       (.block 0 (.loop (.seq (.seq (.ops [(none, .mv 11 (.t 6)),
              (none, .mv 12 (.t 4)),
              (none, .len 13 (.t 12)),
              (none, .bin 14 .lss (.t 11) (.t 13))])
           (.cond (.t 14) (.skip)
            (.exit 0)))
          (.seq (.block 1 (.seq (.draw [⟨(none, .loadN 17 4 (.t 1)), [], []⟩,
                ⟨(none, .mv 18 (.t 4)), [], []⟩,
                ⟨(none, .mv 19 (.t 6)), [], []⟩,
                ⟨(none, .idxS 20 6 (.t 18) (.t 19)), [], []⟩,
                ⟨(none, .loadN 21 6 (.t 20)), [], []⟩,
                ⟨(none, .loadN 24 4 (.t 5)), [], []⟩,
                ⟨(none, .call (some 22) F.spec_l8Made [(.t 17), (.t 21)]), [], [5]⟩,
                ⟨(none, .call (some 23) F.spec_l2Cropped [(.t 22)]), [], [5]⟩,
                ⟨(none, .call (some 25) F.spec_l8Same [(.t 23), (.t 24)]), [], []⟩])
             (.cond (.t 25) (.ops [(none, .mv 26 (.t 3)),
                 (none, .mv 27 (.t 6)),
                 (none, .buildSl 28 1 1 [(.I 0)] [(0, 1, (.t 27))]),
                 (none, .append 29 1 8 (.t 26) (.t 28)),
                 (none, .mv 3 (.t 29))])
              (.skip))))
           (.ops [(none, .mv 15 (.t 6)),
              (none, .bin 16 .add (.t 15) (.c (.I 1))),
              (none, .mv 6 (.t 16))]))))))
      (.seq (.ops [(none, .mv 30 (.t 3)),
          (none, .mv 2 (.t 30))])
       (.ret))))⟩
def spec_SymmetriesOf : AFn :=
  ⟨1, 10, [.tmp 2, .tmp 3],
    .seq (.ops [(none, .box 1 (.t 0)),
       (none, .mv 2 (.c .nil)),
       (none, .mv 3 (.c (.B false)))])
    (.seq (.seq (.ops [(none, .loadN 4 4 (.t 1)),
         (none, .call (some 5) F.spec_l8Some [(.t 4)]),
         (none, .un 6 .not (.t 5))])
      (.cond (.t 6) (.seq (.ops [(none, .buildSl 7 0 1 [] []),
           (none, .mv 2 (.t 7)),
           (none, .mv 3 (.c (.B false)))])
        (.ret))
       (.skip)))
     (.seq (.ops [(none, .loadN 8 4 (.t 1)),
         (none, .call (some 9) F.spec_l8Symmetries [(.t 8)]),
         (none, .mv 2 (.t 9)),
         (none, .mv 3 (.c (.B true)))])
      (.ret)))⟩
def spec_PositionsOf : AFn :=
  ⟨1, 11, [.tmp 2, .tmp 3],
    .seq (.ops [(none, .box 1 (.t 0)),
       (none, .mv 2 (.c (.I 0))),
       (none, .mv 3 (.c (.B false)))])
    (.seq (.seq (.ops [(none, .loadN 4 4 (.t 1)),
         (none, .call (some 5) F.spec_l8Some [(.t 4)]),
         (none, .un 6 .not (.t 5))])
      (.cond (.t 6) (.seq (.ops [(none, .mv 2 (.c (.I 0))),
           (none, .mv 3 (.c (.B false)))])
        (.ret))
       (.skip)))
     (.seq (.ops [(none, .loadN 7 4 (.t 1)),
         (none, .call (some 8) F.spec_l8Symmetries [(.t 7)]),
         (none, .len 9 (.t 8)),
         (none, .bin 10 .quo (.c (.I 24)) (.t 9)),
         (none, .mv 2 (.t 10)),
         (none, .mv 3 (.c (.B true)))])
      (.ret)))⟩
end Go.Ab.C

/- That the program has this code. -/
namespace Go.Ab.K
open Go Go.Ab
theorem spec_l8Some : prepF Go.Proofs.Tryz.prog F.spec_l8Some = some C.spec_l8Some := by kernel_rfl
theorem spec_FirstForm : prepF Go.Proofs.Tryz.prog F.spec_FirstForm = some C.spec_FirstForm := by kernel_rfl
theorem spec_l8Symmetries : prepF Go.Proofs.Tryz.prog F.spec_l8Symmetries = some C.spec_l8Symmetries := by kernel_rfl
theorem spec_SymmetriesOf : prepF Go.Proofs.Tryz.prog F.spec_SymmetriesOf = some C.spec_SymmetriesOf := by kernel_rfl
theorem spec_PositionsOf : prepF Go.Proofs.Tryz.prog F.spec_PositionsOf = some C.spec_PositionsOf := by kernel_rfl
end Go.Ab.K

/- The abstract code of some functions (written by a program of mine from the translation, by way of prepF). -/
namespace Go.Ab.C
open Go.Ab
def spec_l8Same : AFn :=
  ⟨2, 15, [.tmp 4],
    .seq (.ops [(none, .box 2 (.t 0)),
       (none, .box 3 (.t 1)),
       (none, .mv 4 (.c (.B false)))])
    (.seq (.ops [(none, .loadN 5 4 (.t 2)),
        (none, .loadN 6 4 (.t 3)),
        (none, .call (some 7) F.spec_l8Less [(.t 5), (.t 6)]),
        (none, .un 8 .not (.t 7)),
        (none, .mv 9 (.t 8)),
        (some (9, true), .loadN 10 4 (.t 3)),
        (some (9, true), .loadN 11 4 (.t 2)),
        (some (9, true), .call (some 12) F.spec_l8Less [(.t 10), (.t 11)]),
        (some (9, true), .un 13 .not (.t 12)),
        (none, .pick 14 (.t 9) (.t 13) (.c (.B false))),
        (none, .mv 4 (.t 14))])
     (.ret))⟩
def spec_l8First : AFn :=
  ⟨1, 28, [.cellN 2 4],
    .seq (.ops [(none, .box 1 (.t 0)),
       (none, .alloc 2 [(.I 0), (.I 0), (.I 0), .nil])])
    (.seq (.ops [(none, .loadN 7 4 (.t 1)),
        (none, .call (some 8) F.spec_l2Cropped [(.t 7)]),
        (none, .call (some 9) F.spec_l8Turns []),
        (none, .alloc 3 [(.I 0), (.I 0), (.I 0), .nil]),
        (none, .store 4 (.t 3) (.t 8)),
        (none, .mv 4 (.t 9))])
     (.seq (.seq (.ops [(none, .mv 5 (.c (.I 0)))])
       (.block 0 (.loop (.seq (.seq (.ops [(none, .mv 10 (.t 5)),
              (none, .mv 11 (.t 4)),
              (none, .len 12 (.t 11)),
              (none, .bin 13 .lss (.t 10) (.t 12))])
           (.cond (.t 13) (.skip)
            (.exit 0)))
          (.seq (.block 1 (.seq (.draw [⟨(none, .loadN 16 4 (.t 1)), [], []⟩,
                ⟨(none, .mv 17 (.t 4)), [], []⟩,
                ⟨(none, .mv 18 (.t 5)), [], []⟩,
                ⟨(none, .idxS 19 6 (.t 17) (.t 18)), [], []⟩,
                ⟨(none, .loadN 20 6 (.t 19)), [], []⟩,
                ⟨(none, .alloc 6 [(.I 0), (.I 0), (.I 0), .nil]), [], []⟩,
                ⟨(none, .call (some 21) F.spec_l8Made [(.t 16), (.t 20)]), [5], []⟩,
                ⟨(none, .call (some 22) F.spec_l2Cropped [(.t 21)]), [5], []⟩,
                ⟨(none, .store 4 (.t 6) (.t 22)), [], []⟩])
             (.seq (.ops [(none, .loadN 23 4 (.t 6)),
                 (none, .loadN 24 4 (.t 3)),
                 (none, .call (some 25) F.spec_l8Less [(.t 23), (.t 24)])])
              (.cond (.t 25) (.ops [(none, .loadN 26 4 (.t 6)),
                  (none, .store 4 (.t 3) (.t 26))])
               (.skip)))))
           (.ops [(none, .mv 14 (.t 5)),
              (none, .bin 15 .add (.t 14) (.c (.I 1))),
              (none, .mv 5 (.t 15))]))))))
      (.seq (.ops [(none, .loadN 27 4 (.t 3)),
          (none, .store 4 (.t 2) (.t 27))])
       (.ret))))⟩
end Go.Ab.C

/- That the program has this code. -/
namespace Go.Ab.K
open Go Go.Ab
theorem spec_l8Same : prepF Go.Proofs.Tryz.prog F.spec_l8Same = some C.spec_l8Same := by kernel_rfl
theorem spec_l8First : prepF Go.Proofs.Tryz.prog F.spec_l8First = some C.spec_l8First := by kernel_rfl
end Go.Ab.K

/- The abstract code of some functions (written by a program of mine from the translation, by way of prepF). -/
namespace Go.Ab.C
open Go.Ab
def spec_l8Less : AFn :=
  ⟨2, 71, [.tmp 4],
    .seq (.ops [(none, .box 2 (.t 0)),
       (none, .box 3 (.t 1)),
       (none, .mv 4 (.c (.B false)))])
    (.seq (.draw [⟨(none, .fieldAddr 8 (.t 2) 0), [], []⟩,
        ⟨(none, .load1 9 (.t 8)), [], []⟩,
        ⟨(none, .fieldAddr 10 (.t 2) 1), [], []⟩,
        ⟨(none, .load1 11 (.t 10)), [], []⟩,
        ⟨(none, .fieldAddr 12 (.t 2) 2), [], []⟩,
        ⟨(none, .load1 13 (.t 12)), [], []⟩,
        ⟨(none, .build 14 [(.I 0), (.I 0), (.I 0)] [(0, 1, (.t 9)), (1, 1, (.t 11)), (2, 1, (.t 13))]), [], []⟩,
        ⟨(none, .fieldAddr 15 (.t 3) 0), [], []⟩,
        ⟨(none, .load1 16 (.t 15)), [], []⟩,
        ⟨(none, .fieldAddr 17 (.t 3) 1), [], []⟩,
        ⟨(none, .load1 18 (.t 17)), [], []⟩,
        ⟨(none, .fieldAddr 19 (.t 3) 2), [], []⟩,
        ⟨(none, .load1 20 (.t 19)), [], []⟩,
        ⟨(none, .build 21 [(.I 0), (.I 0), (.I 0)] [(0, 1, (.t 16)), (1, 1, (.t 18)), (2, 1, (.t 20))]), [], []⟩,
        ⟨(none, .alloc 5 [(.I 0), (.I 0), (.I 0)]), [], []⟩,
        ⟨(none, .alloc 6 [(.I 0), (.I 0), (.I 0)]), [], []⟩,
        ⟨(none, .store 3 (.t 5) (.t 14)), [], [7, 8, 9, 10, 11, 12, 13]⟩,
        ⟨(none, .store 3 (.t 6) (.t 21)), [], []⟩])
     (.seq (.seq (.ops [(none, .loadN 22 3 (.t 5)),
          (none, .loadN 23 3 (.t 6)),
          (none, .eqs 24 true 3 (.t 22) (.t 23))])
       (.cond (.t 24) (.seq (.ops [(none, .loadN 25 3 (.t 5)),
            (none, .loadN 26 3 (.t 6)),
            (none, .call (some 27) F.spec_l2Before [(.t 25), (.t 26)]),
            (none, .mv 4 (.t 27))])
         (.ret))
        (.skip)))
      (.seq (.seq (.ops [(none, .mv 7 (.c (.I 0)))])
        (.block 0 (.loop (.seq (.seq (.ops [(none, .mv 28 (.t 7)),
               (none, .fieldAddr 29 (.t 2) 3),
               (none, .load1 30 (.t 29)),
               (none, .len 31 (.t 30)),
               (none, .bin 32 .lss (.t 28) (.t 31)),
               (none, .mv 33 (.t 32)),
               (some (33, true), .mv 34 (.t 7)),
               (some (33, true), .fieldAddr 35 (.t 3) 3),
               (some (33, true), .load1 36 (.t 35)),
               (some (33, true), .len 37 (.t 36)),
               (some (33, true), .bin 38 .lss (.t 34) (.t 37)),
               (none, .pick 39 (.t 33) (.t 38) (.c (.B false)))])
            (.cond (.t 39) (.skip)
             (.exit 0)))
           (.seq (.block 1 (.seq (.draw [⟨(none, .fieldAddr 42 (.t 2) 3), [], []⟩,
                 ⟨(none, .load1 43 (.t 42)), [], []⟩,
                 ⟨(none, .mv 44 (.t 7)), [], []⟩,
                 ⟨(none, .idxS 45 3 (.t 43) (.t 44)), [], []⟩,
                 ⟨(none, .loadN 46 3 (.t 45)), [], []⟩,
                 ⟨(none, .fieldAddr 47 (.t 3) 3), [], []⟩,
                 ⟨(none, .load1 48 (.t 47)), [], []⟩,
                 ⟨(none, .mv 49 (.t 7)), [], []⟩,
                 ⟨(none, .idxS 50 3 (.t 48) (.t 49)), [], []⟩,
                 ⟨(none, .loadN 51 3 (.t 50)), [], []⟩,
                 ⟨(none, .eqs 52 true 3 (.t 46) (.t 51)), [], []⟩])
              (.cond (.t 52) (.seq (.draw [⟨(none, .fieldAddr 53 (.t 2) 3), [], []⟩,
                   ⟨(none, .load1 54 (.t 53)), [], []⟩,
                   ⟨(none, .mv 55 (.t 7)), [], []⟩,
                   ⟨(none, .idxS 56 3 (.t 54) (.t 55)), [], []⟩,
                   ⟨(none, .loadN 57 3 (.t 56)), [], []⟩,
                   ⟨(none, .fieldAddr 58 (.t 3) 3), [], []⟩,
                   ⟨(none, .load1 59 (.t 58)), [], []⟩,
                   ⟨(none, .mv 60 (.t 7)), [], []⟩,
                   ⟨(none, .idxS 61 3 (.t 59) (.t 60)), [], []⟩,
                   ⟨(none, .loadN 62 3 (.t 61)), [], []⟩,
                   ⟨(none, .call (some 63) F.spec_l2Before [(.t 57), (.t 62)]), [], []⟩,
                   ⟨(none, .mv 4 (.t 63)), [], []⟩])
                (.ret))
               (.skip))))
            (.ops [(none, .mv 40 (.t 7)),
               (none, .bin 41 .add (.t 40) (.c (.I 1))),
               (none, .mv 7 (.t 41))]))))))
       (.seq (.ops [(none, .fieldAddr 64 (.t 2) 3),
           (none, .load1 65 (.t 64)),
           (none, .len 66 (.t 65)),
           (none, .fieldAddr 67 (.t 3) 3),
           (none, .load1 68 (.t 67)),
           (none, .len 69 (.t 68)),
           (none, .bin 70 .lss (.t 66) (.t 69)),
           (none, .mv 4 (.t 70))])
        (.ret)))))⟩
end Go.Ab.C

/- That the program has this code. -/
namespace Go.Ab.K
open Go Go.Ab
theorem spec_l8Less : prepF Go.Proofs.Tryz.prog F.spec_l8Less = some C.spec_l8Less := by kernel_rfl
end Go.Ab.K

/- Contracts: the reference's order of heaps, and first forms. -/
namespace Go.Ab
open Go
set_option linter.unusedSimpArgs false
set_option linter.unusedVariables false

def lexC : List Cell → List Cell → Bool
  | _, [] => false
  | [], _ :: _ => true
  | a :: l, b :: m => if a = b then lexC l m else decide (a.lt b)
def Hp.dims (h : Hp) : Cell := ⟨h.x, h.y, h.z⟩
def lessHp (g h : Hp) : Bool := if g.dims = h.dims then lexC g.cs h.cs else decide (g.dims.lt h.dims)
theorem lexC_irr : ∀ l, lexC l l = false
  | [] => rfl
  | a :: l => by simp only [lexC, if_true]; exact lexC_irr l
theorem lexC_tot : ∀ {l m : List Cell}, lexC l m = false → lexC m l = false → l = m
  | [], [], _, _ => rfl
  | [], _ :: _, h, _ => by simp [lexC] at h
  | _ :: _, [], _, h => by simp [lexC] at h
  | a :: l, b :: m, h, k => by
    simp only [lexC] at h k
    by_cases e : a = b
    · subst e
      rw [if_pos rfl] at h k
      rw [lexC_tot h k]
    · rw [if_neg e] at h
      rw [if_neg (fun h => e h.symm)] at k
      rcases Cell.lt_tri a b with h1 | h1 | h1
      · exact absurd h1 (of_decide_eq_false h)
      · exact absurd h1 e
      · exact absurd h1 (of_decide_eq_false k)
theorem lessHp_irr (h : Hp) : lessHp h h = false := by unfold lessHp; rw [if_pos rfl]; exact lexC_irr _
theorem lessHp_tot {g h : Hp} (h1 : lessHp g h = false) (h2 : lessHp h g = false) : g = h := by
  unfold lessHp at h1 h2
  by_cases e : g.dims = h.dims
  · rw [if_pos e] at h1
    rw [if_pos e.symm] at h2
    have := lexC_tot h1 h2
    obtain ⟨a, b, c, l⟩ := g
    obtain ⟨a', b', c', l'⟩ := h
    simp only [Hp.dims, Cell.mk.injEq] at e
    obtain ⟨rfl, rfl, rfl⟩ := e
    simp only at this
    rw [this]
  · rw [if_neg e] at h1
    rw [if_neg (fun h => e h.symm)] at h2
    rcases Cell.lt_tri g.dims h.dims with k | k | k
    · exact absurd k (of_decide_eq_false h1)
    · exact absurd k e
    · exact absurd k (of_decide_eq_false h2)
theorem sameHp {g h : Hp} : (!lessHp g h && !lessHp h g) = true ↔ g = h := by
  simp only [Bool.and_eq_true, Bool.not_eq_true']
  exact ⟨fun k => lessHp_tot k.1 k.2, fun e => by subst e; exact ⟨lessHp_irr _, lessHp_irr _⟩⟩

theorem beq3 {a b : Cell} : (a.a == b.a && (a.b == b.b && a.c == b.c)) = decide (a = b) := by
  rw [Bool.eq_iff_iff, decide_eq_true_iff, cell_eq]
  simp only [Bool.and_eq_true, beq_iff_eq]
theorem h_l8Less {g h : Hp} {t o t' o' : Nat} {M : Mem} (hg : Tri M t o g.cs) (hh : Tri M t' o' h.cs) (hn : g.cs.length ≤ 1000000) (hn' : h.cs.length ≤ 1000000) :
    CallsTo PG F.spec_l8Less [.agg [.I g.x, .I g.y, .I g.z, .ref t o g.cs.length], .agg [.I h.x, .I h.y, .I h.z, .ref t' o' h.cs.length]] M (.B (lessHp g h)) M := by
  have ht := hg.lt
  have ht' := hh.lt
  refine calls_run K.spec_l8Less rfl ?_
  simp (disch := omega) only [C.spec_l8Less, splice, eqV, eqC, if_true, ite_true, Bool.and_true, List.getElem?_append_left, ↓SXd, SXu, slBounds, ↓sop, ↓aop, ↓reduceIte, LV.cells, AOp.dst, LV.I, LV.B, LV.U, LV.S, LV.nil, Nat.reduceEqDiff, Nat.reduceAdd, Nat.reduceMul, Nat.reduceSub, Nat.reduceLeDiff, Nat.reduceBEq, Nat.reduceDiv, Nat.reduceMod, Int.reduceToNat, Int.reduceLT, Int.reduceLE, Int.reduceAdd, Int.reduceSub, Int.reduceMul, Int.reduceEq, Int.reduceNeg, reduceCtorEq, resV, resAll, ARes.ev, LV.flat, ite_true, ite_false, exists_eq_left', exists_eq_left, keyOf, implies_true, fillC, capOf]
  rw [show (g.x == h.x && (g.y == h.y && g.z == h.z)) = decide (g.dims = h.dims) from beq3 (a := g.dims) (b := h.dims)]
  unfold lessHp
  by_cases hd : g.dims = h.dims
  · rw [if_pos hd]
    simp (disch := omega) only [hd, ↓SXd, SXu, slBounds, ↓sop, ↓aop, ↓reduceIte, LV.cells, AOp.dst, LV.I, LV.B, LV.U, LV.S, LV.nil, Nat.reduceEqDiff, Nat.reduceAdd, Nat.reduceMul, Nat.reduceSub, Nat.reduceLeDiff, Nat.reduceBEq, Nat.reduceDiv, Nat.reduceMod, Int.reduceToNat, Int.reduceLT, Int.reduceLE, Int.reduceAdd, Int.reduceSub, Int.reduceMul, Int.reduceEq, Int.reduceNeg, reduceCtorEq, resV, resAll, ARes.ev, LV.flat, ite_true, ite_false, exists_eq_left', exists_eq_left, keyOf, implies_true, fillC, capOf]
    refine ev_loop (fun m fr M' => ∃ k : Nat, k + m = g.cs.length ∧ k ≤ h.cs.length ∧ Pre M M' ∧ Live M' M.length (.row [.I g.x, .I g.y, .I g.z, .ref t o g.cs.length] true 0) ∧ Live M' (M.length + 1) (.row [.I h.x, .I h.y, .I h.z, .ref t' o' h.cs.length] true 0) ∧
      lexC (g.cs.drop k) (h.cs.drop k) = lexC g.cs h.cs ∧ fr 2 = .ptr M.length 0 ∧ fr 3 = .ptr (M.length + 1) 0 ∧ fr 7 = .I k) g.cs.length
      ⟨0, by omega, by omega, Pre.app _ _, Live.new, Live.newj rfl, rfl, rfl, rfl, rfl⟩ ?_
    rintro m fr M' ⟨k, hk, hkh, hpre, b2, b3, hlex, f2, f3, f7⟩
    by_cases h1 : (k : Int) < g.cs.length
    · by_cases h2 : (k : Int) < h.cs.length
      · have hk1 : k < g.cs.length := by omega
        have hk2 : k < h.cs.length := by omega
        have g1 := Tri.get (hg.pre hpre) hk1
        have g2 := Tri.get (hh.pre hpre) hk2
        have hlm := b3.lt
        rw [List.drop_eq_getElem_cons hk1, List.drop_eq_getElem_cons hk2] at hlex
        have e1 : g.cs.getD k default = g.cs[k] := by simp [hk1]
        have e2 : h.cs.getD k default = h.cs[k] := by simp [hk2]
        rw [← e1, ← e2] at hlex
        generalize g.cs.getD k default = c at g1 hlex
        generalize h.cs.getD k default = d at g2 hlex
        simp (disch := omega) only [f2, f3, f7, h1, h2, b2.cell, b3.cell, g1, g2, Cell.row, eqV, eqC, if_true, ite_true, Bool.and_true, ↓SXd, SXu, slBounds, ↓sop, ↓aop, ↓reduceIte, LV.cells, AOp.dst, LV.I, LV.B, LV.U, LV.S, LV.nil, Nat.reduceEqDiff, Nat.reduceAdd, Nat.reduceMul, Nat.reduceSub, Nat.reduceLeDiff, Nat.reduceBEq, Nat.reduceDiv, Nat.reduceMod, Int.reduceToNat, Int.reduceLT, Int.reduceLE, Int.reduceAdd, Int.reduceSub, Int.reduceMul, Int.reduceEq, Int.reduceNeg, reduceCtorEq, resV, resAll, ARes.ev, LV.flat, ite_true, ite_false, exists_eq_left', exists_eq_left, keyOf, implies_true, fillC, capOf]
        rw [beq3]
        simp only [lexC] at hlex
        by_cases he : c = d
        · rw [if_pos he] at hlex
          simp (disch := omega) only [f2, f3, f7, he, ↓SXd, SXu, slBounds, ↓sop, ↓aop, ↓reduceIte, LV.cells, AOp.dst, LV.I, LV.B, LV.U, LV.S, LV.nil, Nat.reduceEqDiff, Nat.reduceAdd, Nat.reduceMul, Nat.reduceSub, Nat.reduceLeDiff, Nat.reduceBEq, Nat.reduceDiv, Nat.reduceMod, Int.reduceToNat, Int.reduceLT, Int.reduceLE, Int.reduceAdd, Int.reduceSub, Int.reduceMul, Int.reduceEq, Int.reduceNeg, reduceCtorEq, resV, resAll, ARes.ev, LV.flat, ite_true, ite_false, exists_eq_left', exists_eq_left, keyOf, implies_true, fillC, capOf]
          exact ⟨m - 1, by omega, k + 1, by omega, by omega, hpre, b2, b3, hlex, f2, f3, eqI (natI _)⟩
        · rw [if_neg he] at hlex
          simp (disch := omega) only [f2, f3, f7, he, b2.cell, b3.cell, g1, g2, Cell.row, ↓SXd, SXu, slBounds, ↓sop, ↓aop, ↓reduceIte, LV.cells, AOp.dst, LV.I, LV.B, LV.U, LV.S, LV.nil, Nat.reduceEqDiff, Nat.reduceAdd, Nat.reduceMul, Nat.reduceSub, Nat.reduceLeDiff, Nat.reduceBEq, Nat.reduceDiv, Nat.reduceMod, Int.reduceToNat, Int.reduceLT, Int.reduceLE, Int.reduceAdd, Int.reduceSub, Int.reduceMul, Int.reduceEq, Int.reduceNeg, reduceCtorEq, resV, resAll, ARes.ev, LV.flat, ite_true, ite_false, exists_eq_left', exists_eq_left, keyOf, implies_true, fillC, capOf]
          refine callK_of (h_l2Before) ?_
          simp (disch := omega) only [f2, f3, f7, ↓SXd, SXu, slBounds, ↓sop, ↓aop, ↓reduceIte, LV.cells, AOp.dst, LV.I, LV.B, LV.U, LV.S, LV.nil, Nat.reduceEqDiff, Nat.reduceAdd, Nat.reduceMul, Nat.reduceSub, Nat.reduceLeDiff, Nat.reduceBEq, Nat.reduceDiv, Nat.reduceMod, Int.reduceToNat, Int.reduceLT, Int.reduceLE, Int.reduceAdd, Int.reduceSub, Int.reduceMul, Int.reduceEq, Int.reduceNeg, reduceCtorEq, resV, resAll, ARes.ev, LV.flat, ite_true, ite_false, exists_eq_left', exists_eq_left, keyOf, implies_true, fillC, capOf]
          rw [← hlex]
          exact cmp_pre hpre rfl
      · simp (disch := omega) only [f2, f3, f7, h1, h2, b2.cell, b3.cell, ↓SXd, SXu, slBounds, ↓sop, ↓aop, ↓reduceIte, LV.cells, AOp.dst, LV.I, LV.B, LV.U, LV.S, LV.nil, Nat.reduceEqDiff, Nat.reduceAdd, Nat.reduceMul, Nat.reduceSub, Nat.reduceLeDiff, Nat.reduceBEq, Nat.reduceDiv, Nat.reduceMod, Int.reduceToNat, Int.reduceLT, Int.reduceLE, Int.reduceAdd, Int.reduceSub, Int.reduceMul, Int.reduceEq, Int.reduceNeg, reduceCtorEq, resV, resAll, ARes.ev, LV.flat, ite_true, ite_false, exists_eq_left', exists_eq_left, keyOf, implies_true, fillC, capOf]
        have hk2 : k = h.cs.length := by omega
        rw [← hlex, show lexC (g.cs.drop k) (h.cs.drop k) = decide ((g.cs.length : Int) < h.cs.length) by
          rw [show h.cs.drop k = [] from List.drop_eq_nil_of_le (by omega)]
          cases g.cs.drop k <;> simp only [lexC] <;> rw [eq_comm, decide_eq_false_iff_not] <;> omega]
        exact cmp_pre hpre rfl
    · simp (disch := omega) only [f2, f3, f7, h1, b2.cell, b3.cell, ↓SXd, SXu, slBounds, ↓sop, ↓aop, ↓reduceIte, LV.cells, AOp.dst, LV.I, LV.B, LV.U, LV.S, LV.nil, Nat.reduceEqDiff, Nat.reduceAdd, Nat.reduceMul, Nat.reduceSub, Nat.reduceLeDiff, Nat.reduceBEq, Nat.reduceDiv, Nat.reduceMod, Int.reduceToNat, Int.reduceLT, Int.reduceLE, Int.reduceAdd, Int.reduceSub, Int.reduceMul, Int.reduceEq, Int.reduceNeg, reduceCtorEq, resV, resAll, ARes.ev, LV.flat, ite_true, ite_false, exists_eq_left', exists_eq_left, keyOf, implies_true, fillC, capOf]
      rw [← hlex, show lexC (g.cs.drop k) (h.cs.drop k) = decide ((g.cs.length : Int) < h.cs.length) by
        rw [show g.cs.drop k = [] from List.drop_eq_nil_of_le (by omega)]
        by_cases h2 : k < h.cs.length
        · rw [List.drop_eq_getElem_cons h2, decide_eq_true (by omega)]; rfl
        · rw [show h.cs.drop k = [] from List.drop_eq_nil_of_le (by omega), decide_eq_false (by omega)]; rfl]
      exact cmp_pre hpre rfl
  · rw [if_neg hd]
    simp (disch := omega) only [hd, ↓SXd, SXu, slBounds, ↓sop, ↓aop, ↓reduceIte, LV.cells, AOp.dst, LV.I, LV.B, LV.U, LV.S, LV.nil, Nat.reduceEqDiff, Nat.reduceAdd, Nat.reduceMul, Nat.reduceSub, Nat.reduceLeDiff, Nat.reduceBEq, Nat.reduceDiv, Nat.reduceMod, Int.reduceToNat, Int.reduceLT, Int.reduceLE, Int.reduceAdd, Int.reduceSub, Int.reduceMul, Int.reduceEq, Int.reduceNeg, reduceCtorEq, resV, resAll, ARes.ev, LV.flat, ite_true, ite_false, exists_eq_left', exists_eq_left, keyOf, implies_true, fillC, capOf]
    refine callK_of (h_l2Before) ?_
    simp (disch := omega) only [↓SXd, SXu, slBounds, ↓sop, ↓aop, ↓reduceIte, LV.cells, AOp.dst, LV.I, LV.B, LV.U, LV.S, LV.nil, Nat.reduceEqDiff, Nat.reduceAdd, Nat.reduceMul, Nat.reduceSub, Nat.reduceLeDiff, Nat.reduceBEq, Nat.reduceDiv, Nat.reduceMod, Int.reduceToNat, Int.reduceLT, Int.reduceLE, Int.reduceAdd, Int.reduceSub, Int.reduceMul, Int.reduceEq, Int.reduceNeg, reduceCtorEq, resV, resAll, ARes.ev, LV.flat, ite_true, ite_false, exists_eq_left', exists_eq_left, keyOf, implies_true, fillC, capOf]
    exact cmp_drop rfl
end Go.Ab

/- Contracts: the reference's first forms. -/
namespace Go.Ab
open Go
set_option linter.unusedSimpArgs false
set_option linter.unusedVariables false

theorem h_l8Same {g h : Hp} {t o t' o' : Nat} {M : Mem} (hg : Tri M t o g.cs) (hh : Tri M t' o' h.cs) (hn : g.cs.length ≤ 1000000) (hn' : h.cs.length ≤ 1000000) :
    CallsTo PG F.spec_l8Same [.agg [.I g.x, .I g.y, .I g.z, .ref t o g.cs.length], .agg [.I h.x, .I h.y, .I h.z, .ref t' o' h.cs.length]] M (.B (!lessHp g h && !lessHp h g)) M := by
  refine calls_run K.spec_l8Same rfl ?_
  simp (disch := omega) only [C.spec_l8Same, ↓SXd, SXu, slBounds, ↓sop, ↓aop, ↓reduceIte, LV.cells, AOp.dst, LV.I, LV.B, LV.U, LV.S, LV.nil, Nat.reduceEqDiff, Nat.reduceAdd, Nat.reduceMul, Nat.reduceSub, Nat.reduceLeDiff, Nat.reduceBEq, Nat.reduceDiv, Nat.reduceMod, Int.reduceToNat, Int.reduceLT, Int.reduceLE, Int.reduceAdd, Int.reduceSub, Int.reduceMul, Int.reduceEq, Int.reduceNeg, reduceCtorEq, resV, resAll, ARes.ev, LV.flat, ite_true, ite_false, exists_eq_left', exists_eq_left, keyOf, implies_true, fillC, capOf]
  refine callK_of (h_l8Less hg.app hh.app hn hn') ?_
  simp (disch := omega) only [↓SXd, SXu, slBounds, ↓sop, ↓aop, ↓reduceIte, LV.cells, AOp.dst, LV.I, LV.B, LV.U, LV.S, LV.nil, Nat.reduceEqDiff, Nat.reduceAdd, Nat.reduceMul, Nat.reduceSub, Nat.reduceLeDiff, Nat.reduceBEq, Nat.reduceDiv, Nat.reduceMod, Int.reduceToNat, Int.reduceLT, Int.reduceLE, Int.reduceAdd, Int.reduceSub, Int.reduceMul, Int.reduceEq, Int.reduceNeg, reduceCtorEq, resV, resAll, ARes.ev, LV.flat, ite_true, ite_false, exists_eq_left', exists_eq_left, keyOf, implies_true, fillC, capOf]
  cases h1 : lessHp g h with
  | true =>
    simp (disch := omega) only [h1, ↓SXd, SXu, slBounds, ↓sop, ↓aop, ↓reduceIte, LV.cells, AOp.dst, LV.I, LV.B, LV.U, LV.S, LV.nil, Nat.reduceEqDiff, Nat.reduceAdd, Nat.reduceMul, Nat.reduceSub, Nat.reduceLeDiff, Nat.reduceBEq, Nat.reduceDiv, Nat.reduceMod, Int.reduceToNat, Int.reduceLT, Int.reduceLE, Int.reduceAdd, Int.reduceSub, Int.reduceMul, Int.reduceEq, Int.reduceNeg, reduceCtorEq, resV, resAll, ARes.ev, LV.flat, ite_true, ite_false, exists_eq_left', exists_eq_left, keyOf, implies_true, fillC, capOf]
    exact cmp_drop rfl
  | false =>
    simp (disch := omega) only [h1, ↓SXd, SXu, slBounds, ↓sop, ↓aop, ↓reduceIte, LV.cells, AOp.dst, LV.I, LV.B, LV.U, LV.S, LV.nil, Nat.reduceEqDiff, Nat.reduceAdd, Nat.reduceMul, Nat.reduceSub, Nat.reduceLeDiff, Nat.reduceBEq, Nat.reduceDiv, Nat.reduceMod, Int.reduceToNat, Int.reduceLT, Int.reduceLE, Int.reduceAdd, Int.reduceSub, Int.reduceMul, Int.reduceEq, Int.reduceNeg, reduceCtorEq, resV, resAll, ARes.ev, LV.flat, ite_true, ite_false, exists_eq_left', exists_eq_left, keyOf, implies_true, fillC, capOf]
    refine callK_of (h_l8Less hh.app hg.app hn' hn) ?_
    simp (disch := omega) only [↓SXd, SXu, slBounds, ↓sop, ↓aop, ↓reduceIte, LV.cells, AOp.dst, LV.I, LV.B, LV.U, LV.S, LV.nil, Nat.reduceEqDiff, Nat.reduceAdd, Nat.reduceMul, Nat.reduceSub, Nat.reduceLeDiff, Nat.reduceBEq, Nat.reduceDiv, Nat.reduceMod, Int.reduceToNat, Int.reduceLT, Int.reduceLE, Int.reduceAdd, Int.reduceSub, Int.reduceMul, Int.reduceEq, Int.reduceNeg, reduceCtorEq, resV, resAll, ARes.ev, LV.flat, ite_true, ite_false, exists_eq_left', exists_eq_left, keyOf, implies_true, fillC, capOf]
    exact cmp_drop rfl

def bestH (b : Hp) (l : List Hp) : Hp := l.foldl (fun b n => if lessHp n b then n else b) b
/-- The positions of a heap: it is turned, and put into the least box. -/
def posHp (x y z : Int) (cs : List Cell) (T : Turn) : Hp := cropHp (turnHp x y z T cs).cs
def formHp (x y z : Int) (cs : List Cell) : Hp := bestH (cropHp cs) (turns.map (posHp x y z cs))
theorem Live.six {N : Mem} {t k e : Nat} {w : Bool} {l : List Turn} (h : Live N t (.row (sixL l) w e)) (hk : k < l.length) : getCells N t (k * 6) 6 = some l[k].row := by
  rw [h.cells, if_pos (by rw [sixL_len]; omega), sixL_at hk]
theorem cells_small {x y z : Int} {cs : List Cell} (hH : HeapOK x y z cs) : ∀ c ∈ cs, Small c := fun c hc => by
  obtain ⟨⟨_, _⟩, ⟨_, _⟩, ⟨_, _⟩⟩ := hH.mem hc
  obtain ⟨⟨_, _⟩, ⟨_, _⟩, ⟨_, _⟩⟩ := hH.1
  exact ⟨⟨by omega, by omega⟩, ⟨by omega, by omega⟩, ⟨by omega, by omega⟩⟩
theorem turnHp_ok {x y z : Int} {cs : List Cell} (hH : HeapOK x y z cs) (T : Turn) : HeapOK (turnHp x y z T cs).x (turnHp x y z T cs).y (turnHp x y z T cs).z (turnHp x y z T cs).cs := pick_ok (turnSides hH.1 T) _
theorem turnHp_pos {x y z : Int} {cs : List Cell} (hH : HeapOK x y z cs) (h0 : 0 < cs.length) (T : Turn) : 0 < (turnHp x y z T cs).cs.length := by
  have hm : mapT x y z T (cs.getD 0 default) ∈ (turnHp x y z T cs).cs := (mem_pick (turnSides hH.1 T)).2 ⟨mapT_in (hH.mem (getD_mem' h0)) T, decide_eq_true (List.mem_map_of_mem (getD_mem' h0))⟩
  exact List.length_pos_of_mem hm
theorem cropHp_len {cs : List Cell} : (cropHp cs).cs.length = cs.length := List.length_map ..
theorem bestH_len {n : Nat} : ∀ {l : List Hp} {b : Hp}, b.cs.length ≤ n → (∀ h ∈ l, h.cs.length ≤ n) → (bestH b l).cs.length ≤ n
  | [], _, h, _ => h
  | a :: l, b, h, hl => by
    show (bestH (if lessHp a b then a else b) l).cs.length ≤ n
    refine bestH_len ?_ fun e he => hl e (by simp [he])
    split
    · exact hl a (by simp)
    · exact h

theorem h_l8First {x y z : Int} {t : Nat} {w : Bool} {cs : List Cell} {M : Mem} (h : Live M t (.row (triL cs) w 3)) (hH : HeapOK x y z cs) (h0 : 0 < cs.length) :
    CallsTo PG F.spec_l8First [.agg [.I x, .I y, .I z, .ref t 0 cs.length]] M (.agg [.I (formHp x y z cs).x, .I (formHp x y z cs).y, .I (formHp x y z cs).z, .ref M.length 0 (formHp x y z cs).cs.length]) (M ++ [some (.row (triL (formHp x y z cs).cs) true 3)]) := by
  have ht := h.lt
  have hlen := hH.len
  have h24 := turns_len
  have hbl : ∀ k, (bestH (cropHp cs) ((turns.map (posHp x y z cs)).take k)).cs.length ≤ 64 := fun k => bestH_len (by rw [cropHp_len]; exact hlen) fun g hg => by
    obtain ⟨T, _, rfl⟩ := List.mem_map.1 (List.mem_of_mem_take hg)
    unfold posHp; rw [cropHp_len]; exact (turnHp_ok hH T).len
  refine calls_run K.spec_l8First rfl ?_
  simp (disch := omega) only [C.spec_l8First, ↓SXd, SXu, slBounds, ↓sop, ↓aop, ↓reduceIte, LV.cells, AOp.dst, LV.I, LV.B, LV.U, LV.S, LV.nil, Nat.reduceEqDiff, Nat.reduceAdd, Nat.reduceMul, Nat.reduceSub, Nat.reduceLeDiff, Nat.reduceBEq, Nat.reduceDiv, Nat.reduceMod, Int.reduceToNat, Int.reduceLT, Int.reduceLE, Int.reduceAdd, Int.reduceSub, Int.reduceMul, Int.reduceEq, Int.reduceNeg, reduceCtorEq, resV, resAll, ARes.ev, LV.flat, ite_true, ite_false, exists_eq_left', exists_eq_left, keyOf, implies_true, fillC, capOf]
  refine callK_of (h_l2Cropped (Has.app h.has) (by omega) h0 (cells_small hH)) ?_
  simp (disch := omega) only [↓SXd, SXu, slBounds, ↓sop, ↓aop, ↓reduceIte, LV.cells, AOp.dst, LV.I, LV.B, LV.U, LV.S, LV.nil, Nat.reduceEqDiff, Nat.reduceAdd, Nat.reduceMul, Nat.reduceSub, Nat.reduceLeDiff, Nat.reduceBEq, Nat.reduceDiv, Nat.reduceMod, Int.reduceToNat, Int.reduceLT, Int.reduceLE, Int.reduceAdd, Int.reduceSub, Int.reduceMul, Int.reduceEq, Int.reduceNeg, reduceCtorEq, resV, resAll, ARes.ev, LV.flat, ite_true, ite_false, exists_eq_left', exists_eq_left, keyOf, implies_true, fillC, capOf]
  refine callK_of (h_l8Turns) ?_
  simp (disch := omega) only [splice, ↓SXd, SXu, slBounds, ↓sop, ↓aop, ↓reduceIte, LV.cells, AOp.dst, LV.I, LV.B, LV.U, LV.S, LV.nil, Nat.reduceEqDiff, Nat.reduceAdd, Nat.reduceMul, Nat.reduceSub, Nat.reduceLeDiff, Nat.reduceBEq, Nat.reduceDiv, Nat.reduceMod, Int.reduceToNat, Int.reduceLT, Int.reduceLE, Int.reduceAdd, Int.reduceSub, Int.reduceMul, Int.reduceEq, Int.reduceNeg, reduceCtorEq, resV, resAll, ARes.ev, LV.flat, ite_true, ite_false, exists_eq_left', exists_eq_left, keyOf, implies_true, fillC, capOf]
  refine ev_loop (fun m fr M' => ∃ k u : Nat, k + m = 24 ∧ Pre M M' ∧ M.length ≤ u ∧ Live M' M.length (.row [.I x, .I y, .I z, .ref t 0 cs.length] true 0) ∧ Live M' (M.length + 1) (.row [.I 0, .I 0, .I 0, .nil] true 0) ∧ Live M' (M.length + 3) (.row (sixL turns) true 6) ∧
    Live M' (M.length + 4) ((bestH (cropHp cs) ((turns.map (posHp x y z cs)).take k)).row (.ref u 0 (bestH (cropHp cs) ((turns.map (posHp x y z cs)).take k)).cs.length)) ∧
    Live M' u (.row (triL (bestH (cropHp cs) ((turns.map (posHp x y z cs)).take k)).cs) true 3) ∧
    fr 1 = .ptr M.length 0 ∧ fr 2 = .ptr (M.length + 1) 0 ∧ fr 3 = .ptr (M.length + 4) 0 ∧ fr 4 = .ref (M.length + 3) 0 24 ∧ fr 5 = .I k) 24
    ⟨0, M.length + 2, rfl, Pre.app _ _, by omega, Live.new, Live.newj rfl, Live.newj rfl, Live.newj rfl, Live.newj rfl, rfl, rfl, rfl, by rw [← h24]; rfl, rfl⟩ ?_
  rintro m fr M' ⟨k, u, hk, hpre, hu, b1, b2, b4, b3, bu, f1, f2, f3, f4, f5⟩
  simp (disch := omega) only [f1, f2, f3, f4, f5, ↓SXd, SXu, slBounds, ↓sop, ↓aop, ↓reduceIte, LV.cells, AOp.dst, LV.I, LV.B, LV.U, LV.S, LV.nil, Nat.reduceEqDiff, Nat.reduceAdd, Nat.reduceMul, Nat.reduceSub, Nat.reduceLeDiff, Nat.reduceBEq, Nat.reduceDiv, Nat.reduceMod, Int.reduceToNat, Int.reduceLT, Int.reduceLE, Int.reduceAdd, Int.reduceSub, Int.reduceMul, Int.reduceEq, Int.reduceNeg, reduceCtorEq, resV, resAll, ARes.ev, LV.flat, ite_true, ite_false, exists_eq_left', exists_eq_left, keyOf, implies_true, fillC, capOf]
  refine condC_dec (fun hlt => ?_) (fun hlt => ?_)
  · have hk24 : k < turns.length := by omega
    have hok := turns_ok _ (List.getElem_mem hk24)
    have hsx := b4.six hk24
    have hts : (turns.map (posHp x y z cs)).take (k + 1) = (turns.map (posHp x y z cs)).take k ++ [posHp x y z cs turns[k]] := by
      rw [List.take_succ, List.getElem?_eq_getElem (by simpa using hk24)]; simp
    have hbs : bestH (cropHp cs) ((turns.map (posHp x y z cs)).take (k + 1)) = if lessHp (posHp x y z cs turns[k]) (bestH (cropHp cs) ((turns.map (posHp x y z cs)).take k)) then posHp x y z cs turns[k] else bestH (cropHp cs) ((turns.map (posHp x y z cs)).take k) := by
      rw [hts]; unfold bestH; rw [List.foldl_append]; rfl
    have hbk := hbl k
    generalize turns[k] = T at hok hsx hts hbs
    generalize bestH (cropHp cs) ((turns.map (posHp x y z cs)).take k) = B at b3 bu hbs hbk
    have hl1 := b3.lt
    have hH' := turnHp_ok hH T
    have hlen' := hH'.len
    simp (disch := omega) only [f1, f2, f3, f4, f5, b1.cells, hsx, Turn.row, Cell.row, List.cons_append, List.nil_append, List.getElem?_append_left, ↓SXd, SXu, slBounds, ↓sop, ↓aop, ↓reduceIte, LV.cells, AOp.dst, LV.I, LV.B, LV.U, LV.S, LV.nil, Nat.reduceEqDiff, Nat.reduceAdd, Nat.reduceMul, Nat.reduceSub, Nat.reduceLeDiff, Nat.reduceBEq, Nat.reduceDiv, Nat.reduceMod, Int.reduceToNat, Int.reduceLT, Int.reduceLE, Int.reduceAdd, Int.reduceSub, Int.reduceMul, Int.reduceEq, Int.reduceNeg, reduceCtorEq, resV, resAll, ARes.ev, LV.flat, ite_true, ite_false, exists_eq_left', exists_eq_left, keyOf, implies_true, fillC, capOf]
    refine callK_of (h_l8Made (h.pre (hpre.trans (Pre.app _ _))) hH hok) ?_
    simp (disch := omega) only [f1, f2, f3, f4, f5, ↓SXd, SXu, slBounds, ↓sop, ↓aop, ↓reduceIte, LV.cells, AOp.dst, LV.I, LV.B, LV.U, LV.S, LV.nil, Nat.reduceEqDiff, Nat.reduceAdd, Nat.reduceMul, Nat.reduceSub, Nat.reduceLeDiff, Nat.reduceBEq, Nat.reduceDiv, Nat.reduceMod, Int.reduceToNat, Int.reduceLT, Int.reduceLE, Int.reduceAdd, Int.reduceSub, Int.reduceMul, Int.reduceEq, Int.reduceNeg, reduceCtorEq, resV, resAll, ARes.ev, LV.flat, ite_true, ite_false, exists_eq_left', exists_eq_left, keyOf, implies_true, fillC, capOf]
    refine callK_of (h_l2Cropped (Live.newj (M := M') (j := 1) (b := .row (triL (turnHp x y z T cs).cs) true 3) rfl).has (by omega) (turnHp_pos hH h0 T) (cells_small hH')) ?_
    simp (disch := omega) only [f1, f2, f3, f4, f5, splice, b3.app.cells, ↓SXd, SXu, slBounds, ↓sop, ↓aop, ↓reduceIte, LV.cells, AOp.dst, LV.I, LV.B, LV.U, LV.S, LV.nil, Nat.reduceEqDiff, Nat.reduceAdd, Nat.reduceMul, Nat.reduceSub, Nat.reduceLeDiff, Nat.reduceBEq, Nat.reduceDiv, Nat.reduceMod, Int.reduceToNat, Int.reduceLT, Int.reduceLE, Int.reduceAdd, Int.reduceSub, Int.reduceMul, Int.reduceEq, Int.reduceNeg, reduceCtorEq, resV, resAll, ARes.ev, LV.flat, ite_true, ite_false, exists_eq_left', exists_eq_left, keyOf, implies_true, fillC, capOf]
    rw [show posHp x y z cs T = cropHp (turnHp x y z T cs).cs from rfl] at hbs hts
    have hpl : (cropHp (turnHp x y z T cs).cs).cs.length ≤ 64 := by rw [cropHp_len]; exact hlen'
    generalize cropHp (turnHp x y z T cs).cs = P at hbs hts hpl ⊢
    have e6 : Live (M' ++ [some (.row [.I P.x, .I P.y, .I P.z, .ref (M'.length + 2) 0 P.cs.length] true 0), some (.row (triL (turnHp x y z T cs).cs) true 3), some (.row (triL P.cs) true 3)]) M'.length (.row [.I P.x, .I P.y, .I P.z, .ref (M'.length + 2) 0 P.cs.length] true 0) := Live.new
    have eP : Live (M' ++ [some (.row [.I P.x, .I P.y, .I P.z, .ref (M'.length + 2) 0 P.cs.length] true 0), some (.row (triL (turnHp x y z T cs).cs) true 3), some (.row (triL P.cs) true 3)]) (M'.length + 2) (.row (triL P.cs) true 3) := Live.newj rfl
    have hp1 : Pre M' (M' ++ [some (.row [.I P.x, .I P.y, .I P.z, .ref (M'.length + 2) 0 P.cs.length] true 0), some (.row (triL (turnHp x y z T cs).cs) true 3), some (.row (triL P.cs) true 3)]) := Pre.app _ _
    generalize M' ++ [some (.row [.I P.x, .I P.y, .I P.z, .ref (M'.length + 2) 0 P.cs.length] true 0), some (.row (triL (turnHp x y z T cs).cs) true 3), some (.row (triL P.cs) true 3)] = N at e6 eP hp1 ⊢
    have hN := hp1.1
    refine callK_of (h_l8Less (g := P) (h := B) eP.has (bu.pre hp1).has (by omega) (by omega)) ?_
    simp (disch := omega) only [f1, f2, f3, f4, f5, ↓SXd, SXu, slBounds, ↓sop, ↓aop, ↓reduceIte, LV.cells, AOp.dst, LV.I, LV.B, LV.U, LV.S, LV.nil, Nat.reduceEqDiff, Nat.reduceAdd, Nat.reduceMul, Nat.reduceSub, Nat.reduceLeDiff, Nat.reduceBEq, Nat.reduceDiv, Nat.reduceMod, Int.reduceToNat, Int.reduceLT, Int.reduceLE, Int.reduceAdd, Int.reduceSub, Int.reduceMul, Int.reduceEq, Int.reduceNeg, reduceCtorEq, resV, resAll, ARes.ev, LV.flat, ite_true, ite_false, exists_eq_left', exists_eq_left, keyOf, implies_true, fillC, capOf]
    cases hl : lessHp P B with
    | true =>
      rw [if_pos hl] at hbs
      simp (disch := omega) only [f1, f2, f3, f4, f5, hl, e6.cells, ↓SXd, SXu, slBounds, ↓sop, ↓aop, ↓reduceIte, LV.cells, AOp.dst, LV.I, LV.B, LV.U, LV.S, LV.nil, Nat.reduceEqDiff, Nat.reduceAdd, Nat.reduceMul, Nat.reduceSub, Nat.reduceLeDiff, Nat.reduceBEq, Nat.reduceDiv, Nat.reduceMod, Int.reduceToNat, Int.reduceLT, Int.reduceLE, Int.reduceAdd, Int.reduceSub, Int.reduceMul, Int.reduceEq, Int.reduceNeg, reduceCtorEq, resV, resAll, ARes.ev, LV.flat, ite_true, ite_false, exists_eq_left', exists_eq_left, keyOf, implies_true, fillC, capOf]
      refine memK_box (b3.pre hp1) (by simp) fun N3 k1 k2 k3 => ?_
      simp (disch := omega) only [f1, f2, f3, f4, f5, ↓SXd, SXu, slBounds, ↓sop, ↓aop, ↓reduceIte, LV.cells, AOp.dst, LV.I, LV.B, LV.U, LV.S, LV.nil, Nat.reduceEqDiff, Nat.reduceAdd, Nat.reduceMul, Nat.reduceSub, Nat.reduceLeDiff, Nat.reduceBEq, Nat.reduceDiv, Nat.reduceMod, Int.reduceToNat, Int.reduceLT, Int.reduceLE, Int.reduceAdd, Int.reduceSub, Int.reduceMul, Int.reduceEq, Int.reduceNeg, reduceCtorEq, resV, resAll, ARes.ev, LV.flat, ite_true, ite_false, exists_eq_left', exists_eq_left, keyOf, implies_true, fillC, capOf]
      rw [← hbs] at k2 eP ⊢
      exact ⟨m - 1, by omega, k + 1, M'.length + 2, by omega, pre_step (hpre.trans hp1) (by omega) (j := 0) k1 k3, by have := hpre.1; omega, live_step (b1.pre hp1) (by omega) k3, live_step (b2.pre hp1) (by omega) k3, live_step (b4.pre hp1) (by omega) k3, k2, live_step eP (by omega) k3, f1, f2, f3, f4, eqI (natI _)⟩
    | false =>
      rw [if_neg (by rw [hl]; simp)] at hbs
      simp (disch := omega) only [f1, f2, f3, f4, f5, hl, ↓SXd, SXu, slBounds, ↓sop, ↓aop, ↓reduceIte, LV.cells, AOp.dst, LV.I, LV.B, LV.U, LV.S, LV.nil, Nat.reduceEqDiff, Nat.reduceAdd, Nat.reduceMul, Nat.reduceSub, Nat.reduceLeDiff, Nat.reduceBEq, Nat.reduceDiv, Nat.reduceMod, Int.reduceToNat, Int.reduceLT, Int.reduceLE, Int.reduceAdd, Int.reduceSub, Int.reduceMul, Int.reduceEq, Int.reduceNeg, reduceCtorEq, resV, resAll, ARes.ev, LV.flat, ite_true, ite_false, exists_eq_left', exists_eq_left, keyOf, implies_true, fillC, capOf]
      rw [← hbs] at b3 bu
      exact ⟨m - 1, by omega, k + 1, u, by omega, hpre.trans hp1, hu, b1.pre hp1, b2.pre hp1, b4.pre hp1, b3.pre hp1, bu.pre hp1, f1, f2, f3, f4, eqI (natI _)⟩
  · simp (disch := omega) only [f1, f2, f3, f4, f5, ↓SXd, SXu, slBounds, ↓sop, ↓aop, ↓reduceIte, LV.cells, AOp.dst, LV.I, LV.B, LV.U, LV.S, LV.nil, Nat.reduceEqDiff, Nat.reduceAdd, Nat.reduceMul, Nat.reduceSub, Nat.reduceLeDiff, Nat.reduceBEq, Nat.reduceDiv, Nat.reduceMod, Int.reduceToNat, Int.reduceLT, Int.reduceLE, Int.reduceAdd, Int.reduceSub, Int.reduceMul, Int.reduceEq, Int.reduceNeg, reduceCtorEq, resV, resAll, ARes.ev, LV.flat, ite_true, ite_false, exists_eq_left', exists_eq_left, keyOf, implies_true, fillC, capOf]
    have : k = 24 := by omega
    subst this
    rw [List.take_of_length_le (by simp [h24])] at b3 bu
    have hf : bestH (cropHp cs) (turns.map (posHp x y z cs)) = formHp x y z cs := rfl
    rw [hf] at b3 bu
    simp (disch := omega) only [f1, f2, f3, f4, f5, b3.cells, ↓SXd, SXu, slBounds, ↓sop, ↓aop, ↓reduceIte, LV.cells, AOp.dst, LV.I, LV.B, LV.U, LV.S, LV.nil, Nat.reduceEqDiff, Nat.reduceAdd, Nat.reduceMul, Nat.reduceSub, Nat.reduceLeDiff, Nat.reduceBEq, Nat.reduceDiv, Nat.reduceMod, Int.reduceToNat, Int.reduceLT, Int.reduceLE, Int.reduceAdd, Int.reduceSub, Int.reduceMul, Int.reduceEq, Int.reduceNeg, reduceCtorEq, resV, resAll, ARes.ev, LV.flat, ite_true, ite_false, exists_eq_left', exists_eq_left, keyOf, implies_true, fillC, capOf]
    have hl1 := b3.lt
    refine memK_box b2 (by simp) fun N3 k1 k2 k3 => ?_
    simp (disch := omega) only [f1, f2, f3, f4, f5, k2.cells, ↓SXd, SXu, slBounds, ↓sop, ↓aop, ↓reduceIte, LV.cells, AOp.dst, LV.I, LV.B, LV.U, LV.S, LV.nil, Nat.reduceEqDiff, Nat.reduceAdd, Nat.reduceMul, Nat.reduceSub, Nat.reduceLeDiff, Nat.reduceBEq, Nat.reduceDiv, Nat.reduceMod, Int.reduceToNat, Int.reduceLT, Int.reduceLE, Int.reduceAdd, Int.reduceSub, Int.reduceMul, Int.reduceEq, Int.reduceNeg, reduceCtorEq, resV, resAll, ARes.ev, LV.flat, ite_true, ite_false, exists_eq_left', exists_eq_left, keyOf, implies_true, fillC, capOf]
    exact cmp_keepL (pre_step hpre (by omega) (j := 0) k1 k3) hu (live_step bu (bu.ne_esz b2 (by decide)) k3) (triL_lo _) (by simp [rn, rn0, rn1])
end Go.Ab

/- Contracts: the reference's statements on forms. -/
namespace Go.Ab
open Go
set_option linter.unusedSimpArgs false
set_option linter.unusedVariables false

/-- A valid heap with cubes. -/
def Filled (x y z : Int) (cs : List Cell) : Prop := HeapOK x y z cs ∧ 0 < cs.length
noncomputable instance (x y z : Int) (cs : List Cell) : Decidable (Filled x y z cs) := Classical.propDecidable _
noncomputable def formOf (x y z : Int) (cs : List Cell) : Option Hp := if Filled x y z cs then some (formHp x y z cs) else none
def symB (x y z : Int) (cs : List Cell) (T : Turn) : Bool := !lessHp (posHp x y z cs T) (cropHp cs) && !lessHp (cropHp cs) (posHp x y z cs T)
def symAt (x y z : Int) (cs : List Cell) (j : Nat) : Bool := match turns[j]? with
  | some T => symB x y z cs T
  | none => false
def symsK (x y z : Int) (cs : List Cell) (k : Nat) : List Int := ((List.range k).filter (symAt x y z cs)).map fun (j : Nat) => (j : Int)
theorem symsK_succ {x y z : Int} {cs : List Cell} {k : Nat} : symsK x y z cs (k + 1) = symsK x y z cs k ++ if symAt x y z cs k then [(k : Int)] else [] := by
  unfold symsK
  rw [List.range_succ, List.filter_append, List.map_append, List.filter_cons, List.filter_nil]
  split <;> rfl
theorem symsK_len {x y z : Int} {cs : List Cell} {k : Nat} : (symsK x y z cs k).length ≤ k := by
  unfold symsK
  have := List.length_filter_le (symAt x y z cs) (List.range k)
  simp at this ⊢; exact this
noncomputable def symsOf (x y z : Int) (cs : List Cell) : Option (List Int) := if Filled x y z cs then some (symsK x y z cs 24) else none
theorem formHp_len {x y z : Int} {cs : List Cell} (hH : HeapOK x y z cs) : (formHp x y z cs).cs.length ≤ 64 := bestH_len (by rw [cropHp_len]; exact hH.len) fun g hg => by
  obtain ⟨T, _, rfl⟩ := List.mem_map.1 hg
  unfold posHp; rw [cropHp_len]; exact (turnHp_ok hH T).len

theorem h_l8Some {x y z : Int} {t o : Nat} {cs : List Cell} {M : Mem} (h : Tri M t o cs) (hn : cs.length ≤ 1000000000) :
    CallsTo PG F.spec_l8Some [.agg [.I x, .I y, .I z, .ref t o cs.length]] M (.B (decide (Filled x y z cs))) M := by
  refine calls_run K.spec_l8Some rfl ?_
  simp (disch := omega) only [C.spec_l8Some, ↓SXd, SXu, slBounds, ↓sop, ↓aop, ↓reduceIte, LV.cells, AOp.dst, LV.I, LV.B, LV.U, LV.S, LV.nil, Nat.reduceEqDiff, Nat.reduceAdd, Nat.reduceMul, Nat.reduceSub, Nat.reduceLeDiff, Nat.reduceBEq, Nat.reduceDiv, Nat.reduceMod, Int.reduceToNat, Int.reduceLT, Int.reduceLE, Int.reduceAdd, Int.reduceSub, Int.reduceMul, Int.reduceEq, Int.reduceNeg, reduceCtorEq, resV, resAll, ARes.ev, LV.flat, ite_true, ite_false, exists_eq_left', exists_eq_left, keyOf, implies_true, fillC, capOf]
  refine callK_of (h_l2Heap h.app hn) ?_
  simp (disch := omega) only [↓SXd, SXu, slBounds, ↓sop, ↓aop, ↓reduceIte, LV.cells, AOp.dst, LV.I, LV.B, LV.U, LV.S, LV.nil, Nat.reduceEqDiff, Nat.reduceAdd, Nat.reduceMul, Nat.reduceSub, Nat.reduceLeDiff, Nat.reduceBEq, Nat.reduceDiv, Nat.reduceMod, Int.reduceToNat, Int.reduceLT, Int.reduceLE, Int.reduceAdd, Int.reduceSub, Int.reduceMul, Int.reduceEq, Int.reduceNeg, reduceCtorEq, resV, resAll, ARes.ev, LV.flat, ite_true, ite_false, exists_eq_left', exists_eq_left, keyOf, implies_true, fillC, capOf]
  by_cases hH : HeapOK x y z cs
  · simp (disch := omega) only [hH, ↓SXd, SXu, slBounds, ↓sop, ↓aop, ↓reduceIte, LV.cells, AOp.dst, LV.I, LV.B, LV.U, LV.S, LV.nil, Nat.reduceEqDiff, Nat.reduceAdd, Nat.reduceMul, Nat.reduceSub, Nat.reduceLeDiff, Nat.reduceBEq, Nat.reduceDiv, Nat.reduceMod, Int.reduceToNat, Int.reduceLT, Int.reduceLE, Int.reduceAdd, Int.reduceSub, Int.reduceMul, Int.reduceEq, Int.reduceNeg, reduceCtorEq, resV, resAll, ARes.ev, LV.flat, ite_true, ite_false, exists_eq_left', exists_eq_left, keyOf, implies_true, fillC, capOf]
    rw [show decide ((0 : Int) < (cs.length : Nat)) = decide (Filled x y z cs) from decide_eq_decide.2 ⟨fun h => ⟨hH, by omega⟩, fun h => by have := h.2; omega⟩]
    exact cmp_drop rfl
  · simp (disch := omega) only [hH, ↓SXd, SXu, slBounds, ↓sop, ↓aop, ↓reduceIte, LV.cells, AOp.dst, LV.I, LV.B, LV.U, LV.S, LV.nil, Nat.reduceEqDiff, Nat.reduceAdd, Nat.reduceMul, Nat.reduceSub, Nat.reduceLeDiff, Nat.reduceBEq, Nat.reduceDiv, Nat.reduceMod, Int.reduceToNat, Int.reduceLT, Int.reduceLE, Int.reduceAdd, Int.reduceSub, Int.reduceMul, Int.reduceEq, Int.reduceNeg, reduceCtorEq, resV, resAll, ARes.ev, LV.flat, ite_true, ite_false, exists_eq_left', exists_eq_left, keyOf, implies_true, fillC, capOf]
    rw [show decide (Filled x y z cs) = false from decide_eq_false fun h => hH h.1]
    exact cmp_drop rfl

theorem h_sFirstForm {x y z : Int} {t : Nat} {w : Bool} {cs : List Cell} {M : Mem} (h : Live M t (.row (triL cs) w 3)) (hn : cs.length ≤ 1000000000) :
    CallsR PG F.spec_FirstForm [.agg [.I x, .I y, .I z, .ref t 0 cs.length]] M (HeapRes M (formOf x y z cs) []) := by
  refine callsR_run K.spec_FirstForm rfl ?_
  simp (disch := omega) only [C.spec_FirstForm, ↓SXd, SXu, slBounds, ↓sop, ↓aop, ↓reduceIte, LV.cells, AOp.dst, LV.I, LV.B, LV.U, LV.S, LV.nil, Nat.reduceEqDiff, Nat.reduceAdd, Nat.reduceMul, Nat.reduceSub, Nat.reduceLeDiff, Nat.reduceBEq, Nat.reduceDiv, Nat.reduceMod, Int.reduceToNat, Int.reduceLT, Int.reduceLE, Int.reduceAdd, Int.reduceSub, Int.reduceMul, Int.reduceEq, Int.reduceNeg, reduceCtorEq, resV, resAll, ARes.ev, LV.flat, ite_true, ite_false, exists_eq_left', exists_eq_left, keyOf, implies_true, fillC, capOf]
  refine callK_of (h_l8Some (Has.app h.has) hn) ?_
  simp (disch := omega) only [↓SXd, SXu, slBounds, ↓sop, ↓aop, ↓reduceIte, LV.cells, AOp.dst, LV.I, LV.B, LV.U, LV.S, LV.nil, Nat.reduceEqDiff, Nat.reduceAdd, Nat.reduceMul, Nat.reduceSub, Nat.reduceLeDiff, Nat.reduceBEq, Nat.reduceDiv, Nat.reduceMod, Int.reduceToNat, Int.reduceLT, Int.reduceLE, Int.reduceAdd, Int.reduceSub, Int.reduceMul, Int.reduceEq, Int.reduceNeg, reduceCtorEq, resV, resAll, ARes.ev, LV.flat, ite_true, ite_false, exists_eq_left', exists_eq_left, keyOf, implies_true, fillC, capOf]
  unfold formOf
  by_cases hF : Filled x y z cs
  · rw [if_pos hF]
    simp (disch := omega) only [hF, ↓SXd, SXu, slBounds, ↓sop, ↓aop, ↓reduceIte, LV.cells, AOp.dst, LV.I, LV.B, LV.U, LV.S, LV.nil, Nat.reduceEqDiff, Nat.reduceAdd, Nat.reduceMul, Nat.reduceSub, Nat.reduceLeDiff, Nat.reduceBEq, Nat.reduceDiv, Nat.reduceMod, Int.reduceToNat, Int.reduceLT, Int.reduceLE, Int.reduceAdd, Int.reduceSub, Int.reduceMul, Int.reduceEq, Int.reduceNeg, reduceCtorEq, resV, resAll, ARes.ev, LV.flat, ite_true, ite_false, exists_eq_left', exists_eq_left, keyOf, implies_true, fillC, capOf]
    have hff := h_l8First (Live.app (L := [some (.row [.I x, .I y, .I z, .ref t 0 cs.length] true 0), some (.row [.I 0, .I 0, .I 0, .nil] true 0)]) h) hF.1 hF.2
    generalize formHp x y z cs = f at hff ⊢
    refine callH_of hff ?_
    intro tn N2 htn hp2 hnr
    simp (disch := omega) only [↓SXd, SXu, slBounds, ↓sop, ↓aop, ↓reduceIte, LV.cells, AOp.dst, LV.I, LV.B, LV.U, LV.S, LV.nil, Nat.reduceEqDiff, Nat.reduceAdd, Nat.reduceMul, Nat.reduceSub, Nat.reduceLeDiff, Nat.reduceBEq, Nat.reduceDiv, Nat.reduceMod, Int.reduceToNat, Int.reduceLT, Int.reduceLE, Int.reduceAdd, Int.reduceSub, Int.reduceMul, Int.reduceEq, Int.reduceNeg, reduceCtorEq, resV, resAll, ARes.ev, LV.flat, ite_true, ite_false, exists_eq_left', exists_eq_left, keyOf, implies_true, fillC, capOf]
    simp only [List.length_append, List.length_cons, List.length_nil] at htn
    have hN := hp2.1
    refine memK_box ((Live.newj (j := 1) rfl).pre hp2) (by simp) fun N3 k1 k2 k3 => ?_
    simp (disch := omega) only [k2.cells, ↓SXd, SXu, slBounds, ↓sop, ↓aop, ↓reduceIte, LV.cells, AOp.dst, LV.I, LV.B, LV.U, LV.S, LV.nil, Nat.reduceEqDiff, Nat.reduceAdd, Nat.reduceMul, Nat.reduceSub, Nat.reduceLeDiff, Nat.reduceBEq, Nat.reduceDiv, Nat.reduceMod, Int.reduceToNat, Int.reduceLT, Int.reduceLE, Int.reduceAdd, Int.reduceSub, Int.reduceMul, Int.reduceEq, Int.reduceNeg, reduceCtorEq, resV, resAll, ARes.ev, LV.flat, ite_true, ite_false, exists_eq_left', exists_eq_left, keyOf, implies_true, fillC, capOf]
    exact ⟨_, rfl, SlC.of (live_step hnr (by omega) k3), Newer.of (by omega), pre_step ((Pre.app _ _).trans hp2) (by omega) (j := 0) k1 k3⟩
  · rw [if_neg hF]
    simp (disch := omega) only [hF, fillC, splice, ↓SXd, SXu, slBounds, ↓sop, ↓aop, ↓reduceIte, LV.cells, AOp.dst, LV.I, LV.B, LV.U, LV.S, LV.nil, Nat.reduceEqDiff, Nat.reduceAdd, Nat.reduceMul, Nat.reduceSub, Nat.reduceLeDiff, Nat.reduceBEq, Nat.reduceDiv, Nat.reduceMod, Int.reduceToNat, Int.reduceLT, Int.reduceLE, Int.reduceAdd, Int.reduceSub, Int.reduceMul, Int.reduceEq, Int.reduceNeg, reduceCtorEq, resV, resAll, ARes.ev, LV.flat, ite_true, ite_false, exists_eq_left', exists_eq_left, keyOf, implies_true, fillC, capOf]
    exact ⟨_, rfl, SlC.nil, Newer.nil, Pre.app _ _⟩

theorem h_l8Symmetries {x y z : Int} {t : Nat} {w : Bool} {cs : List Cell} {M : Mem} (h : Live M t (.row (triL cs) w 3)) (hH : HeapOK x y z cs) (h0 : 0 < cs.length) :
    CallsTo PG F.spec_l8Symmetries [.agg [.I x, .I y, .I z, .ref t 0 cs.length]] M (.ref M.length 0 (symsK x y z cs 24).length) (M ++ [some (.row (intL (symsK x y z cs 24)) true 1)]) := by
  have ht := h.lt
  have hlen := hH.len
  have h24 := turns_len
  refine calls_run K.spec_l8Symmetries rfl ?_
  simp (disch := omega) only [C.spec_l8Symmetries, ↓SXd, SXu, slBounds, ↓sop, ↓aop, ↓reduceIte, LV.cells, AOp.dst, LV.I, LV.B, LV.U, LV.S, LV.nil, Nat.reduceEqDiff, Nat.reduceAdd, Nat.reduceMul, Nat.reduceSub, Nat.reduceLeDiff, Nat.reduceBEq, Nat.reduceDiv, Nat.reduceMod, Int.reduceToNat, Int.reduceLT, Int.reduceLE, Int.reduceAdd, Int.reduceSub, Int.reduceMul, Int.reduceEq, Int.reduceNeg, reduceCtorEq, resV, resAll, ARes.ev, LV.flat, ite_true, ite_false, exists_eq_left', exists_eq_left, keyOf, implies_true, fillC, capOf]
  refine callK_of (h_l8Turns) ?_
  simp (disch := omega) only [↓SXd, SXu, slBounds, ↓sop, ↓aop, ↓reduceIte, LV.cells, AOp.dst, LV.I, LV.B, LV.U, LV.S, LV.nil, Nat.reduceEqDiff, Nat.reduceAdd, Nat.reduceMul, Nat.reduceSub, Nat.reduceLeDiff, Nat.reduceBEq, Nat.reduceDiv, Nat.reduceMod, Int.reduceToNat, Int.reduceLT, Int.reduceLE, Int.reduceAdd, Int.reduceSub, Int.reduceMul, Int.reduceEq, Int.reduceNeg, reduceCtorEq, resV, resAll, ARes.ev, LV.flat, ite_true, ite_false, exists_eq_left', exists_eq_left, keyOf, implies_true, fillC, capOf]
  refine callK_of (h_l2Cropped (Has.app h.has) (by omega) h0 (cells_small hH)) ?_
  simp (disch := omega) only [splice, ↓SXd, SXu, slBounds, ↓sop, ↓aop, ↓reduceIte, LV.cells, AOp.dst, LV.I, LV.B, LV.U, LV.S, LV.nil, Nat.reduceEqDiff, Nat.reduceAdd, Nat.reduceMul, Nat.reduceSub, Nat.reduceLeDiff, Nat.reduceBEq, Nat.reduceDiv, Nat.reduceMod, Int.reduceToNat, Int.reduceLT, Int.reduceLE, Int.reduceAdd, Int.reduceSub, Int.reduceMul, Int.reduceEq, Int.reduceNeg, reduceCtorEq, resV, resAll, ARes.ev, LV.flat, ite_true, ite_false, exists_eq_left', exists_eq_left, keyOf, implies_true, fillC, capOf]
  have hP : (cropHp cs).cs.length ≤ 64 := by rw [cropHp_len]; exact hlen
  have hsB : ∀ T, symB x y z cs T = (!lessHp (posHp x y z cs T) (cropHp cs) && !lessHp (cropHp cs) (posHp x y z cs T)) := fun _ => rfl
  have hsA : ∀ k (hk : k < turns.length), symAt x y z cs k = symB x y z cs turns[k] := fun k hk => by unfold symAt; rw [List.getElem?_eq_getElem hk]
  generalize cropHp cs = C at hP hsB ⊢
  refine ev_loop (fun m fr M' => ∃ k u : Nat, k + m = 24 ∧ Pre M M' ∧ M.length < u ∧ u ≠ M.length + 4 ∧ Live M' M.length (.row [.I x, .I y, .I z, .ref t 0 cs.length] true 0) ∧ Live M' (M.length + 3) (.row (sixL turns) true 6) ∧
    Live M' (M.length + 2) (.row [.I C.x, .I C.y, .I C.z, .ref (M.length + 4) 0 C.cs.length] true 0) ∧ Live M' (M.length + 4) (.row (triL C.cs) true 3) ∧ Live M' u (.row (intL (symsK x y z cs k)) true 1) ∧
    fr 1 = .ptr M.length 0 ∧ fr 3 = .ref u 0 (symsK x y z cs k).length ∧ fr 4 = .ref (M.length + 3) 0 24 ∧ fr 5 = .ptr (M.length + 2) 0 ∧ fr 6 = .I k) 24
    ⟨0, M.length + 1, rfl, Pre.app _ _, by omega, by omega, Live.new, Live.newj rfl, Live.newj rfl, Live.newj rfl, Live.newj rfl, rfl, rfl, by rw [← h24]; rfl, rfl, rfl⟩ ?_
  rintro m fr M' ⟨k, u, hk, hpre, hu, hu4, b1, b4, b5, bc, bu, f1, f3, f4, f5, f6⟩
  simp (disch := omega) only [f1, f3, f4, f5, f6, ↓SXd, SXu, slBounds, ↓sop, ↓aop, ↓reduceIte, LV.cells, AOp.dst, LV.I, LV.B, LV.U, LV.S, LV.nil, Nat.reduceEqDiff, Nat.reduceAdd, Nat.reduceMul, Nat.reduceSub, Nat.reduceLeDiff, Nat.reduceBEq, Nat.reduceDiv, Nat.reduceMod, Int.reduceToNat, Int.reduceLT, Int.reduceLE, Int.reduceAdd, Int.reduceSub, Int.reduceMul, Int.reduceEq, Int.reduceNeg, reduceCtorEq, resV, resAll, ARes.ev, LV.flat, ite_true, ite_false, exists_eq_left', exists_eq_left, keyOf, implies_true, fillC, capOf]
  refine condC_dec (fun hlt => ?_) (fun hlt => ?_)
  · have hk24 : k < turns.length := by omega
    have hok := turns_ok _ (List.getElem_mem hk24)
    have hsx := b4.six hk24
    have hss := symsK_succ (x := x) (y := y) (z := z) (cs := cs) (k := k)
    have hsl := symsK_len (x := x) (y := y) (z := z) (cs := cs) (k := k)
    rw [hsA k hk24, hsB] at hss
    generalize turns[k] = T at hok hsx hss
    have hH' := turnHp_ok hH T
    have hlen' := hH'.len
    have hl1 := bc.lt
    simp (disch := omega) only [f1, f3, f4, f5, f6, b1.cells, b5.cells, hsx, Turn.row, Cell.row, List.cons_append, List.nil_append, List.getElem?_append_left, ↓SXd, SXu, slBounds, ↓sop, ↓aop, ↓reduceIte, LV.cells, AOp.dst, LV.I, LV.B, LV.U, LV.S, LV.nil, Nat.reduceEqDiff, Nat.reduceAdd, Nat.reduceMul, Nat.reduceSub, Nat.reduceLeDiff, Nat.reduceBEq, Nat.reduceDiv, Nat.reduceMod, Int.reduceToNat, Int.reduceLT, Int.reduceLE, Int.reduceAdd, Int.reduceSub, Int.reduceMul, Int.reduceEq, Int.reduceNeg, reduceCtorEq, resV, resAll, ARes.ev, LV.flat, ite_true, ite_false, exists_eq_left', exists_eq_left, keyOf, implies_true, fillC, capOf]
    refine callK_of (h_l8Made (h.pre hpre) hH hok) ?_
    simp (disch := omega) only [f1, f3, f4, f5, f6, ↓SXd, SXu, slBounds, ↓sop, ↓aop, ↓reduceIte, LV.cells, AOp.dst, LV.I, LV.B, LV.U, LV.S, LV.nil, Nat.reduceEqDiff, Nat.reduceAdd, Nat.reduceMul, Nat.reduceSub, Nat.reduceLeDiff, Nat.reduceBEq, Nat.reduceDiv, Nat.reduceMod, Int.reduceToNat, Int.reduceLT, Int.reduceLE, Int.reduceAdd, Int.reduceSub, Int.reduceMul, Int.reduceEq, Int.reduceNeg, reduceCtorEq, resV, resAll, ARes.ev, LV.flat, ite_true, ite_false, exists_eq_left', exists_eq_left, keyOf, implies_true, fillC, capOf]
    refine callK_of (h_l2Cropped (Live.newj (M := M') (j := 0) (b := .row (triL (turnHp x y z T cs).cs) true 3) rfl).has (by omega) (turnHp_pos hH h0 T) (cells_small hH')) ?_
    simp (disch := omega) only [f1, f3, f4, f5, f6, splice, List.getElem?_append_left, ↓SXd, SXu, slBounds, ↓sop, ↓aop, ↓reduceIte, LV.cells, AOp.dst, LV.I, LV.B, LV.U, LV.S, LV.nil, Nat.reduceEqDiff, Nat.reduceAdd, Nat.reduceMul, Nat.reduceSub, Nat.reduceLeDiff, Nat.reduceBEq, Nat.reduceDiv, Nat.reduceMod, Int.reduceToNat, Int.reduceLT, Int.reduceLE, Int.reduceAdd, Int.reduceSub, Int.reduceMul, Int.reduceEq, Int.reduceNeg, reduceCtorEq, resV, resAll, ARes.ev, LV.flat, ite_true, ite_false, exists_eq_left', exists_eq_left, keyOf, implies_true, fillC, capOf]
    rw [show posHp x y z cs T = cropHp (turnHp x y z T cs).cs from rfl] at hss
    have hpl : (cropHp (turnHp x y z T cs).cs).cs.length ≤ 64 := by rw [cropHp_len]; exact hlen'
    generalize cropHp (turnHp x y z T cs).cs = P at hss hpl ⊢
    have eP : Live (M' ++ [some (.row (triL (turnHp x y z T cs).cs) true 3), some (.row (triL P.cs) true 3)]) (M'.length + 1) (.row (triL P.cs) true 3) := Live.newj rfl
    have hp1 : Pre M' (M' ++ [some (.row (triL (turnHp x y z T cs).cs) true 3), some (.row (triL P.cs) true 3)]) := Pre.app _ _
    generalize M' ++ [some (.row (triL (turnHp x y z T cs).cs) true 3), some (.row (triL P.cs) true 3)] = N at eP hp1 ⊢
    have hN := hp1.1
    have hcall := h_l8Same (g := P) (h := C) eP.has (bc.pre hp1).has (by omega) (by omega)
    generalize (!lessHp P C && !lessHp C P) = B at hss hcall
    refine callK_of (hcall) ?_
    simp (disch := omega) only [f1, f3, f4, f5, f6, ↓SXd, SXu, slBounds, ↓sop, ↓aop, ↓reduceIte, LV.cells, AOp.dst, LV.I, LV.B, LV.U, LV.S, LV.nil, Nat.reduceEqDiff, Nat.reduceAdd, Nat.reduceMul, Nat.reduceSub, Nat.reduceLeDiff, Nat.reduceBEq, Nat.reduceDiv, Nat.reduceMod, Int.reduceToNat, Int.reduceLT, Int.reduceLE, Int.reduceAdd, Int.reduceSub, Int.reduceMul, Int.reduceEq, Int.reduceNeg, reduceCtorEq, resV, resAll, ARes.ev, LV.flat, ite_true, ite_false, exists_eq_left', exists_eq_left, keyOf, implies_true, fillC, capOf]
    have huN := bu.lt
    cases B with
    | true =>
      rw [if_pos rfl] at hss
      simp (disch := omega) only [f1, f3, f4, f5, f6, ↓SXd, SXu, slBounds, ↓sop, ↓aop, ↓reduceIte, LV.cells, AOp.dst, LV.I, LV.B, LV.U, LV.S, LV.nil, Nat.reduceEqDiff, Nat.reduceAdd, Nat.reduceMul, Nat.reduceSub, Nat.reduceLeDiff, Nat.reduceBEq, Nat.reduceDiv, Nat.reduceMod, Int.reduceToNat, Int.reduceLT, Int.reduceLE, Int.reduceAdd, Int.reduceSub, Int.reduceMul, Int.reduceEq, Int.reduceNeg, reduceCtorEq, resV, resAll, ARes.ev, LV.flat, ite_true, ite_false, exists_eq_left', exists_eq_left, keyOf, implies_true, fillC, capOf]
      refine appendK_int (bu.pre hp1) (by omega) fun N3 k1 k2 k3 => ?_
      simp (disch := omega) only [f1, f3, f4, f5, f6, ↓SXd, SXu, slBounds, ↓sop, ↓aop, ↓reduceIte, LV.cells, AOp.dst, LV.I, LV.B, LV.U, LV.S, LV.nil, Nat.reduceEqDiff, Nat.reduceAdd, Nat.reduceMul, Nat.reduceSub, Nat.reduceLeDiff, Nat.reduceBEq, Nat.reduceDiv, Nat.reduceMod, Int.reduceToNat, Int.reduceLT, Int.reduceLE, Int.reduceAdd, Int.reduceSub, Int.reduceMul, Int.reduceEq, Int.reduceNeg, reduceCtorEq, resV, resAll, ARes.ev, LV.flat, ite_true, ite_false, exists_eq_left', exists_eq_left, keyOf, implies_true, fillC, capOf]
      rw [← hss] at k2 ⊢
      exact ⟨m - 1, by omega, k + 1, N.length + 1, by omega, pre_step (hpre.trans hp1) (by omega) k1 k3, by have := hpre.1; omega, by omega, live_step (b1.pre hp1) (by omega) k3, live_step (b4.pre hp1) (b4.ne_esz bu (by decide)) k3, live_step (b5.pre hp1) (b5.ne_esz bu (by decide)) k3, live_step (bc.pre hp1) (by omega) k3, k2, f1, rfl, f4, f5, eqI (natI _)⟩
    | false =>
      rw [if_neg (by simp), List.append_nil] at hss
      simp (disch := omega) only [f1, f3, f4, f5, f6, ↓SXd, SXu, slBounds, ↓sop, ↓aop, ↓reduceIte, LV.cells, AOp.dst, LV.I, LV.B, LV.U, LV.S, LV.nil, Nat.reduceEqDiff, Nat.reduceAdd, Nat.reduceMul, Nat.reduceSub, Nat.reduceLeDiff, Nat.reduceBEq, Nat.reduceDiv, Nat.reduceMod, Int.reduceToNat, Int.reduceLT, Int.reduceLE, Int.reduceAdd, Int.reduceSub, Int.reduceMul, Int.reduceEq, Int.reduceNeg, reduceCtorEq, resV, resAll, ARes.ev, LV.flat, ite_true, ite_false, exists_eq_left', exists_eq_left, keyOf, implies_true, fillC, capOf]
      rw [← hss] at bu f3
      exact ⟨m - 1, by omega, k + 1, u, by omega, hpre.trans hp1, hu, hu4, b1.pre hp1, b4.pre hp1, b5.pre hp1, bc.pre hp1, bu.pre hp1, f1, f3, f4, f5, eqI (natI _)⟩
  · simp (disch := omega) only [f1, f3, f4, f5, f6, ↓SXd, SXu, slBounds, ↓sop, ↓aop, ↓reduceIte, LV.cells, AOp.dst, LV.I, LV.B, LV.U, LV.S, LV.nil, Nat.reduceEqDiff, Nat.reduceAdd, Nat.reduceMul, Nat.reduceSub, Nat.reduceLeDiff, Nat.reduceBEq, Nat.reduceDiv, Nat.reduceMod, Int.reduceToNat, Int.reduceLT, Int.reduceLE, Int.reduceAdd, Int.reduceSub, Int.reduceMul, Int.reduceEq, Int.reduceNeg, reduceCtorEq, resV, resAll, ARes.ev, LV.flat, ite_true, ite_false, exists_eq_left', exists_eq_left, keyOf, implies_true, fillC, capOf]
    have : k = 24 := by omega
    subst this
    exact cmp_keepL hpre (by omega) bu (intL_lo _) (by simp [rn, rn0, rn1])

theorem h_sSymmetriesOf {x y z : Int} {t : Nat} {w : Bool} {cs : List Cell} {M : Mem} (h : Live M t (.row (triL cs) w 3)) (hn : cs.length ≤ 1000000000) :
    CallsR PG F.spec_SymmetriesOf [.agg [.I x, .I y, .I z, .ref t 0 cs.length]] M (IntsRes M (symsOf x y z cs)) := by
  refine callsR_run K.spec_SymmetriesOf rfl ?_
  simp (disch := omega) only [C.spec_SymmetriesOf, ↓SXd, SXu, slBounds, ↓sop, ↓aop, ↓reduceIte, LV.cells, AOp.dst, LV.I, LV.B, LV.U, LV.S, LV.nil, Nat.reduceEqDiff, Nat.reduceAdd, Nat.reduceMul, Nat.reduceSub, Nat.reduceLeDiff, Nat.reduceBEq, Nat.reduceDiv, Nat.reduceMod, Int.reduceToNat, Int.reduceLT, Int.reduceLE, Int.reduceAdd, Int.reduceSub, Int.reduceMul, Int.reduceEq, Int.reduceNeg, reduceCtorEq, resV, resAll, ARes.ev, LV.flat, ite_true, ite_false, exists_eq_left', exists_eq_left, keyOf, implies_true, fillC, capOf]
  refine callK_of (h_l8Some (Has.app h.has) hn) ?_
  simp (disch := omega) only [↓SXd, SXu, slBounds, ↓sop, ↓aop, ↓reduceIte, LV.cells, AOp.dst, LV.I, LV.B, LV.U, LV.S, LV.nil, Nat.reduceEqDiff, Nat.reduceAdd, Nat.reduceMul, Nat.reduceSub, Nat.reduceLeDiff, Nat.reduceBEq, Nat.reduceDiv, Nat.reduceMod, Int.reduceToNat, Int.reduceLT, Int.reduceLE, Int.reduceAdd, Int.reduceSub, Int.reduceMul, Int.reduceEq, Int.reduceNeg, reduceCtorEq, resV, resAll, ARes.ev, LV.flat, ite_true, ite_false, exists_eq_left', exists_eq_left, keyOf, implies_true, fillC, capOf]
  unfold symsOf
  by_cases hF : Filled x y z cs
  · rw [if_pos hF]
    simp (disch := omega) only [hF, ↓SXd, SXu, slBounds, ↓sop, ↓aop, ↓reduceIte, LV.cells, AOp.dst, LV.I, LV.B, LV.U, LV.S, LV.nil, Nat.reduceEqDiff, Nat.reduceAdd, Nat.reduceMul, Nat.reduceSub, Nat.reduceLeDiff, Nat.reduceBEq, Nat.reduceDiv, Nat.reduceMod, Int.reduceToNat, Int.reduceLT, Int.reduceLE, Int.reduceAdd, Int.reduceSub, Int.reduceMul, Int.reduceEq, Int.reduceNeg, reduceCtorEq, resV, resAll, ARes.ev, LV.flat, ite_true, ite_false, exists_eq_left', exists_eq_left, keyOf, implies_true, fillC, capOf]
    have hff := h_l8Symmetries (Live.app (L := [some (.row [.I x, .I y, .I z, .ref t 0 cs.length] true 0)]) h) hF.1 hF.2
    generalize symsK x y z cs 24 = l at hff ⊢
    refine callN_of hff ?_
    intro tn N2 htn hp2 hnr
    simp (disch := omega) only [↓SXd, SXu, slBounds, ↓sop, ↓aop, ↓reduceIte, LV.cells, AOp.dst, LV.I, LV.B, LV.U, LV.S, LV.nil, Nat.reduceEqDiff, Nat.reduceAdd, Nat.reduceMul, Nat.reduceSub, Nat.reduceLeDiff, Nat.reduceBEq, Nat.reduceDiv, Nat.reduceMod, Int.reduceToNat, Int.reduceLT, Int.reduceLE, Int.reduceAdd, Int.reduceSub, Int.reduceMul, Int.reduceEq, Int.reduceNeg, reduceCtorEq, resV, resAll, ARes.ev, LV.flat, ite_true, ite_false, exists_eq_left', exists_eq_left, keyOf, implies_true, fillC, capOf]
    simp only [List.length_append, List.length_cons, List.length_nil] at htn
    exact ⟨_, rfl, SlI.of hnr, Newer.of (by omega), (Pre.app _ _).trans hp2⟩
  · rw [if_neg hF]
    simp (disch := omega) only [hF, ↓SXd, SXu, slBounds, ↓sop, ↓aop, ↓reduceIte, LV.cells, AOp.dst, LV.I, LV.B, LV.U, LV.S, LV.nil, Nat.reduceEqDiff, Nat.reduceAdd, Nat.reduceMul, Nat.reduceSub, Nat.reduceLeDiff, Nat.reduceBEq, Nat.reduceDiv, Nat.reduceMod, Int.reduceToNat, Int.reduceLT, Int.reduceLE, Int.reduceAdd, Int.reduceSub, Int.reduceMul, Int.reduceEq, Int.reduceNeg, reduceCtorEq, resV, resAll, ARes.ev, LV.flat, ite_true, ite_false, exists_eq_left', exists_eq_left, keyOf, implies_true, fillC, capOf]
    exact ⟨_, rfl, SlI.of (t := M.length + 1) (l := []) (Live.newj (j := 1) rfl), Newer.of (by omega), Pre.app _ _⟩

noncomputable def posOf (x y z : Int) (cs : List Cell) : Int := if Filled x y z cs then ((24 : Int).tdiv ((symsK x y z cs 24).length : Nat)) else 0
theorem turn0 {x y z : Int} {cs : List Cell} (hH : HeapOK x y z cs) : ∃ T, turns[0]? = some T ∧ turnHp x y z T cs = ⟨x, y, z, cs⟩ := by
  refine ⟨⟨⟨0, 1, 2⟩, ⟨0, 0, 0⟩⟩, by decide +kernel, ?_⟩
  have hm : cs.map (mapT x y z ⟨⟨0, 1, 2⟩, ⟨0, 0, 0⟩⟩) = cs := by
    rw [show mapT x y z ⟨⟨0, 1, 2⟩, ⟨0, 0, 0⟩⟩ = id from rfl, List.map_id]
  unfold turnHp
  rw [hm]
  show (⟨x, y, z, pick x y z fun d => decide (d ∈ cs)⟩ : Hp) = _
  rw [← hH.pick]
theorem syms_pos {x y z : Int} {cs : List Cell} (hH : HeapOK x y z cs) : 0 < (symsK x y z cs 24).length := by
  obtain ⟨T, h1, h2⟩ := turn0 hH
  have : (0 : Int) ∈ symsK x y z cs 24 := by
    unfold symsK
    refine List.mem_map.2 ⟨0, List.mem_filter.2 ⟨by simp, ?_⟩, rfl⟩
    unfold symAt
    rw [h1]
    show symB x y z cs T = true
    unfold symB posHp
    rw [h2, lessHp_irr]; rfl
  exact List.length_pos_of_mem this
theorem h_sPositionsOf {x y z : Int} {t : Nat} {w : Bool} {cs : List Cell} {M : Mem} (h : Live M t (.row (triL cs) w 3)) (hn : cs.length ≤ 1000000000) :
    CallsTo PG F.spec_PositionsOf [.agg [.I x, .I y, .I z, .ref t 0 cs.length]] M (.tup [.I (posOf x y z cs), .B (decide (Filled x y z cs))]) M := by
  refine calls_run K.spec_PositionsOf rfl ?_
  simp (disch := omega) only [C.spec_PositionsOf, ↓SXd, SXu, slBounds, ↓sop, ↓aop, ↓reduceIte, LV.cells, AOp.dst, LV.I, LV.B, LV.U, LV.S, LV.nil, Nat.reduceEqDiff, Nat.reduceAdd, Nat.reduceMul, Nat.reduceSub, Nat.reduceLeDiff, Nat.reduceBEq, Nat.reduceDiv, Nat.reduceMod, Int.reduceToNat, Int.reduceLT, Int.reduceLE, Int.reduceAdd, Int.reduceSub, Int.reduceMul, Int.reduceEq, Int.reduceNeg, reduceCtorEq, resV, resAll, ARes.ev, LV.flat, ite_true, ite_false, exists_eq_left', exists_eq_left, keyOf, implies_true, fillC, capOf]
  refine callK_of (h_l8Some (Has.app h.has) hn) ?_
  simp (disch := omega) only [↓SXd, SXu, slBounds, ↓sop, ↓aop, ↓reduceIte, LV.cells, AOp.dst, LV.I, LV.B, LV.U, LV.S, LV.nil, Nat.reduceEqDiff, Nat.reduceAdd, Nat.reduceMul, Nat.reduceSub, Nat.reduceLeDiff, Nat.reduceBEq, Nat.reduceDiv, Nat.reduceMod, Int.reduceToNat, Int.reduceLT, Int.reduceLE, Int.reduceAdd, Int.reduceSub, Int.reduceMul, Int.reduceEq, Int.reduceNeg, reduceCtorEq, resV, resAll, ARes.ev, LV.flat, ite_true, ite_false, exists_eq_left', exists_eq_left, keyOf, implies_true, fillC, capOf]
  unfold posOf
  by_cases hF : Filled x y z cs
  · have hsp := syms_pos hF.1
    have hsl := symsK_len (x := x) (y := y) (z := z) (cs := cs) (k := 24)
    simp (disch := omega) only [hF, ↓SXd, SXu, slBounds, ↓sop, ↓aop, ↓reduceIte, LV.cells, AOp.dst, LV.I, LV.B, LV.U, LV.S, LV.nil, Nat.reduceEqDiff, Nat.reduceAdd, Nat.reduceMul, Nat.reduceSub, Nat.reduceLeDiff, Nat.reduceBEq, Nat.reduceDiv, Nat.reduceMod, Int.reduceToNat, Int.reduceLT, Int.reduceLE, Int.reduceAdd, Int.reduceSub, Int.reduceMul, Int.reduceEq, Int.reduceNeg, reduceCtorEq, resV, resAll, ARes.ev, LV.flat, ite_true, ite_false, exists_eq_left', exists_eq_left, keyOf, implies_true, fillC, capOf]
    have hff := h_l8Symmetries (Live.app (L := [some (.row [.I x, .I y, .I z, .ref t 0 cs.length] true 0)]) h) hF.1 hF.2
    generalize symsK x y z cs 24 = l at hff hsp hsl ⊢
    have hz : ¬ (((l.length : Nat) : Int) = 0) := by omega
    have hb1 : 0 ≤ (24 : Int).tdiv ((l.length : Nat) : Int) := Int.tdiv_nonneg (by omega) (by omega)
    have hb2 : (24 : Int).tdiv ((l.length : Nat) : Int) ≤ 24 := by
      rw [Int.tdiv_eq_ediv_of_nonneg (by omega)]; exact Int.ediv_le_self _ (by omega)
    refine callK_of (hff) ?_
    simp (disch := omega) only [ne_eq, not_false_eq_true, hz, ↓SXd, SXu, slBounds, ↓sop, ↓aop, ↓reduceIte, LV.cells, AOp.dst, LV.I, LV.B, LV.U, LV.S, LV.nil, Nat.reduceEqDiff, Nat.reduceAdd, Nat.reduceMul, Nat.reduceSub, Nat.reduceLeDiff, Nat.reduceBEq, Nat.reduceDiv, Nat.reduceMod, Int.reduceToNat, Int.reduceLT, Int.reduceLE, Int.reduceAdd, Int.reduceSub, Int.reduceMul, Int.reduceEq, Int.reduceNeg, reduceCtorEq, resV, resAll, ARes.ev, LV.flat, ite_true, ite_false, exists_eq_left', exists_eq_left, keyOf, implies_true, fillC, capOf]
    exact cmp_drop rfl
  · simp (disch := omega) only [hF, ↓SXd, SXu, slBounds, ↓sop, ↓aop, ↓reduceIte, LV.cells, AOp.dst, LV.I, LV.B, LV.U, LV.S, LV.nil, Nat.reduceEqDiff, Nat.reduceAdd, Nat.reduceMul, Nat.reduceSub, Nat.reduceLeDiff, Nat.reduceBEq, Nat.reduceDiv, Nat.reduceMod, Int.reduceToNat, Int.reduceLT, Int.reduceLE, Int.reduceAdd, Int.reduceSub, Int.reduceMul, Int.reduceEq, Int.reduceNeg, reduceCtorEq, resV, resAll, ARes.ev, LV.flat, ite_true, ite_false, exists_eq_left', exists_eq_left, keyOf, implies_true, fillC, capOf]
    exact cmp_drop rfl
end Go.Ab

/- Contracts: the reference's mirrored heaps; IsHanded, AreSameForm. -/
namespace Go.Ab
open Go
set_option linter.unusedSimpArgs false
set_option linter.unusedVariables false

def mirC (x : Int) (c : Cell) : Cell := ⟨x - 1 - c.a, c.b, c.c⟩
def mirHp (x y z : Int) (cs : List Cell) : List Cell := pick x y z fun d => decide (d ∈ cs.map (mirC x))
theorem mirC_in {x y z : Int} {c : Cell} (hc : c.inBox x y z) : (mirC x c).inBox x y z := by
  obtain ⟨⟨_, _⟩, h2, h3⟩ := hc
  exact ⟨⟨by unfold mirC; simp only; omega, by unfold mirC; simp only; omega⟩, h2, h3⟩
theorem mir_ok {x y z : Int} {cs : List Cell} (hS : Sides x y z) : HeapOK x y z (mirHp x y z cs) := pick_ok hS _
theorem mir_pos {x y z : Int} {cs : List Cell} (hH : HeapOK x y z cs) (h0 : 0 < cs.length) : 0 < (mirHp x y z cs).length := by
  have hm : mirC x (cs.getD 0 default) ∈ mirHp x y z cs := (mem_pick hH.1).2 ⟨mirC_in (hH.mem (getD_mem' h0)), decide_eq_true (List.mem_map_of_mem (getD_mem' h0))⟩
  exact List.length_pos_of_mem hm

theorem h_l2Mirrored {x y z : Int} {t : Nat} {w : Bool} {cs : List Cell} {M : Mem} (h : Live M t (.row (triL cs) w 3)) (hH : HeapOK x y z cs) :
    CallsTo PG F.spec_l2Mirrored [.agg [.I x, .I y, .I z, .ref t 0 cs.length], .I 0] M (.agg [.I x, .I y, .I z, .ref M.length 0 (mirHp x y z cs).length]) (M ++ [some (.row (triL (mirHp x y z cs)) true 3)]) := by
  have hS := hH.1
  have hlen := hH.len
  have ht := h.lt
  obtain ⟨⟨_, _⟩, ⟨_, _⟩, ⟨_, _⟩⟩ := id hS
  refine calls_run K.spec_l2Mirrored rfl ?_
  simp (disch := omega) only [C.spec_l2Mirrored, ↓SXd, SXu, slBounds, ↓sop, ↓aop, ↓reduceIte, LV.cells, AOp.dst, LV.I, LV.B, LV.U, LV.S, LV.nil, Nat.reduceEqDiff, Nat.reduceAdd, Nat.reduceMul, Nat.reduceSub, Nat.reduceLeDiff, Nat.reduceBEq, Nat.reduceDiv, Nat.reduceMod, Int.reduceToNat, Int.reduceLT, Int.reduceLE, Int.reduceAdd, Int.reduceSub, Int.reduceMul, Int.reduceEq, Int.reduceNeg, reduceCtorEq, resV, resAll, ARes.ev, LV.flat, ite_true, ite_false, exists_eq_left', exists_eq_left, keyOf, implies_true, fillC, capOf]
  refine callK_of (h_l2Empty) ?_
  simp (disch := omega) only [splice, ↓SXd, SXu, slBounds, ↓sop, ↓aop, ↓reduceIte, LV.cells, AOp.dst, LV.I, LV.B, LV.U, LV.S, LV.nil, Nat.reduceEqDiff, Nat.reduceAdd, Nat.reduceMul, Nat.reduceSub, Nat.reduceLeDiff, Nat.reduceBEq, Nat.reduceDiv, Nat.reduceMod, Int.reduceToNat, Int.reduceLT, Int.reduceLE, Int.reduceAdd, Int.reduceSub, Int.reduceMul, Int.reduceEq, Int.reduceNeg, reduceCtorEq, resV, resAll, ARes.ev, LV.flat, ite_true, ite_false, exists_eq_left', exists_eq_left, keyOf, implies_true, fillC, capOf]
  unfold mirHp
  have hLl : (cs.map (mirC x)).length = cs.length := List.length_map ..
  have hLg : ∀ i, i < cs.length → (cs.map (mirC x)).getD i default = mirC x (cs.getD i default) := fun i hi => by simp [hi]
  generalize cs.map (mirC x) = L at hLl hLg ⊢
  refine ev_loop (fun m fr M' => ∃ i u : Nat, i + m = cs.length ∧ Pre M M' ∧ Live M' M.length (.row [.I x, .I y, .I z, .ref t 0 cs.length] true 0) ∧ Live M' (M.length + 1) (.row [.I 0, .I 0, .I 0, .nil] true 0) ∧
    Live M' (M.length + 3) (.row [.I x, .I y, .I z, .ref u 0 (pick x y z fun d => decide (d ∈ L.take i)).length] true 0) ∧ Live M' u (.row (triL (pick x y z fun d => decide (d ∈ L.take i))) true 3) ∧ M.length ≤ u ∧
    fr 1 = .I 0 ∧ fr 2 = .ptr M.length 0 ∧ fr 4 = .ptr (M.length + 1) 0 ∧ fr 5 = .ptr (M.length + 3) 0 ∧ fr 6 = .I i) cs.length
    ⟨0, M.length + 2, by omega, Pre.app _ _, Live.new, Live.newj rfl, ?_, ?_, by omega, rfl, rfl, rfl, rfl, rfl⟩ ?_
  · rw [show (pick x y z fun d => decide (d ∈ L.take 0)) = [] by unfold pick; rw [List.filter_eq_nil_iff]; simp]; exact Live.newj rfl
  · rw [show (pick x y z fun d => decide (d ∈ L.take 0)) = [] by unfold pick; rw [List.filter_eq_nil_iff]; simp]; exact Live.newj rfl
  rintro m fr M' ⟨i, u, hi, hpre, b2, b4, b5, bu, hu, f1, f2, f4, f5, f6⟩
  simp (disch := omega) only [f1, f2, f4, f5, f6, b2.cell, ↓SXd, SXu, slBounds, ↓sop, ↓aop, ↓reduceIte, LV.cells, AOp.dst, LV.I, LV.B, LV.U, LV.S, LV.nil, Nat.reduceEqDiff, Nat.reduceAdd, Nat.reduceMul, Nat.reduceSub, Nat.reduceLeDiff, Nat.reduceBEq, Nat.reduceDiv, Nat.reduceMod, Int.reduceToNat, Int.reduceLT, Int.reduceLE, Int.reduceAdd, Int.reduceSub, Int.reduceMul, Int.reduceEq, Int.reduceNeg, reduceCtorEq, resV, resAll, ARes.ev, LV.flat, ite_true, ite_false, exists_eq_left', exists_eq_left, keyOf, implies_true, fillC, capOf]
  refine condC_dec (fun hlt => ?_) (fun hlt => ?_)
  · have hil : i < cs.length := by omega
    have hg := Tri.get (h.pre hpre).has hil
    have hci := hH.mem (getD_mem' (d := default) hil)
    have hmi := mirC_in hci
    have hLi := hLg i hil
    rw [Nat.zero_add] at hg
    generalize cs.getD i default = c at hg hci hmi hLi
    obtain ⟨⟨_, _⟩, ⟨_, _⟩, ⟨_, _⟩⟩ := id hci
    have hlb := b5.lt
    simp (disch := omega) only [f1, f2, f4, f5, f6, b2.cell, hg, Cell.row, splice, b2.app.cells, List.getElem?_append_left, ↓SXd, SXu, slBounds, ↓sop, ↓aop, ↓reduceIte, LV.cells, AOp.dst, LV.I, LV.B, LV.U, LV.S, LV.nil, Nat.reduceEqDiff, Nat.reduceAdd, Nat.reduceMul, Nat.reduceSub, Nat.reduceLeDiff, Nat.reduceBEq, Nat.reduceDiv, Nat.reduceMod, Int.reduceToNat, Int.reduceLT, Int.reduceLE, Int.reduceAdd, Int.reduceSub, Int.reduceMul, Int.reduceEq, Int.reduceNeg, reduceCtorEq, resV, resAll, ARes.ev, LV.flat, ite_true, ite_false, exists_eq_left', exists_eq_left, keyOf, implies_true, fillC, capOf]
    refine callK_of (h_l2Long (.inl rfl)) ?_
    simp (disch := omega) only [f1, f2, f4, f5, f6, splice, sideOf, if_true, List.getElem?_append_left, b5.app.cells, ↓SXd, SXu, slBounds, ↓sop, ↓aop, ↓reduceIte, LV.cells, AOp.dst, LV.I, LV.B, LV.U, LV.S, LV.nil, Nat.reduceEqDiff, Nat.reduceAdd, Nat.reduceMul, Nat.reduceSub, Nat.reduceLeDiff, Nat.reduceBEq, Nat.reduceDiv, Nat.reduceMod, Int.reduceToNat, Int.reduceLT, Int.reduceLE, Int.reduceAdd, Int.reduceSub, Int.reduceMul, Int.reduceEq, Int.reduceNeg, reduceCtorEq, resV, resAll, ARes.ev, LV.flat, ite_true, ite_false, exists_eq_left', exists_eq_left, keyOf, implies_true, fillC, capOf]
    refine callH_of (h_l2With (c := mirC x c) bu.app (pick_ok hS _) hmi) ?_
    intro sn N2 hsn hp3 hsr
    rw [← hLi, pick_take_step hS (by omega)] at hsr ⊢
    have hN2 := hp3.1
    simp only [List.length_append, List.length_singleton] at hsn hN2
    simp (disch := omega) only [f1, f2, f4, f5, f6, ↓SXd, SXu, slBounds, ↓sop, ↓aop, ↓reduceIte, LV.cells, AOp.dst, LV.I, LV.B, LV.U, LV.S, LV.nil, Nat.reduceEqDiff, Nat.reduceAdd, Nat.reduceMul, Nat.reduceSub, Nat.reduceLeDiff, Nat.reduceBEq, Nat.reduceDiv, Nat.reduceMod, Int.reduceToNat, Int.reduceLT, Int.reduceLE, Int.reduceAdd, Int.reduceSub, Int.reduceMul, Int.reduceEq, Int.reduceNeg, reduceCtorEq, resV, resAll, ARes.ev, LV.flat, ite_true, ite_false, exists_eq_left', exists_eq_left, keyOf, implies_true, fillC, capOf]
    refine memK_box (b5.app.pre hp3) (by simp) fun N3 k1 k2 k3 => ?_
    simp (disch := omega) only [f1, f2, f4, f5, f6, ↓SXd, SXu, slBounds, ↓sop, ↓aop, ↓reduceIte, LV.cells, AOp.dst, LV.I, LV.B, LV.U, LV.S, LV.nil, Nat.reduceEqDiff, Nat.reduceAdd, Nat.reduceMul, Nat.reduceSub, Nat.reduceLeDiff, Nat.reduceBEq, Nat.reduceDiv, Nat.reduceMod, Int.reduceToNat, Int.reduceLT, Int.reduceLE, Int.reduceAdd, Int.reduceSub, Int.reduceMul, Int.reduceEq, Int.reduceNeg, reduceCtorEq, resV, resAll, ARes.ev, LV.flat, ite_true, ite_false, exists_eq_left', exists_eq_left, keyOf, implies_true, fillC, capOf]
    exact ⟨m - 1, by omega, i + 1, sn, by omega, pre_step ((hpre.trans (Pre.app _ _)).trans hp3) (by omega) (j := 0) k1 k3, live_step (b2.app.pre hp3) (by omega) k3, live_step (b4.app.pre hp3) (by omega) k3, k2, live_step hsr (by omega) k3, by have := hpre.1; omega, f1, f2, f4, f5, eqI (natI _)⟩
  · have : i = cs.length := by omega
    subst this
    rw [← hLl, List.take_length] at b5 bu
    have hl5 := b5.lt
    simp (disch := omega) only [f1, f2, f4, f5, f6, b5.cells, ↓SXd, SXu, slBounds, ↓sop, ↓aop, ↓reduceIte, LV.cells, AOp.dst, LV.I, LV.B, LV.U, LV.S, LV.nil, Nat.reduceEqDiff, Nat.reduceAdd, Nat.reduceMul, Nat.reduceSub, Nat.reduceLeDiff, Nat.reduceBEq, Nat.reduceDiv, Nat.reduceMod, Int.reduceToNat, Int.reduceLT, Int.reduceLE, Int.reduceAdd, Int.reduceSub, Int.reduceMul, Int.reduceEq, Int.reduceNeg, reduceCtorEq, resV, resAll, ARes.ev, LV.flat, ite_true, ite_false, exists_eq_left', exists_eq_left, keyOf, implies_true, fillC, capOf]
    refine memK_box b4 (by simp) fun N3 k1 k2 k3 => ?_
    simp (disch := omega) only [f1, f2, f4, f5, f6, k2.cells, ↓SXd, SXu, slBounds, ↓sop, ↓aop, ↓reduceIte, LV.cells, AOp.dst, LV.I, LV.B, LV.U, LV.S, LV.nil, Nat.reduceEqDiff, Nat.reduceAdd, Nat.reduceMul, Nat.reduceSub, Nat.reduceLeDiff, Nat.reduceBEq, Nat.reduceDiv, Nat.reduceMod, Int.reduceToNat, Int.reduceLT, Int.reduceLE, Int.reduceAdd, Int.reduceSub, Int.reduceMul, Int.reduceEq, Int.reduceNeg, reduceCtorEq, resV, resAll, ARes.ev, LV.flat, ite_true, ite_false, exists_eq_left', exists_eq_left, keyOf, implies_true, fillC, capOf]
    exact cmp_keepL (pre_step hpre (by omega) (j := 0) k1 k3) hu (live_step bu (bu.ne_esz b4 (by decide)) k3) (triL_lo _) (by simp [rn, rn0, rn1])

def handB (x y z : Int) (cs : List Cell) : Bool := !(!lessHp (formHp x y z (mirHp x y z cs)) (formHp x y z cs) && !lessHp (formHp x y z cs) (formHp x y z (mirHp x y z cs)))
theorem h_l8Handed {x y z : Int} {t : Nat} {w : Bool} {cs : List Cell} {M : Mem} (h : Live M t (.row (triL cs) w 3)) (hH : HeapOK x y z cs) (h0 : 0 < cs.length) :
    CallsTo PG F.spec_l8Handed [.agg [.I x, .I y, .I z, .ref t 0 cs.length]] M (.B (handB x y z cs)) M := by
  have ht := h.lt
  have l1 := formHp_len hH
  have l2 := formHp_len (mir_ok (cs := cs) hH.1)
  have hfm := fun (M : Mem) (u : Nat) (hu : Live M u (.row (triL (mirHp x y z cs)) true 3)) => h_l8First hu (mir_ok hH.1) (mir_pos hH h0)
  have hff := fun (M : Mem) (hu : Live M t (.row (triL cs) w 3)) => h_l8First hu hH h0
  unfold handB
  generalize formHp x y z (mirHp x y z cs) = A at l2 hfm ⊢
  generalize formHp x y z cs = B at l1 hff ⊢
  refine calls_run K.spec_l8Handed rfl ?_
  simp (disch := omega) only [C.spec_l8Handed, ↓SXd, SXu, slBounds, ↓sop, ↓aop, ↓reduceIte, LV.cells, AOp.dst, LV.I, LV.B, LV.U, LV.S, LV.nil, Nat.reduceEqDiff, Nat.reduceAdd, Nat.reduceMul, Nat.reduceSub, Nat.reduceLeDiff, Nat.reduceBEq, Nat.reduceDiv, Nat.reduceMod, Int.reduceToNat, Int.reduceLT, Int.reduceLE, Int.reduceAdd, Int.reduceSub, Int.reduceMul, Int.reduceEq, Int.reduceNeg, reduceCtorEq, resV, resAll, ARes.ev, LV.flat, ite_true, ite_false, exists_eq_left', exists_eq_left, keyOf, implies_true, fillC, capOf]
  refine callK_of (h_l2Mirrored h.app hH) ?_
  simp (disch := omega) only [↓SXd, SXu, slBounds, ↓sop, ↓aop, ↓reduceIte, LV.cells, AOp.dst, LV.I, LV.B, LV.U, LV.S, LV.nil, Nat.reduceEqDiff, Nat.reduceAdd, Nat.reduceMul, Nat.reduceSub, Nat.reduceLeDiff, Nat.reduceBEq, Nat.reduceDiv, Nat.reduceMod, Int.reduceToNat, Int.reduceLT, Int.reduceLE, Int.reduceAdd, Int.reduceSub, Int.reduceMul, Int.reduceEq, Int.reduceNeg, reduceCtorEq, resV, resAll, ARes.ev, LV.flat, ite_true, ite_false, exists_eq_left', exists_eq_left, keyOf, implies_true, fillC, capOf]
  refine callK_of (hfm _ _ (Live.newj (M := M) (j := 1) (b := .row (triL (mirHp x y z cs)) true 3) rfl)) ?_
  simp (disch := omega) only [↓SXd, SXu, slBounds, ↓sop, ↓aop, ↓reduceIte, LV.cells, AOp.dst, LV.I, LV.B, LV.U, LV.S, LV.nil, Nat.reduceEqDiff, Nat.reduceAdd, Nat.reduceMul, Nat.reduceSub, Nat.reduceLeDiff, Nat.reduceBEq, Nat.reduceDiv, Nat.reduceMod, Int.reduceToNat, Int.reduceLT, Int.reduceLE, Int.reduceAdd, Int.reduceSub, Int.reduceMul, Int.reduceEq, Int.reduceNeg, reduceCtorEq, resV, resAll, ARes.ev, LV.flat, ite_true, ite_false, exists_eq_left', exists_eq_left, keyOf, implies_true, fillC, capOf]
  refine callK_of (hff _ h.app) ?_
  simp (disch := omega) only [↓SXd, SXu, slBounds, ↓sop, ↓aop, ↓reduceIte, LV.cells, AOp.dst, LV.I, LV.B, LV.U, LV.S, LV.nil, Nat.reduceEqDiff, Nat.reduceAdd, Nat.reduceMul, Nat.reduceSub, Nat.reduceLeDiff, Nat.reduceBEq, Nat.reduceDiv, Nat.reduceMod, Int.reduceToNat, Int.reduceLT, Int.reduceLE, Int.reduceAdd, Int.reduceSub, Int.reduceMul, Int.reduceEq, Int.reduceNeg, reduceCtorEq, resV, resAll, ARes.ev, LV.flat, ite_true, ite_false, exists_eq_left', exists_eq_left, keyOf, implies_true, fillC, capOf]
  have eA : Live (M ++ [some (.row [.I x, .I y, .I z, .ref t 0 cs.length] true 0), some (.row (triL (mirHp x y z cs)) true 3), some (.row (triL A.cs) true 3), some (.row (triL B.cs) true 3)]) (M.length + 2) (.row (triL A.cs) true 3) := Live.newj rfl
  have eB : Live (M ++ [some (.row [.I x, .I y, .I z, .ref t 0 cs.length] true 0), some (.row (triL (mirHp x y z cs)) true 3), some (.row (triL A.cs) true 3), some (.row (triL B.cs) true 3)]) (M.length + 3) (.row (triL B.cs) true 3) := Live.newj rfl
  refine callK_of (h_l8Same (g := A) (h := B) eA.has eB.has (by omega) (by omega)) ?_
  simp (disch := omega) only [↓SXd, SXu, slBounds, ↓sop, ↓aop, ↓reduceIte, LV.cells, AOp.dst, LV.I, LV.B, LV.U, LV.S, LV.nil, Nat.reduceEqDiff, Nat.reduceAdd, Nat.reduceMul, Nat.reduceSub, Nat.reduceLeDiff, Nat.reduceBEq, Nat.reduceDiv, Nat.reduceMod, Int.reduceToNat, Int.reduceLT, Int.reduceLE, Int.reduceAdd, Int.reduceSub, Int.reduceMul, Int.reduceEq, Int.reduceNeg, reduceCtorEq, resV, resAll, ARes.ev, LV.flat, ite_true, ite_false, exists_eq_left', exists_eq_left, keyOf, implies_true, fillC, capOf]
  exact cmp_pre (Pre.app _ _) rfl

theorem h_sIsHanded {x y z : Int} {t : Nat} {w : Bool} {cs : List Cell} {M : Mem} (h : Live M t (.row (triL cs) w 3)) (hn : cs.length ≤ 1000000000) :
    CallsTo PG F.spec_IsHanded [.agg [.I x, .I y, .I z, .ref t 0 cs.length]] M (.tup [.B (decide (Filled x y z cs) && handB x y z cs), .B (decide (Filled x y z cs))]) M := by
  refine calls_run K.spec_IsHanded rfl ?_
  simp (disch := omega) only [C.spec_IsHanded, ↓SXd, SXu, slBounds, ↓sop, ↓aop, ↓reduceIte, LV.cells, AOp.dst, LV.I, LV.B, LV.U, LV.S, LV.nil, Nat.reduceEqDiff, Nat.reduceAdd, Nat.reduceMul, Nat.reduceSub, Nat.reduceLeDiff, Nat.reduceBEq, Nat.reduceDiv, Nat.reduceMod, Int.reduceToNat, Int.reduceLT, Int.reduceLE, Int.reduceAdd, Int.reduceSub, Int.reduceMul, Int.reduceEq, Int.reduceNeg, reduceCtorEq, resV, resAll, ARes.ev, LV.flat, ite_true, ite_false, exists_eq_left', exists_eq_left, keyOf, implies_true, fillC, capOf]
  refine callK_of (h_l8Some (Has.app h.has) hn) ?_
  simp (disch := omega) only [↓SXd, SXu, slBounds, ↓sop, ↓aop, ↓reduceIte, LV.cells, AOp.dst, LV.I, LV.B, LV.U, LV.S, LV.nil, Nat.reduceEqDiff, Nat.reduceAdd, Nat.reduceMul, Nat.reduceSub, Nat.reduceLeDiff, Nat.reduceBEq, Nat.reduceDiv, Nat.reduceMod, Int.reduceToNat, Int.reduceLT, Int.reduceLE, Int.reduceAdd, Int.reduceSub, Int.reduceMul, Int.reduceEq, Int.reduceNeg, reduceCtorEq, resV, resAll, ARes.ev, LV.flat, ite_true, ite_false, exists_eq_left', exists_eq_left, keyOf, implies_true, fillC, capOf]
  by_cases hF : Filled x y z cs
  · simp (disch := omega) only [hF, ↓SXd, SXu, slBounds, ↓sop, ↓aop, ↓reduceIte, LV.cells, AOp.dst, LV.I, LV.B, LV.U, LV.S, LV.nil, Nat.reduceEqDiff, Nat.reduceAdd, Nat.reduceMul, Nat.reduceSub, Nat.reduceLeDiff, Nat.reduceBEq, Nat.reduceDiv, Nat.reduceMod, Int.reduceToNat, Int.reduceLT, Int.reduceLE, Int.reduceAdd, Int.reduceSub, Int.reduceMul, Int.reduceEq, Int.reduceNeg, reduceCtorEq, resV, resAll, ARes.ev, LV.flat, ite_true, ite_false, exists_eq_left', exists_eq_left, keyOf, implies_true, fillC, capOf]
    have hff := h_l8Handed (Live.app (L := [some (.row [.I x, .I y, .I z, .ref t 0 cs.length] true 0)]) h) hF.1 hF.2
    generalize handB x y z cs = b at hff ⊢
    refine callK_of (hff) ?_
    simp (disch := omega) only [Bool.true_and, ↓SXd, SXu, slBounds, ↓sop, ↓aop, ↓reduceIte, LV.cells, AOp.dst, LV.I, LV.B, LV.U, LV.S, LV.nil, Nat.reduceEqDiff, Nat.reduceAdd, Nat.reduceMul, Nat.reduceSub, Nat.reduceLeDiff, Nat.reduceBEq, Nat.reduceDiv, Nat.reduceMod, Int.reduceToNat, Int.reduceLT, Int.reduceLE, Int.reduceAdd, Int.reduceSub, Int.reduceMul, Int.reduceEq, Int.reduceNeg, reduceCtorEq, resV, resAll, ARes.ev, LV.flat, ite_true, ite_false, exists_eq_left', exists_eq_left, keyOf, implies_true, fillC, capOf]
    exact cmp_drop rfl
  · simp (disch := omega) only [hF, Bool.false_and, ↓SXd, SXu, slBounds, ↓sop, ↓aop, ↓reduceIte, LV.cells, AOp.dst, LV.I, LV.B, LV.U, LV.S, LV.nil, Nat.reduceEqDiff, Nat.reduceAdd, Nat.reduceMul, Nat.reduceSub, Nat.reduceLeDiff, Nat.reduceBEq, Nat.reduceDiv, Nat.reduceMod, Int.reduceToNat, Int.reduceLT, Int.reduceLE, Int.reduceAdd, Int.reduceSub, Int.reduceMul, Int.reduceEq, Int.reduceNeg, reduceCtorEq, resV, resAll, ARes.ev, LV.flat, ite_true, ite_false, exists_eq_left', exists_eq_left, keyOf, implies_true, fillC, capOf]
    exact cmp_drop rfl
noncomputable def sameForm (x y z : Int) (cs : List Cell) (x' y' z' : Int) (ds : List Cell) : Bool := !lessHp (formHp x y z cs) (formHp x' y' z' ds) && !lessHp (formHp x' y' z' ds) (formHp x y z cs)
theorem h_sAreSameForm {x y z x' y' z' : Int} {t t' : Nat} {w w' : Bool} {cs ds : List Cell} {M : Mem} (h : Live M t (.row (triL cs) w 3)) (hn : cs.length ≤ 1000000000) (h' : Live M t' (.row (triL ds) w' 3)) (hn' : ds.length ≤ 1000000000) :
    CallsTo PG F.spec_AreSameForm [.agg [.I x, .I y, .I z, .ref t 0 cs.length], .agg [.I x', .I y', .I z', .ref t' 0 ds.length]] M (.tup [.B (decide (Filled x y z cs ∧ Filled x' y' z' ds) && sameForm x y z cs x' y' z' ds), .B (decide (Filled x y z cs ∧ Filled x' y' z' ds))]) M := by
  have ht := h.lt
  have ht' := h'.lt
  refine calls_run K.spec_AreSameForm rfl ?_
  simp (disch := omega) only [C.spec_AreSameForm, ↓SXd, SXu, slBounds, ↓sop, ↓aop, ↓reduceIte, LV.cells, AOp.dst, LV.I, LV.B, LV.U, LV.S, LV.nil, Nat.reduceEqDiff, Nat.reduceAdd, Nat.reduceMul, Nat.reduceSub, Nat.reduceLeDiff, Nat.reduceBEq, Nat.reduceDiv, Nat.reduceMod, Int.reduceToNat, Int.reduceLT, Int.reduceLE, Int.reduceAdd, Int.reduceSub, Int.reduceMul, Int.reduceEq, Int.reduceNeg, reduceCtorEq, resV, resAll, ARes.ev, LV.flat, ite_true, ite_false, exists_eq_left', exists_eq_left, keyOf, implies_true, fillC, capOf]
  refine callK_of (h_l8Some (Has.app h.has) hn) ?_
  simp (disch := omega) only [↓SXd, SXu, slBounds, ↓sop, ↓aop, ↓reduceIte, LV.cells, AOp.dst, LV.I, LV.B, LV.U, LV.S, LV.nil, Nat.reduceEqDiff, Nat.reduceAdd, Nat.reduceMul, Nat.reduceSub, Nat.reduceLeDiff, Nat.reduceBEq, Nat.reduceDiv, Nat.reduceMod, Int.reduceToNat, Int.reduceLT, Int.reduceLE, Int.reduceAdd, Int.reduceSub, Int.reduceMul, Int.reduceEq, Int.reduceNeg, reduceCtorEq, resV, resAll, ARes.ev, LV.flat, ite_true, ite_false, exists_eq_left', exists_eq_left, keyOf, implies_true, fillC, capOf]
  by_cases hF : Filled x y z cs
  · simp (disch := omega) only [hF, ↓SXd, SXu, slBounds, ↓sop, ↓aop, ↓reduceIte, LV.cells, AOp.dst, LV.I, LV.B, LV.U, LV.S, LV.nil, Nat.reduceEqDiff, Nat.reduceAdd, Nat.reduceMul, Nat.reduceSub, Nat.reduceLeDiff, Nat.reduceBEq, Nat.reduceDiv, Nat.reduceMod, Int.reduceToNat, Int.reduceLT, Int.reduceLE, Int.reduceAdd, Int.reduceSub, Int.reduceMul, Int.reduceEq, Int.reduceNeg, reduceCtorEq, resV, resAll, ARes.ev, LV.flat, ite_true, ite_false, exists_eq_left', exists_eq_left, keyOf, implies_true, fillC, capOf]
    refine callK_of (h_l8Some (Has.app h'.has) hn') ?_
    simp (disch := omega) only [true_and, ↓SXd, SXu, slBounds, ↓sop, ↓aop, ↓reduceIte, LV.cells, AOp.dst, LV.I, LV.B, LV.U, LV.S, LV.nil, Nat.reduceEqDiff, Nat.reduceAdd, Nat.reduceMul, Nat.reduceSub, Nat.reduceLeDiff, Nat.reduceBEq, Nat.reduceDiv, Nat.reduceMod, Int.reduceToNat, Int.reduceLT, Int.reduceLE, Int.reduceAdd, Int.reduceSub, Int.reduceMul, Int.reduceEq, Int.reduceNeg, reduceCtorEq, resV, resAll, ARes.ev, LV.flat, ite_true, ite_false, exists_eq_left', exists_eq_left, keyOf, implies_true, fillC, capOf]
    by_cases hG : Filled x' y' z' ds
    · have l1 := formHp_len hF.1
      have l2 := formHp_len hG.1
      have hfm := fun (M : Mem) (hu : Live M t (.row (triL cs) w 3)) => h_l8First hu hF.1 hF.2
      have hff := fun (M : Mem) (hu : Live M t' (.row (triL ds) w' 3)) => h_l8First hu hG.1 hG.2
      unfold sameForm
      generalize formHp x y z cs = A at l1 hfm ⊢
      generalize formHp x' y' z' ds = B at l2 hff ⊢
      simp (disch := omega) only [hG, Bool.true_and, ↓SXd, SXu, slBounds, ↓sop, ↓aop, ↓reduceIte, LV.cells, AOp.dst, LV.I, LV.B, LV.U, LV.S, LV.nil, Nat.reduceEqDiff, Nat.reduceAdd, Nat.reduceMul, Nat.reduceSub, Nat.reduceLeDiff, Nat.reduceBEq, Nat.reduceDiv, Nat.reduceMod, Int.reduceToNat, Int.reduceLT, Int.reduceLE, Int.reduceAdd, Int.reduceSub, Int.reduceMul, Int.reduceEq, Int.reduceNeg, reduceCtorEq, resV, resAll, ARes.ev, LV.flat, ite_true, ite_false, exists_eq_left', exists_eq_left, keyOf, implies_true, fillC, capOf]
      refine callK_of (hfm _ h.app) ?_
      simp (disch := omega) only [↓SXd, SXu, slBounds, ↓sop, ↓aop, ↓reduceIte, LV.cells, AOp.dst, LV.I, LV.B, LV.U, LV.S, LV.nil, Nat.reduceEqDiff, Nat.reduceAdd, Nat.reduceMul, Nat.reduceSub, Nat.reduceLeDiff, Nat.reduceBEq, Nat.reduceDiv, Nat.reduceMod, Int.reduceToNat, Int.reduceLT, Int.reduceLE, Int.reduceAdd, Int.reduceSub, Int.reduceMul, Int.reduceEq, Int.reduceNeg, reduceCtorEq, resV, resAll, ARes.ev, LV.flat, ite_true, ite_false, exists_eq_left', exists_eq_left, keyOf, implies_true, fillC, capOf]
      refine callK_of (hff _ h'.app) ?_
      simp (disch := omega) only [↓SXd, SXu, slBounds, ↓sop, ↓aop, ↓reduceIte, LV.cells, AOp.dst, LV.I, LV.B, LV.U, LV.S, LV.nil, Nat.reduceEqDiff, Nat.reduceAdd, Nat.reduceMul, Nat.reduceSub, Nat.reduceLeDiff, Nat.reduceBEq, Nat.reduceDiv, Nat.reduceMod, Int.reduceToNat, Int.reduceLT, Int.reduceLE, Int.reduceAdd, Int.reduceSub, Int.reduceMul, Int.reduceEq, Int.reduceNeg, reduceCtorEq, resV, resAll, ARes.ev, LV.flat, ite_true, ite_false, exists_eq_left', exists_eq_left, keyOf, implies_true, fillC, capOf]
      have eA : Live (M ++ [some (.row [.I x, .I y, .I z, .ref t 0 cs.length] true 0), some (.row [.I x', .I y', .I z', .ref t' 0 ds.length] true 0), some (.row (triL A.cs) true 3), some (.row (triL B.cs) true 3)]) (M.length + 2) (.row (triL A.cs) true 3) := Live.newj rfl
      have eB : Live (M ++ [some (.row [.I x, .I y, .I z, .ref t 0 cs.length] true 0), some (.row [.I x', .I y', .I z', .ref t' 0 ds.length] true 0), some (.row (triL A.cs) true 3), some (.row (triL B.cs) true 3)]) (M.length + 3) (.row (triL B.cs) true 3) := Live.newj rfl
      refine callK_of (h_l8Same (g := A) (h := B) eA.has eB.has (by omega) (by omega)) ?_
      simp (disch := omega) only [↓SXd, SXu, slBounds, ↓sop, ↓aop, ↓reduceIte, LV.cells, AOp.dst, LV.I, LV.B, LV.U, LV.S, LV.nil, Nat.reduceEqDiff, Nat.reduceAdd, Nat.reduceMul, Nat.reduceSub, Nat.reduceLeDiff, Nat.reduceBEq, Nat.reduceDiv, Nat.reduceMod, Int.reduceToNat, Int.reduceLT, Int.reduceLE, Int.reduceAdd, Int.reduceSub, Int.reduceMul, Int.reduceEq, Int.reduceNeg, reduceCtorEq, resV, resAll, ARes.ev, LV.flat, ite_true, ite_false, exists_eq_left', exists_eq_left, keyOf, implies_true, fillC, capOf]
      exact cmp_pre (Pre.app _ _) rfl
    · simp (disch := omega) only [hG, Bool.false_and, ↓SXd, SXu, slBounds, ↓sop, ↓aop, ↓reduceIte, LV.cells, AOp.dst, LV.I, LV.B, LV.U, LV.S, LV.nil, Nat.reduceEqDiff, Nat.reduceAdd, Nat.reduceMul, Nat.reduceSub, Nat.reduceLeDiff, Nat.reduceBEq, Nat.reduceDiv, Nat.reduceMod, Int.reduceToNat, Int.reduceLT, Int.reduceLE, Int.reduceAdd, Int.reduceSub, Int.reduceMul, Int.reduceEq, Int.reduceNeg, reduceCtorEq, resV, resAll, ARes.ev, LV.flat, ite_true, ite_false, exists_eq_left', exists_eq_left, keyOf, implies_true, fillC, capOf]
      exact cmp_drop rfl
  · simp (disch := omega) only [hF, false_and, Bool.false_and, ↓SXd, SXu, slBounds, ↓sop, ↓aop, ↓reduceIte, LV.cells, AOp.dst, LV.I, LV.B, LV.U, LV.S, LV.nil, Nat.reduceEqDiff, Nat.reduceAdd, Nat.reduceMul, Nat.reduceSub, Nat.reduceLeDiff, Nat.reduceBEq, Nat.reduceDiv, Nat.reduceMod, Int.reduceToNat, Int.reduceLT, Int.reduceLE, Int.reduceAdd, Int.reduceSub, Int.reduceMul, Int.reduceEq, Int.reduceNeg, reduceCtorEq, resV, resAll, ARes.ev, LV.flat, ite_true, ite_false, exists_eq_left', exists_eq_left, keyOf, implies_true, fillC, capOf]
    exact cmp_drop rfl
end Go.Ab

/- The abstract code of some functions (written by a program of mine from the translation, by way of prepF). -/
namespace Go.Ab.C
open Go.Ab
def spec_l6Steps : AFn :=
  ⟨0, 8, [.cellN 0 18],
    .seq (.ops [(none, .alloc 0 [(.I 0), (.I 0), (.I 0), (.I 0), (.I 0), (.I 0), (.I 0), (.I 0), (.I 0), (.I 0), (.I 0), (.I 0), (.I 0), (.I 0), (.I 0), (.I 0), (.I 0), (.I 0)])])
    (.seq (.ops [(none, .build 1 [(.I 0), (.I 0), (.I 0)] [(0, 1, (.c (.I (-1)))), (1, 1, (.c (.I 0))), (2, 1, (.c (.I 0)))]),
        (none, .build 2 [(.I 0), (.I 0), (.I 0)] [(0, 1, (.c (.I 1))), (1, 1, (.c (.I 0))), (2, 1, (.c (.I 0)))]),
        (none, .build 3 [(.I 0), (.I 0), (.I 0)] [(0, 1, (.c (.I 0))), (1, 1, (.c (.I (-1)))), (2, 1, (.c (.I 0)))]),
        (none, .build 4 [(.I 0), (.I 0), (.I 0)] [(0, 1, (.c (.I 0))), (1, 1, (.c (.I 1))), (2, 1, (.c (.I 0)))]),
        (none, .build 5 [(.I 0), (.I 0), (.I 0)] [(0, 1, (.c (.I 0))), (1, 1, (.c (.I 0))), (2, 1, (.c (.I (-1))))]),
        (none, .build 6 [(.I 0), (.I 0), (.I 0)] [(0, 1, (.c (.I 0))), (1, 1, (.c (.I 0))), (2, 1, (.c (.I 1)))]),
        (none, .build 7 [(.I 0), (.I 0), (.I 0), (.I 0), (.I 0), (.I 0), (.I 0), (.I 0), (.I 0), (.I 0), (.I 0), (.I 0), (.I 0), (.I 0), (.I 0), (.I 0), (.I 0), (.I 0)] [(0, 3, (.t 1)), (3, 3, (.t 2)), (6, 3, (.t 3)), (9, 3, (.t 4)), (12, 3, (.t 5)), (15, 3, (.t 6))]),
        (none, .store 18 (.t 0) (.t 7))])
     (.ret))⟩
def spec_l6Beside : AFn :=
  ⟨2, 21, [.cellN 4 3],
    .seq (.ops [(none, .box 2 (.t 0)),
       (none, .box 3 (.t 1)),
       (none, .alloc 4 [(.I 0), (.I 0), (.I 0)])])
    (.seq (.ops [(none, .idxA 5 3 1 (.t 2) (.c (.I 0))),
        (none, .load1 6 (.t 5)),
        (none, .idxA 7 3 1 (.t 3) (.c (.I 0))),
        (none, .load1 8 (.t 7)),
        (none, .bin 9 .add (.t 6) (.t 8)),
        (none, .idxA 10 3 1 (.t 2) (.c (.I 1))),
        (none, .load1 11 (.t 10)),
        (none, .idxA 12 3 1 (.t 3) (.c (.I 1))),
        (none, .load1 13 (.t 12)),
        (none, .bin 14 .add (.t 11) (.t 13)),
        (none, .idxA 15 3 1 (.t 2) (.c (.I 2))),
        (none, .load1 16 (.t 15)),
        (none, .idxA 17 3 1 (.t 3) (.c (.I 2))),
        (none, .load1 18 (.t 17)),
        (none, .bin 19 .add (.t 16) (.t 18)),
        (none, .build 20 [(.I 0), (.I 0), (.I 0)] [(0, 1, (.t 9)), (1, 1, (.t 14)), (2, 1, (.t 19))]),
        (none, .store 3 (.t 4) (.t 20))])
     (.ret))⟩
end Go.Ab.C

/- That the program has this code. -/
namespace Go.Ab.K
open Go Go.Ab
theorem spec_l6Steps : prepF Go.Proofs.Tryz.prog F.spec_l6Steps = some C.spec_l6Steps := by kernel_rfl
theorem spec_l6Beside : prepF Go.Proofs.Tryz.prog F.spec_l6Beside = some C.spec_l6Beside := by kernel_rfl
end Go.Ab.K

/- The abstract code of some functions (written by a program of mine from the translation, by way of prepF). -/
namespace Go.Ab.C
open Go.Ab
end Go.Ab.C

/- That the program has this code. -/
namespace Go.Ab.K
open Go Go.Ab
end Go.Ab.K

/- The abstract code of some functions (written by a program of mine from the translation, by way of prepF). -/
namespace Go.Ab.C
open Go.Ab
end Go.Ab.C

/- That the program has this code. -/
namespace Go.Ab.K
open Go Go.Ab
end Go.Ab.K

/- Plain words: how many cells a set has, as the library counts. -/
namespace Go.Ab

def swar1 (x : BitVec 64) : BitVec 64 := (x >>> 1 &&& 6148914691236517205#64) + (x &&& 6148914691236517205#64)
def swar2 (x : BitVec 64) : BitVec 64 := (x >>> 2 &&& 3689348814741910323#64) + (x &&& 3689348814741910323#64)
def swar3 (x : BitVec 64) : BitVec 64 := (x >>> 4 + x) &&& 1085102592571150095#64
def swar4 (x : BitVec 64) : BitVec 64 := x + x >>> 8
def swar5 (x : BitVec 64) : BitVec 64 := x + x >>> 16
def swar6 (x : BitVec 64) : BitVec 64 := x + x >>> 32
def swar (x : BitVec 64) : BitVec 64 := swar6 (swar5 (swar4 (swar3 (swar2 (swar1 x))))) &&& 127#64

def onRim (x y z : Int) (c : Cell) : Bool := decide (c.a = 0 ∨ c.b = 0 ∨ c.c = 0 ∨ c.a = x - 1 ∨ c.b = y - 1 ∨ c.c = z - 1)
end Go.Ab

/- The abstract code of some functions (written by a program of mine from the translation, by way of prepF). -/
namespace Go.Ab.C
open Go.Ab
end Go.Ab.C

/- That the program has this code. -/
namespace Go.Ab.K
open Go Go.Ab
end Go.Ab.K

/- Contracts: neighbours; what grows. -/
namespace Go.Ab
open Go
set_option linter.unusedSimpArgs false
set_option linter.unusedVariables false

/-- The first k neighbours of a cell. -/
def nbrK (c : Cell) (k : Nat) (e : Cell) : Bool := decide (e ∈ (nbrs c).take k)
section
variable {x y z : Int} (hS : Sides x y z)
include hS
end
end Go.Ab

/- Contracts: counts of sets. -/
namespace Go.Ab
open Go
set_option linter.unusedSimpArgs false
set_option linter.unusedVariables false

theorem onRim_iff {x y z : Int} {c : Cell} (hc : c.inBox x y z) : onRim x y z c = true ↔ ∃ d : Cell, apart c d = 1 ∧ ¬ d.inBox x y z := by
  obtain ⟨⟨h1, h2⟩, ⟨h3, h4⟩, ⟨h5, h6⟩⟩ := hc
  unfold onRim
  rw [decide_eq_true_iff]
  constructor
  · rintro (h | h | h | h | h | h)
    · exact ⟨⟨c.a - 1, c.b, c.c⟩, by unfold apart; simp only; omega, fun k => by have := k.1.1; simp only at this; omega⟩
    · exact ⟨⟨c.a, c.b - 1, c.c⟩, by unfold apart; simp only; omega, fun k => by have := k.2.1.1; simp only at this; omega⟩
    · exact ⟨⟨c.a, c.b, c.c - 1⟩, by unfold apart; simp only; omega, fun k => by have := k.2.2.1; simp only at this; omega⟩
    · exact ⟨⟨c.a + 1, c.b, c.c⟩, by unfold apart; simp only; omega, fun k => by have := k.1.2; simp only at this; omega⟩
    · exact ⟨⟨c.a, c.b + 1, c.c⟩, by unfold apart; simp only; omega, fun k => by have := k.2.1.2; simp only at this; omega⟩
    · exact ⟨⟨c.a, c.b, c.c + 1⟩, by unfold apart; simp only; omega, fun k => by have := k.2.2.2; simp only at this; omega⟩
  · rintro ⟨d, hd, hk⟩
    apply Classical.byContradiction
    intro hno
    refine hk ⟨⟨?_, ?_⟩, ⟨?_, ?_⟩, ⟨?_, ?_⟩⟩ <;> (unfold apart at hd; omega)

end Go.Ab

/- Plain words: what stands and what hangs, by parts and by growing. -/
namespace Go.Ab

theorem Reach.symm {x y z : Int} {q : Cell → Bool} {c d : Cell} (hc : c.inBox x y z) (hqc : q c = true) (h : Reach x y z (fun e => decide (e = c)) q d) : Reach x y z (fun e => decide (e = d)) q c ∧ q d = true := by
  induction h with
  | base h1 h2 => rw [of_decide_eq_true h2]; exact ⟨.base hc (by simp), hqc⟩
  | @step a b h1 h2 h3 h4 ih =>
    refine ⟨?_, h4⟩
    have hb : Reach x y z (fun e => decide (e = b)) q b := .base h3 (by simp)
    have hba : Reach x y z (fun e => decide (e = b)) q a := .step hb (by rw [apart_comm]; exact h2) h1.inBox ih.2
    have htr : ∀ {u}, Reach x y z (fun e => decide (e = a)) q u → Reach x y z (fun e => decide (e = b)) q u := fun hu =>
      hu.mono (fun e _ he => by rw [of_decide_eq_true he]; exact hba) fun _ _ h => h
    exact htr ih.1
theorem Reach.trans {x y z : Int} {q p : Cell → Bool} {c d : Cell} (h : Reach x y z p q c) (k : Reach x y z (fun e => decide (e = c)) q d) : Reach x y z p q d :=
  k.mono (fun e _ he => by rw [of_decide_eq_true he]; exact h) fun _ _ h => h

section
variable {x y z : Int} (hS : Sides x y z)
include hS
/-- What stands of a set. -/
noncomputable def stand (x y z : Int) (q : Cell → Bool) : Cell → Bool := reach x y z (fun e => q e && decide (e.c = 0)) q
/-- The cells that stand, or those that hang. -/
noncomputable def parted (x y z : Int) (q : Cell → Bool) (hang : Bool) : Cell → Bool := fun d => q d && (stand x y z q d != hang)
end

def floorOf (l : List Cell) : Bool := l.any fun e => decide (e.c = 0)
/-- The cells of the first k lists, of those on the floor, or of the others. -/
def selK (L : List (List Cell)) (hang : Bool) (k : Nat) : Cell → Bool := fun d => (L.take k).any fun l => (floorOf l != hang) && decide (d ∈ l)
end Go.Ab

/- Contracts: what is enclosed; the program's FillCavities. -/
namespace Go.Ab
open Go
set_option linter.unusedSimpArgs false
set_option linter.unusedVariables false

/-- What is outside: reached from the rim, by way of cells without cubes. -/
noncomputable def outer (x y z : Int) (p : Cell → Bool) : Cell → Bool := reach x y z (fun c => !p c && onRim x y z c) fun c => !p c
noncomputable def closed (x y z : Int) (p : Cell → Bool) (c : Cell) : Bool := !p c && !outer x y z p c
noncomputable def fillOf (x y z : Int) (cs : List Cell) : Option Hp := by
  classical
  exact if HeapOK x y z cs then some ⟨x, y, z, pick x y z fun c => decide (c ∈ cs) || closed x y z (fun c => decide (c ∈ cs)) c⟩ else none
end Go.Ab

/- Plain words: a search from beyond the box. -/
namespace Go.Ab

def ExtC (x y z : Int) (c : Cell) : Prop := (-1 ≤ c.a ∧ c.a ≤ x) ∧ (-1 ≤ c.b ∧ c.b ≤ y) ∧ (-1 ≤ c.c ∧ c.c ≤ z)
theorem Cell.inBox.ext {x y z : Int} {c : Cell} (h : c.inBox x y z) : ExtC x y z c := by
  obtain ⟨⟨_, _⟩, ⟨_, _⟩, ⟨_, _⟩⟩ := h
  exact ⟨⟨by omega, by omega⟩, ⟨by omega, by omega⟩, ⟨by omega, by omega⟩⟩
/-- What comes before a place. -/
def Bef (c : Cell) (i j k : Int) : Prop := c.a < i ∨ (c.a = i ∧ (c.b < j ∨ (c.b = j ∧ c.c < k)))
structure Mgn (x y z i j k : Int) (l : List Cell) : Prop where
  mem : ∀ c ∈ l, ExtC x y z c ∧ ¬ c.inBox x y z
  all : ∀ c, ExtC x y z c → ¬ c.inBox x y z → Bef c i j k → c ∈ l
  len : (l.length : Int) ≤ (i + 1) * 36 + (j + 1) * 6 + (k + 1)
theorem Mgn.nil {x y z : Int} : Mgn x y z (-1) (-1) (-1) [] := by
  refine ⟨by simp, fun c ⟨⟨_, _⟩, ⟨_, _⟩, ⟨_, _⟩⟩ _ hb => ?_, by simp⟩
  unfold Bef at hb
  omega
theorem Mgn.out {x y z i j k : Int} {l : List Cell} (h : Mgn x y z i j k l) (hk : k < 6) (hc : ExtC x y z ⟨i, j, k⟩) (ho : ¬ Cell.inBox x y z ⟨i, j, k⟩) : Mgn x y z i j (k + 1) (l ++ [⟨i, j, k⟩]) := by
  refine ⟨fun c hm => ?_, fun c h1 h2 h3 => ?_, ?_⟩
  · rcases List.mem_append.1 hm with hm | hm
    · exact h.mem c hm
    · rw [List.mem_singleton.1 hm]; exact ⟨hc, ho⟩
  · rw [List.mem_append, List.mem_singleton, cell_eq]
    unfold Bef at h3
    by_cases hb : Bef c i j k
    · exact .inl (h.all c h1 h2 hb)
    · right; unfold Bef at hb; simp only; omega
  · have := h.len; rw [List.length_append, List.length_singleton]; omega
theorem Mgn.in {x y z i j k : Int} {l : List Cell} (h : Mgn x y z i j k l) (ho : Cell.inBox x y z ⟨i, j, k⟩) : Mgn x y z i j (k + 1) l := by
  refine ⟨h.mem, fun c h1 h2 h3 => ?_, by have := h.len; omega⟩
  unfold Bef at h3
  by_cases hb : Bef c i j k
  · exact h.all c h1 h2 hb
  · unfold Bef at hb
    exact absurd (by rw [show c = ⟨i, j, k⟩ from cell_eq.2 (by simp only; omega)]; exact ho) h2
theorem Mgn.row {x y z i j k : Int} {l : List Cell} (h : Mgn x y z i j k l) (hk : z < k) (hz : k ≤ 5) : Mgn x y z i (j + 1) (-1) l := by
  refine ⟨h.mem, fun c h1 h2 h3 => h.all c h1 h2 ?_, by have := h.len; omega⟩
  obtain ⟨_, _, _, _⟩ := h1
  unfold Bef at h3 ⊢
  omega
structure Out (x y z : Int) (p : Cell → Bool) (n k : Nat) (mg r : List Cell) : Prop where
  base : ∀ c, ExtC x y z c → ¬ c.inBox x y z → c ∈ mg
  mgm : ∀ c ∈ mg, ExtC x y z c ∧ ¬ c.inBox x y z
  nodup : r.Nodup
  mem : ∀ d ∈ r, d.inBox x y z ∧ p d = false ∧ outer x y z p d = true
  done : ∀ i, i < n → i < (mg ++ r).length → ∀ e, e.inBox x y z → p e = false → apart ((mg ++ r).getD i default) e = 1 → e ∈ r
  part : ∀ j, j < k → ((nbrs ((mg ++ r).getD n default)).getD j default).inBox x y z → p ((nbrs ((mg ++ r).getD n default)).getD j default) = false → (nbrs ((mg ++ r).getD n default)).getD j default ∈ r

section
variable {x y z : Int} {p : Cell → Bool} {n k : Nat} {mg r : List Cell}
theorem Out.skip (h : Out x y z p n k mg r) (hs : ¬ ((((nbrs ((mg ++ r).getD n default)).getD k default).inBox x y z ∧ p ((nbrs ((mg ++ r).getD n default)).getD k default) = false) ∧ (nbrs ((mg ++ r).getD n default)).getD k default ∉ r)) : Out x y z p n (k + 1) mg r :=
  ⟨h.base, h.mgm, h.nodup, h.mem, h.done, fun j hj h1 h2 => by
    rcases Nat.lt_or_ge j k with h3 | h3
    · exact h.part j h3 h1 h2
    · rw [show j = k by omega] at h1 h2 ⊢
      exact Classical.byContradiction fun h4 => hs ⟨⟨h1, h2⟩, h4⟩⟩
theorem Out.add (h : Out x y z p n k mg r) (hk : k < 6) (hn : n < (mg ++ r).length) {e : Cell} (he : (nbrs ((mg ++ r).getD n default)).getD k default = e) (h1 : e.inBox x y z) (h2 : p e = false) (h3 : e ∉ r) : Out x y z p n (k + 1) mg (r ++ [e]) := by
  have hg : ∀ {j}, j < (mg ++ r).length → (mg ++ (r ++ [e])).getD j default = (mg ++ r).getD j default := fun {j} hj => by
    rw [← List.append_assoc]
    simp only [List.getD_eq_getElem?_getD]; rw [List.getElem?_append_left hj]
  have hap : apart ((mg ++ r).getD n default) e = 1 := mem_nbrs.1 (by rw [← he]; exact getD_mem' (by simpa [nbrs] using hk))
  have hout : outer x y z p e = true := by
    unfold outer
    rw [reach_iff]
    rcases List.mem_append.1 (getD_mem' (d := default) hn) with hm | hm
    · refine .base h1 ?_
      have := h.mgm _ hm
      rw [h2, (onRim_iff h1).2 ⟨_, by rw [apart_comm]; exact hap, this.2⟩]; rfl
    · have := (h.mem _ hm).2.2
      unfold outer at this
      rw [reach_iff] at this
      exact .step this hap h1 (by rw [h2]; rfl)
  refine ⟨h.base, h.mgm, ?_, fun d hd => ?_, fun i hi hil d hd hpd ha => ?_, fun j hj hb hpb => ?_⟩
  · rw [List.nodup_append]
    exact ⟨h.nodup, by simp, fun a ha b hb e' => by rw [List.mem_singleton.1 hb] at e'; subst e'; exact h3 ha⟩
  · rcases List.mem_append.1 hd with hd | hd
    · exact h.mem d hd
    · rw [List.mem_singleton.1 hd]; exact ⟨h1, h2, hout⟩
  · rw [hg (by omega)] at ha
    exact List.mem_append.2 (.inl (h.done i hi (by omega) d hd hpd ha))
  · rw [hg hn] at hb hpb ⊢
    rcases Nat.lt_or_ge j k with h5 | h5
    · exact List.mem_append.2 (.inl (h.part j h5 hb hpb))
    · rw [show j = k by omega, he]; simp
end
end Go.Ab

/- Contracts: the reference's search from beyond the box. -/
namespace Go.Ab
open Go
set_option linter.unusedSimpArgs false
set_option linter.unusedVariables false

theorem h_l6Steps {M : Mem} : CallsTo PG F.spec_l6Steps [] M (.agg [.I (-1), .I 0, .I 0, .I 1, .I 0, .I 0, .I 0, .I (-1), .I 0, .I 0, .I 1, .I 0, .I 0, .I 0, .I (-1), .I 0, .I 0, .I 1]) M := by
  refine calls_run K.spec_l6Steps rfl ?_
  simp (disch := omega) only [C.spec_l6Steps, splice, ↓SXd, SXu, slBounds, ↓sop, ↓aop, ↓reduceIte, LV.cells, AOp.dst, LV.I, LV.B, LV.U, LV.S, LV.nil, Nat.reduceEqDiff, Nat.reduceAdd, Nat.reduceMul, Nat.reduceSub, Nat.reduceLeDiff, Nat.reduceBEq, Nat.reduceDiv, Nat.reduceMod, Int.reduceToNat, Int.reduceLT, Int.reduceLE, Int.reduceAdd, Int.reduceSub, Int.reduceMul, Int.reduceEq, Int.reduceNeg, reduceCtorEq, resV, resAll, ARes.ev, LV.flat, ite_true, ite_false, exists_eq_left', exists_eq_left, keyOf, implies_true, fillC, capOf]
  exact cmp_drop rfl
theorem h_l6Beside {a b c d e f : Int} {M : Mem} (h : (-100 ≤ a ∧ a ≤ 100) ∧ (-100 ≤ b ∧ b ≤ 100) ∧ (-100 ≤ c ∧ c ≤ 100) ∧ (-100 ≤ d ∧ d ≤ 100) ∧ (-100 ≤ e ∧ e ≤ 100) ∧ (-100 ≤ f ∧ f ≤ 100)) :
    CallsTo PG F.spec_l6Beside [.agg [.I a, .I b, .I c], .agg [.I d, .I e, .I f]] M (.agg [.I (a + d), .I (b + e), .I (c + f)]) M := by
  obtain ⟨⟨_, _⟩, ⟨_, _⟩, ⟨_, _⟩, ⟨_, _⟩, ⟨_, _⟩, ⟨_, _⟩⟩ := h
  refine calls_run K.spec_l6Beside rfl ?_
  simp (disch := omega) only [C.spec_l6Beside, splice, ↓SXd, SXu, slBounds, ↓sop, ↓aop, ↓reduceIte, LV.cells, AOp.dst, LV.I, LV.B, LV.U, LV.S, LV.nil, Nat.reduceEqDiff, Nat.reduceAdd, Nat.reduceMul, Nat.reduceSub, Nat.reduceLeDiff, Nat.reduceBEq, Nat.reduceDiv, Nat.reduceMod, Int.reduceToNat, Int.reduceLT, Int.reduceLE, Int.reduceAdd, Int.reduceSub, Int.reduceMul, Int.reduceEq, Int.reduceNeg, reduceCtorEq, resV, resAll, ARes.ev, LV.flat, ite_true, ite_false, exists_eq_left', exists_eq_left, keyOf, implies_true, fillC, capOf]
  exact cmp_drop rfl

def steps : List Cell := [⟨-1, 0, 0⟩, ⟨1, 0, 0⟩, ⟨0, -1, 0⟩, ⟨0, 1, 0⟩, ⟨0, 0, -1⟩, ⟨0, 0, 1⟩]
theorem Live.step {N : Mem} {t k : Nat} (h : Live N t (.row (triL steps) true 0)) (hk : k < 6) : getCells N t (k * 3) 3 = some (steps.getD k default).row := by
  have := Tri.get (cs := steps) (o := 0) h.has (k := k) hk
  rwa [Nat.zero_add] at this

end Go.Ab

/- The abstract code of some functions (written by a program of mine from the translation, by way of prepF). -/
namespace Go.Ab.C
open Go.Ab
end Go.Ab.C

/- That the program has this code. -/
namespace Go.Ab.K
open Go Go.Ab
end Go.Ab.K

/- Plain: how often a line of a box is met by cells of a list; cells that are alone in a line. -/
namespace Go.Ab
open Go
set_option linter.unusedSimpArgs false
set_option linter.unusedVariables false

def onLine (y z : Int) (d : Nat) (i : Nat) (c : Cell) : Bool := decide ((lineOf y z c d).toNat = i)
/-- A cell alone, among cells, in one of its lines of the first k directions. -/
def aloneK (y z : Int) (cs : List Cell) : Nat → Cell → Bool
  | 0, _ => false
  | k + 1, c => aloneK y z cs k c || decide (cs.countP (onLine y z k (lineOf y z c k).toNat) = 1)
/-- The lit lines of a shadow. -/
def litL (xs : List Int) (n : Nat) : List Nat := (List.range n).filter fun i => decide (xs.getD i 0 = 1)
def litTo (tp fr sd : List Int) (d i : Nat) : List (Nat × Nat) := ((List.range d).flatMap fun e => (litL (shdList e tp fr sd) (shdList e tp fr sd).length).map fun j => (e, j)) ++ (litL (shdList d tp fr sd) i).map fun j => (d, j)
def lits (tp fr sd : List Int) : List (Nat × Nat) := litTo tp fr sd 3 0
/-- The cells of p in a line. -/
def inLine (y z : Int) (p : Cell → Bool) (q : Nat × Nat) (c : Cell) : Bool := p c && onLine y z q.1 q.2 c
/-- The lines as sets. -/
def lineSets (x y z : Int) (p : Cell → Bool) (L : List (Nat × Nat)) : List LV := L.map fun q => .W (bs x y z (inLine y z p q))
/-- Among the first k lit lines one has the cell, and no other allowed one. -/
def mustTo (x y z : Int) (p : Cell → Bool) (L : List (Nat × Nat)) (c : Cell) : Bool := decide (∃ q ∈ L, (pick x y z (inLine y z p q)).length = 1 ∧ inLine y z p q c = true)
end Go.Ab

/- Plain: lit lines without a cube, as the reference lists them. -/
namespace Go.Ab
open Go
set_option linter.unusedSimpArgs false
set_option linter.unusedVariables false

def offL (tp fr : List Int) (d : Nat) : Nat := if d = 2 then 0 else if d = 1 then tp.length else tp.length + fr.length
/-- The place of a cell's line among all lines. -/
def gl (y z : Int) (tp fr : List Int) (d : Nat) (c : Cell) : Nat := offL tp fr d + (lineOf y z c d).toNat
def darkStep (y z : Int) (tp fr : List Int) (v : List Bool) (c : Cell) : List Bool := ((v.set (gl y z tp fr 2 c) false).set (gl y z tp fr 1 c) false).set (gl y z tp fr 0 c) false
def darkL (y z : Int) (tp fr sd : List Int) (cs : List Cell) : List Bool := cs.foldl (darkStep y z tp fr) ((tp ++ fr ++ sd).map fun n => decide (n = 1))
/-- Cells meet all lit lines. -/
def Meets (y z : Int) (L : List (Nat × Nat)) (cs : List Cell) : Prop := ∀ q ∈ L, ∃ c ∈ cs, onLine y z q.1 q.2 c = true
instance (y z : Int) (L : List (Nat × Nat)) (cs : List Cell) : Decidable (Meets y z L cs) := by unfold Meets; exact inferInstance
end Go.Ab

/- The abstract code of some functions (written by a program of mine from the translation, by way of prepF). -/
namespace Go.Ab.C
open Go.Ab
end Go.Ab.C

/- That the program has this code. -/
namespace Go.Ab.K
open Go Go.Ab
end Go.Ab.K

/- The abstract code of some functions (written by a program of mine from the translation, by way of prepF). -/
namespace Go.Ab.C
open Go.Ab
end Go.Ab.C

/- That the program has this code. -/
namespace Go.Ab.K
open Go Go.Ab
end Go.Ab.K

/- The abstract code of some functions (written by a program of mine from the translation, by way of prepF). -/
namespace Go.Ab.C
open Go.Ab
end Go.Ab.C

/- That the program has this code. -/
namespace Go.Ab.K
open Go Go.Ab
end Go.Ab.K

/- Contracts: lists of numbers that are the same; shadows of heaps, the reference's side. -/
namespace Go.Ab
open Go
set_option linter.unusedSimpArgs false
set_option linter.unusedVariables false

end Go.Ab

/- Contracts: shadows of heaps, the reference's side. -/
namespace Go.Ab
open Go
set_option linter.unusedSimpArgs false
set_option linter.unusedVariables false

def onesL (v : List Int) : List Int := v.map fun n => min n 1
def shdOf (x y z : Int) (d : Nat) (cs : List Cell) : List Int := onesL (viewL x y z d cs)
end Go.Ab

/- Contracts: whether a heap has a shadow, the reference's side. -/
namespace Go.Ab
open Go
set_option linter.unusedSimpArgs false
set_option linter.unusedVariables false

section
variable {x y z : Int} {t o : Nat} {cs : List Cell} {M : Mem} (h : Tri M t o cs) (hH : HeapOK x y z cs)
include h hH
end

/-- A set of cells has a shadow. -/
def HasShd (x y z : Int) (tp fr sd : List Int) (cs : List Cell) : Prop := shdOf x y z 2 cs = tp ∧ shdOf x y z 1 cs = fr ∧ shdOf x y z 0 cs = sd
instance (x y z : Int) (tp fr sd : List Int) (cs : List Cell) : Decidable (HasShd x y z tp fr sd cs) := by unfold HasShd; exact inferInstance
end Go.Ab

/- Contracts: lit lines without a cube, the reference's side. -/
namespace Go.Ab
open Go
set_option linter.unusedSimpArgs false
set_option linter.unusedVariables false
set_option maxRecDepth 20000

theorem appendK_list {M : Mem} {t t2 o2 n n2 e b : Nat} {acc new : List LV} {A : LV → Mem → Prop} (ht : Live M t (.row acc true e)) (hn : acc.length = n * e) (h2 : Has M t2 o2 new) (hne : new.length = n2 * e) (hb : (n + n2) * b ≤ 140737488355328) (hl : n + n2 ≤ 9223372036854775807)
    (hA : ∀ u M', M.length ≤ M'.length → Live M' u (.row (acc ++ new) true e) → (u = t ∨ M.length ≤ u) → (∀ w, w ≠ t → w < M.length → M'[w]? = M[w]?) → A (.ref u 0 (n + n2)) M') : appendK e b (.ref t 0 n) (.ref t2 o2 n2) M A := by
  rcases Nat.eq_zero_or_pos n2 with h0 | h0
  · subst h0
    have : new = [] := List.eq_nil_of_length_eq_zero (by omega)
    subst this
    rw [appendK_zero]
    exact ⟨⟨by omega, by omega⟩, hA t M (Nat.le_refl _) (by rw [List.append_nil]; exact ht) (.inl rfl) fun _ _ _ => rfl⟩
  · rw [appendK_pos h0 (by rw [← hne]; exact h2.all) ht (by omega)]
    refine ⟨⟨hb, hl⟩, hA _ _ (by simp) ?_ (.inr (Nat.le_refl _)) fun w hw hwl => ?_⟩
    · unfold Live
      rw [List.getElem?_append_right (by simp)]
      simp [← hn]
    · rw [List.getElem?_append_left (by simpa using hwl), List.getElem?_set_ne (fun e => hw e.symm)]
def boolL (v : List Bool) : List LV := v.map LV.B
def stepTo (y z : Int) (tp fr : List Int) (V : List Bool) (c : Cell) : Nat → List Bool
  | 0 => V
  | k + 1 => (stepTo y z tp fr V c k).set (gl y z tp fr (2 - k) c) false
end Go.Ab
