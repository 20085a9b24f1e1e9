/- Parts of the proof of FnExactTopRegionSaid: Cb Kb Db Dc Dd De Df Dg Dh Eg Eh. -/
import Derived.Test.YtofjblebffflhaaA3
import Derived.Test.YtofjblebffflhaaProg
import Derived.KernelRfl
import Derived.Test.YtofjblebffflhaaA4
import Derived.Test.YtofjblebffflhaaA5
set_option linter.all false
/- The abstract code of some functions (written by a program of mine from the translation, by way of prepF). -/
namespace Go.Ab.C
open Go.Ab
/-- spec.l1In -/
def spec_l1In : AFn :=
  ⟨3, 15, [.tmp 6],
    .seq (.ops [(none, .mv 6 (.c (.B false)))])
    (.seq (.ops [(none, .mv 7 (.t 0)),
        (none, .mv 8 (.t 1)),
        (none, .bin 9 .geq (.t 7) (.t 8)),
        (none, .mv 10 (.t 9)),
        (some (10, true), .mv 11 (.t 0)),
        (some (10, true), .mv 12 (.t 2)),
        (some (10, true), .bin 13 .leq (.t 11) (.t 12)),
        (none, .pick 14 (.t 10) (.t 13) (.c (.B false))),
        (none, .mv 6 (.t 14))])
     (.ret))⟩
/-- spec.l2Sides -/
def spec_l2Sides : AFn :=
  ⟨3, 17, [.tmp 6],
    .seq (.ops [(none, .mv 6 (.c (.B false)))])
    (.seq (.ops [(none, .mv 7 (.t 0)),
        (none, .call (some 8) F.spec_l1In [(.t 7), (.c (.I 1)), (.c (.I 4))]),
        (none, .mv 9 (.t 8)),
        (some (9, true), .mv 10 (.t 1)),
        (some (9, true), .call (some 11) F.spec_l1In [(.t 10), (.c (.I 1)), (.c (.I 4))]),
        (none, .pick 12 (.t 9) (.t 11) (.c (.B false))),
        (none, .mv 13 (.t 12)),
        (some (13, true), .mv 14 (.t 2)),
        (some (13, true), .call (some 15) F.spec_l1In [(.t 14), (.c (.I 1)), (.c (.I 4))]),
        (none, .pick 16 (.t 13) (.t 15) (.c (.B false))),
        (none, .mv 6 (.t 16))])
     (.ret))⟩
/-- spec.l2Before -/
def spec_l2Before : AFn :=
  ⟨2, 24, [.tmp 4],
    .seq (.ops [(none, .box 2 (.t 0)),
       (none, .box 3 (.t 1)),
       (none, .mv 4 (.c (.B false)))])
    (.seq (.seq (.ops [(none, .mv 5 (.c (.I 0)))])
      (.block 0 (.loop (.seq (.seq (.ops [(none, .mv 6 (.t 5)),
             (none, .bin 7 .lss (.t 6) (.c (.I 3)))])
          (.cond (.t 7) (.skip)
           (.exit 0)))
         (.seq (.block 1 (.seq (.draw [⟨(none, .mv 10 (.t 5)), [], []⟩,
               ⟨(none, .idxA 11 3 1 (.t 2) (.t 10)), [], []⟩,
               ⟨(none, .load1 12 (.t 11)), [], []⟩,
               ⟨(none, .mv 13 (.t 5)), [], []⟩,
               ⟨(none, .idxA 14 3 1 (.t 3) (.t 13)), [], []⟩,
               ⟨(none, .load1 15 (.t 14)), [], []⟩,
               ⟨(none, .bin 16 .neq (.t 12) (.t 15)), [], []⟩])
            (.cond (.t 16) (.seq (.draw [⟨(none, .mv 17 (.t 5)), [], []⟩,
                 ⟨(none, .idxA 18 3 1 (.t 2) (.t 17)), [], []⟩,
                 ⟨(none, .load1 19 (.t 18)), [], []⟩,
                 ⟨(none, .mv 20 (.t 5)), [], []⟩,
                 ⟨(none, .idxA 21 3 1 (.t 3) (.t 20)), [], []⟩,
                 ⟨(none, .load1 22 (.t 21)), [], []⟩,
                 ⟨(none, .bin 23 .lss (.t 19) (.t 22)), [], []⟩,
                 ⟨(none, .mv 4 (.t 23)), [], []⟩])
              (.ret))
             (.skip))))
          (.ops [(none, .mv 8 (.t 5)),
             (none, .bin 9 .add (.t 8) (.c (.I 1))),
             (none, .mv 5 (.t 9))]))))))
     (.seq (.ops [(none, .mv 4 (.c (.B false)))])
      (.ret)))⟩
/-- spec.l2In -/
def spec_l2In : AFn :=
  ⟨2, 27, [.tmp 4],
    .seq (.ops [(none, .box 2 (.t 0)),
       (none, .box 3 (.t 1)),
       (none, .mv 4 (.c (.B false)))])
    (.seq (.ops [(none, .idxA 5 3 1 (.t 3) (.c (.I 0))),
        (none, .load1 6 (.t 5)),
        (none, .fieldAddr 7 (.t 2) 0),
        (none, .load1 8 (.t 7)),
        (none, .bin 9 .sub (.t 8) (.c (.I 1))),
        (none, .call (some 10) F.spec_l1In [(.t 6), (.c (.I 0)), (.t 9)]),
        (none, .mv 11 (.t 10)),
        (some (11, true), .idxA 12 3 1 (.t 3) (.c (.I 1))),
        (some (11, true), .load1 13 (.t 12)),
        (some (11, true), .fieldAddr 14 (.t 2) 1),
        (some (11, true), .load1 15 (.t 14)),
        (some (11, true), .bin 16 .sub (.t 15) (.c (.I 1))),
        (some (11, true), .call (some 17) F.spec_l1In [(.t 13), (.c (.I 0)), (.t 16)]),
        (none, .pick 18 (.t 11) (.t 17) (.c (.B false))),
        (none, .mv 19 (.t 18)),
        (some (19, true), .idxA 20 3 1 (.t 3) (.c (.I 2))),
        (some (19, true), .load1 21 (.t 20)),
        (some (19, true), .fieldAddr 22 (.t 2) 2),
        (some (19, true), .load1 23 (.t 22)),
        (some (19, true), .bin 24 .sub (.t 23) (.c (.I 1))),
        (some (19, true), .call (some 25) F.spec_l1In [(.t 21), (.c (.I 0)), (.t 24)]),
        (none, .pick 26 (.t 19) (.t 25) (.c (.B false))),
        (none, .mv 4 (.t 26))])
     (.ret))⟩
/-- spec.l2Heap -/
def spec_l2Heap : AFn :=
  ⟨1, 46, [.tmp 2],
    .seq (.ops [(none, .box 1 (.t 0)),
       (none, .mv 2 (.c (.B false)))])
    (.seq (.seq (.ops [(none, .fieldAddr 4 (.t 1) 0),
         (none, .load1 5 (.t 4)),
         (none, .fieldAddr 6 (.t 1) 1),
         (none, .load1 7 (.t 6)),
         (none, .fieldAddr 8 (.t 1) 2),
         (none, .load1 9 (.t 8)),
         (none, .call (some 10) F.spec_l2Sides [(.t 5), (.t 7), (.t 9)]),
         (none, .un 11 .not (.t 10))])
      (.cond (.t 11) (.seq (.ops [(none, .mv 2 (.c (.B false)))])
        (.ret))
       (.skip)))
     (.seq (.seq (.ops [(none, .mv 3 (.c (.I 0)))])
       (.block 0 (.loop (.seq (.seq (.ops [(none, .mv 12 (.t 3)),
              (none, .fieldAddr 13 (.t 1) 3),
              (none, .load1 14 (.t 13)),
              (none, .len 15 (.t 14)),
              (none, .bin 16 .lss (.t 12) (.t 15))])
           (.cond (.t 16) (.skip)
            (.exit 0)))
          (.seq (.block 1 (.seq (.draw [⟨(none, .loadN 19 4 (.t 1)), [], []⟩,
                ⟨(none, .fieldAddr 20 (.t 1) 3), [], []⟩,
                ⟨(none, .load1 21 (.t 20)), [], []⟩,
                ⟨(none, .mv 22 (.t 3)), [], []⟩,
                ⟨(none, .idxS 23 3 (.t 21) (.t 22)), [], []⟩,
                ⟨(none, .loadN 24 3 (.t 23)), [], []⟩,
                ⟨(none, .call (some 25) F.spec_l2In [(.t 19), (.t 24)]), [], []⟩,
                ⟨(none, .un 26 .not (.t 25)), [], []⟩,
                ⟨(none, .mv 27 (.t 26)), [], []⟩,
                ⟨(some (27, false), .mv 28 (.t 3)), [], []⟩,
                ⟨(some (27, false), .bin 29 .gtr (.t 28) (.c (.I 0))), [], []⟩,
                ⟨(some (27, false), .mv 30 (.t 29)), [], []⟩,
                ⟨(some (30, true), .fieldAddr 31 (.t 1) 3), [], []⟩,
                ⟨(some (30, true), .load1 32 (.t 31)), [], []⟩,
                ⟨(some (30, true), .mv 33 (.t 3)), [], []⟩,
                ⟨(some (30, true), .bin 34 .sub (.t 33) (.c (.I 1))), [], []⟩,
                ⟨(some (30, true), .idxS 35 3 (.t 32) (.t 34)), [], []⟩,
                ⟨(some (30, true), .loadN 36 3 (.t 35)), [], []⟩,
                ⟨(some (30, true), .fieldAddr 37 (.t 1) 3), [], []⟩,
                ⟨(some (30, true), .load1 38 (.t 37)), [], []⟩,
                ⟨(some (30, true), .mv 39 (.t 3)), [], []⟩,
                ⟨(some (30, true), .idxS 40 3 (.t 38) (.t 39)), [], []⟩,
                ⟨(some (30, true), .loadN 41 3 (.t 40)), [], []⟩,
                ⟨(some (30, true), .call (some 42) F.spec_l2Before [(.t 36), (.t 41)]), [], []⟩,
                ⟨(some (30, true), .un 43 .not (.t 42)), [], []⟩,
                ⟨(some (27, false), .pick 44 (.t 30) (.t 43) (.c (.B false))), [], []⟩,
                ⟨(none, .pick 45 (.t 27) (.c (.B true)) (.t 44)), [], []⟩])
             (.cond (.t 45) (.seq (.ops [(none, .mv 2 (.c (.B false)))])
               (.ret))
              (.skip))))
           (.ops [(none, .mv 17 (.t 3)),
              (none, .bin 18 .add (.t 17) (.c (.I 1))),
              (none, .mv 3 (.t 18))]))))))
      (.seq (.ops [(none, .mv 2 (.c (.B true)))])
       (.ret))))⟩
/-- spec.l1Most -/
def spec_l1Most : AFn :=
  ⟨2, 10, [.tmp 4],
    .seq (.ops [(none, .mv 4 (.c (.I 0)))])
    (.seq (.seq (.ops [(none, .mv 5 (.t 0)),
         (none, .mv 6 (.t 1)),
         (none, .bin 7 .gtr (.t 5) (.t 6))])
      (.cond (.t 7) (.seq (.ops [(none, .mv 8 (.t 0)),
           (none, .mv 4 (.t 8))])
        (.ret))
       (.skip)))
     (.seq (.ops [(none, .mv 9 (.t 1)),
         (none, .mv 4 (.t 9))])
      (.ret)))⟩
/-- spec.l2Tops -/
def spec_l2Tops : AFn :=
  ⟨1, 51, [.tmp 2],
    .seq (.ops [(none, .box 1 (.t 0)),
       (none, .mv 2 (.c .nil))])
    (.seq (.ops [(none, .fieldAddr 6 (.t 1) 0),
        (none, .load1 7 (.t 6)),
        (none, .fieldAddr 8 (.t 1) 1),
        (none, .load1 9 (.t 8)),
        (none, .bin 10 .mul (.t 7) (.t 9)),
        (none, .mksl 11 1 8 [(.I 0)] (.t 10) (.t 10)),
        (none, .mv 3 (.t 11))])
     (.seq (.seq (.ops [(none, .mv 4 (.c (.I 0)))])
       (.block 0 (.loop (.seq (.seq (.ops [(none, .mv 12 (.t 4)),
              (none, .fieldAddr 13 (.t 1) 3),
              (none, .load1 14 (.t 13)),
              (none, .len 15 (.t 14)),
              (none, .bin 16 .lss (.t 12) (.t 15))])
           (.cond (.t 16) (.skip)
            (.exit 0)))
          (.seq (.block 1 (.seq (.draw [⟨(none, .fieldAddr 19 (.t 1) 3), [], []⟩,
                ⟨(none, .load1 20 (.t 19)), [], []⟩,
                ⟨(none, .mv 21 (.t 4)), [], []⟩,
                ⟨(none, .idxS 22 3 (.t 20) (.t 21)), [], []⟩,
                ⟨(none, .idxA 23 3 1 (.t 22) (.c (.I 0))), [], []⟩,
                ⟨(none, .load1 24 (.t 23)), [], []⟩,
                ⟨(none, .fieldAddr 25 (.t 1) 1), [], []⟩,
                ⟨(none, .load1 26 (.t 25)), [], []⟩,
                ⟨(none, .bin 27 .mul (.t 24) (.t 26)), [], []⟩,
                ⟨(none, .fieldAddr 28 (.t 1) 3), [], []⟩,
                ⟨(none, .load1 29 (.t 28)), [], []⟩,
                ⟨(none, .mv 30 (.t 4)), [], []⟩,
                ⟨(none, .idxS 31 3 (.t 29) (.t 30)), [], []⟩,
                ⟨(none, .idxA 32 3 1 (.t 31) (.c (.I 1))), [], []⟩,
                ⟨(none, .load1 33 (.t 32)), [], []⟩,
                ⟨(none, .bin 34 .add (.t 27) (.t 33)), [], []⟩,
                ⟨(none, .mv 5 (.t 34)), [], []⟩])
             (.draw [⟨(none, .mv 35 (.t 3)), [], []⟩,
                ⟨(none, .mv 36 (.t 5)), [], []⟩,
                ⟨(none, .mv 37 (.t 3)), [], []⟩,
                ⟨(none, .mv 38 (.t 5)), [], []⟩,
                ⟨(none, .idxS 39 1 (.t 37) (.t 38)), [], []⟩,
                ⟨(none, .load1 40 (.t 39)), [], []⟩,
                ⟨(none, .fieldAddr 41 (.t 1) 3), [], []⟩,
                ⟨(none, .load1 42 (.t 41)), [], []⟩,
                ⟨(none, .mv 43 (.t 4)), [], []⟩,
                ⟨(none, .idxS 44 3 (.t 42) (.t 43)), [], []⟩,
                ⟨(none, .idxA 45 3 1 (.t 44) (.c (.I 2))), [], []⟩,
                ⟨(none, .load1 46 (.t 45)), [], []⟩,
                ⟨(none, .bin 47 .add (.t 46) (.c (.I 1))), [], []⟩,
                ⟨(none, .call (some 48) F.spec_l1Most [(.t 40), (.t 47)]), [], [0, 1]⟩,
                ⟨(none, .idxS 49 1 (.t 35) (.t 36)), [], []⟩,
                ⟨(none, .store 1 (.t 49) (.t 48)), [], []⟩])))
           (.ops [(none, .mv 17 (.t 4)),
              (none, .bin 18 .add (.t 17) (.c (.I 1))),
              (none, .mv 4 (.t 18))]))))))
      (.seq (.ops [(none, .mv 50 (.t 3)),
          (none, .mv 2 (.t 50))])
       (.ret))))⟩
/-- spec.l10Column -/
def spec_l10Column : AFn :=
  ⟨2, 17, [.tmp 4],
    .seq (.ops [(none, .box 2 (.t 0)),
       (none, .mv 4 (.c (.B false)))])
    (.seq (.ops [(none, .loadN 5 4 (.t 2)),
        (none, .call (some 6) F.spec_l2Heap [(.t 5)]),
        (none, .mv 7 (.t 6)),
        (some (7, true), .mv 8 (.t 1)),
        (some (7, true), .fieldAddr 9 (.t 2) 0),
        (some (7, true), .load1 10 (.t 9)),
        (some (7, true), .fieldAddr 11 (.t 2) 1),
        (some (7, true), .load1 12 (.t 11)),
        (some (7, true), .bin 13 .mul (.t 10) (.t 12)),
        (some (7, true), .bin 14 .sub (.t 13) (.c (.I 1))),
        (some (7, true), .call (some 15) F.spec_l1In [(.t 8), (.c (.I 0)), (.t 14)]),
        (none, .pick 16 (.t 7) (.t 15) (.c (.B false))),
        (none, .mv 4 (.t 16))])
     (.ret))⟩
/-- spec.l2Apart -/
def spec_l2Apart : AFn :=
  ⟨2, 29, [.tmp 4],
    .seq (.ops [(none, .box 2 (.t 0)),
       (none, .box 3 (.t 1)),
       (none, .mv 4 (.c (.I 0)))])
    (.seq (.ops [(none, .mv 5 (.c (.I 0)))])
     (.seq (.seq (.ops [(none, .mv 6 (.c (.I 0)))])
       (.block 0 (.loop (.seq (.seq (.ops [(none, .mv 7 (.t 6)),
              (none, .bin 8 .lss (.t 7) (.c (.I 3)))])
           (.cond (.t 8) (.skip)
            (.exit 0)))
          (.seq (.block 1 (.draw [⟨(none, .mv 11 (.t 5)), [], []⟩,
               ⟨(none, .mv 12 (.t 6)), [], []⟩,
               ⟨(none, .idxA 13 3 1 (.t 2) (.t 12)), [], []⟩,
               ⟨(none, .load1 14 (.t 13)), [], []⟩,
               ⟨(none, .mv 15 (.t 6)), [], []⟩,
               ⟨(none, .idxA 16 3 1 (.t 3) (.t 15)), [], []⟩,
               ⟨(none, .load1 17 (.t 16)), [], []⟩,
               ⟨(none, .bin 18 .sub (.t 14) (.t 17)), [], []⟩,
               ⟨(none, .mv 19 (.t 6)), [], []⟩,
               ⟨(none, .idxA 20 3 1 (.t 3) (.t 19)), [], []⟩,
               ⟨(none, .load1 21 (.t 20)), [], []⟩,
               ⟨(none, .mv 22 (.t 6)), [], []⟩,
               ⟨(none, .idxA 23 3 1 (.t 2) (.t 22)), [], []⟩,
               ⟨(none, .load1 24 (.t 23)), [], []⟩,
               ⟨(none, .bin 25 .sub (.t 21) (.t 24)), [], []⟩,
               ⟨(none, .call (some 26) F.spec_l1Most [(.t 18), (.t 25)]), [], [0]⟩,
               ⟨(none, .bin 27 .add (.t 11) (.t 26)), [], []⟩,
               ⟨(none, .mv 5 (.t 27)), [], []⟩]))
           (.ops [(none, .mv 9 (.t 6)),
              (none, .bin 10 .add (.t 9) (.c (.I 1))),
              (none, .mv 6 (.t 10))]))))))
      (.seq (.ops [(none, .mv 28 (.t 5)),
          (none, .mv 4 (.t 28))])
       (.ret))))⟩
/-- spec.l10Next -/
def spec_l10Next : AFn :=
  ⟨2, 42, [.tmp 4],
    .seq (.ops [(none, .box 2 (.t 0)),
       (none, .mv 4 (.c .nil))])
    (.seq (.ops [(none, .buildSl 7 0 1 [] []),
        (none, .mv 5 (.t 7))])
     (.seq (.seq (.ops [(none, .mv 6 (.c (.I 0)))])
       (.block 0 (.loop (.seq (.seq (.ops [(none, .mv 8 (.t 6)),
              (none, .fieldAddr 9 (.t 2) 0),
              (none, .load1 10 (.t 9)),
              (none, .fieldAddr 11 (.t 2) 1),
              (none, .load1 12 (.t 11)),
              (none, .bin 13 .mul (.t 10) (.t 12)),
              (none, .bin 14 .lss (.t 8) (.t 13))])
           (.cond (.t 14) (.skip)
            (.exit 0)))
          (.seq (.block 1 (.seq (.draw [⟨(none, .mv 17 (.t 1)), [], []⟩,
                ⟨(none, .fieldAddr 18 (.t 2) 1), [], []⟩,
                ⟨(none, .load1 19 (.t 18)), [], []⟩,
                ⟨(none, .bin 20 .quo (.t 17) (.t 19)), [], []⟩,
                ⟨(none, .mv 21 (.t 1)), [], []⟩,
                ⟨(none, .fieldAddr 22 (.t 2) 1), [], []⟩,
                ⟨(none, .load1 23 (.t 22)), [], []⟩,
                ⟨(none, .bin 24 .rem (.t 21) (.t 23)), [], []⟩,
                ⟨(none, .build 25 [(.I 0), (.I 0), (.I 0)] [(0, 1, (.t 20)), (1, 1, (.t 24)), (2, 1, (.c (.I 0)))]), [], []⟩,
                ⟨(none, .mv 26 (.t 6)), [], []⟩,
                ⟨(none, .fieldAddr 27 (.t 2) 1), [], []⟩,
                ⟨(none, .load1 28 (.t 27)), [], []⟩,
                ⟨(none, .bin 29 .quo (.t 26) (.t 28)), [], []⟩,
                ⟨(none, .mv 30 (.t 6)), [], []⟩,
                ⟨(none, .fieldAddr 31 (.t 2) 1), [], []⟩,
                ⟨(none, .load1 32 (.t 31)), [], []⟩,
                ⟨(none, .bin 33 .rem (.t 30) (.t 32)), [], []⟩,
                ⟨(none, .build 34 [(.I 0), (.I 0), (.I 0)] [(0, 1, (.t 29)), (1, 1, (.t 33)), (2, 1, (.c (.I 0)))]), [], []⟩,
                ⟨(none, .call (some 35) F.spec_l2Apart [(.t 25), (.t 34)]), [], []⟩,
                ⟨(none, .bin 36 .eql (.t 35) (.c (.I 1))), [], []⟩])
             (.cond (.t 36) (.ops [(none, .mv 37 (.t 5)),
                 (none, .mv 38 (.t 6)),
                 (none, .buildSl 39 1 1 [(.I 0)] [(0, 1, (.t 38))]),
                 (none, .append 40 1 8 (.t 37) (.t 39)),
                 (none, .mv 5 (.t 40))])
              (.skip))))
           (.ops [(none, .mv 15 (.t 6)),
              (none, .bin 16 .add (.t 15) (.c (.I 1))),
              (none, .mv 6 (.t 16))]))))))
      (.seq (.ops [(none, .mv 41 (.t 5)),
          (none, .mv 4 (.t 41))])
       (.ret))))⟩
/-- spec.l10Up -/
def spec_l10Up : AFn :=
  ⟨2, 12, [.tmp 4],
    .seq (.ops [(none, .mv 4 (.c (.I 0)))])
    (.seq (.ops [(none, .mv 5 (.t 0)),
        (none, .mv 6 (.t 1)),
        (none, .bin 7 .sub (.t 5) (.t 6)),
        (none, .mv 8 (.t 1)),
        (none, .mv 9 (.t 0)),
        (none, .bin 10 .sub (.t 8) (.t 9)),
        (none, .call (some 11) F.spec_l1Most [(.t 7), (.t 10)]),
        (none, .mv 4 (.t 11))])
     (.ret))⟩
/-- spec.l10Steps -/
def spec_l10Steps : AFn :=
  ⟨4, 44, [.tmp 8],
    .seq (.ops [(none, .box 4 (.t 0)),
       (none, .mv 8 (.c .nil))])
    (.seq (.ops [(none, .buildSl 12 0 1 [] []),
        (none, .loadN 13 4 (.t 4)),
        (none, .mv 14 (.t 2)),
        (none, .call (some 15) F.spec_l10Next [(.t 13), (.t 14)]),
        (none, .mv 9 (.t 12)),
        (none, .mv 10 (.t 15))])
     (.seq (.seq (.ops [(none, .mv 11 (.c (.I 0)))])
       (.block 0 (.loop (.seq (.seq (.ops [(none, .mv 16 (.t 11)),
              (none, .mv 17 (.t 10)),
              (none, .len 18 (.t 17)),
              (none, .bin 19 .lss (.t 16) (.t 18))])
           (.cond (.t 19) (.skip)
            (.exit 0)))
          (.seq (.block 1 (.seq (.draw [⟨(none, .mv 22 (.t 1)), [], []⟩,
                ⟨(none, .mv 23 (.t 10)), [], []⟩,
                ⟨(none, .mv 24 (.t 11)), [], []⟩,
                ⟨(none, .idxS 25 1 (.t 23) (.t 24)), [], []⟩,
                ⟨(none, .load1 26 (.t 25)), [], []⟩,
                ⟨(none, .idxS 27 1 (.t 22) (.t 26)), [], []⟩,
                ⟨(none, .load1 28 (.t 27)), [], []⟩,
                ⟨(none, .mv 29 (.t 1)), [], []⟩,
                ⟨(none, .mv 30 (.t 2)), [], []⟩,
                ⟨(none, .idxS 31 1 (.t 29) (.t 30)), [], []⟩,
                ⟨(none, .load1 32 (.t 31)), [], []⟩,
                ⟨(none, .mv 34 (.t 3)), [], []⟩,
                ⟨(none, .call (some 33) F.spec_l10Up [(.t 28), (.t 32)]), [], [11]⟩,
                ⟨(none, .bin 35 .leq (.t 33) (.t 34)), [], []⟩])
             (.cond (.t 35) (.ops [(none, .mv 36 (.t 9)),
                 (none, .mv 37 (.t 10)),
                 (none, .mv 38 (.t 11)),
                 (none, .idxS 39 1 (.t 37) (.t 38)),
                 (none, .load1 40 (.t 39)),
                 (none, .buildSl 41 1 1 [(.I 0)] [(0, 1, (.t 40))]),
                 (none, .append 42 1 8 (.t 36) (.t 41)),
                 (none, .mv 9 (.t 42))])
              (.skip))))
           (.ops [(none, .mv 20 (.t 11)),
              (none, .bin 21 .add (.t 20) (.c (.I 1))),
              (none, .mv 11 (.t 21))]))))))
      (.seq (.ops [(none, .mv 43 (.t 9)),
          (none, .mv 8 (.t 43))])
       (.ret))))⟩
/-- spec.l10Spread -/
def spec_l10Spread : AFn :=
  ⟨3, 86, [.tmp 6],
    .seq (.ops [(none, .box 3 (.t 0)),
       (none, .mv 6 (.c .nil))])
    (.seq (.draw [⟨(none, .fieldAddr 14 (.t 3) 0), [], []⟩,
        ⟨(none, .load1 15 (.t 14)), [], []⟩,
        ⟨(none, .fieldAddr 16 (.t 3) 1), [], []⟩,
        ⟨(none, .load1 17 (.t 16)), [], []⟩,
        ⟨(none, .bin 18 .mul (.t 15) (.t 17)), [], []⟩,
        ⟨(none, .loadN 20 4 (.t 3)), [], []⟩,
        ⟨(none, .mksl 19 1 8 [(.I 0)] (.t 18) (.t 18)), [], []⟩,
        ⟨(none, .call (some 21) F.spec_l2Tops [(.t 20)]), [6], [0, 1, 2, 3, 4]⟩,
        ⟨(none, .mv 7 (.t 19)), [], []⟩,
        ⟨(none, .mv 8 (.t 21)), [], []⟩])
     (.seq (.seq (.ops [(none, .mv 9 (.c (.I 0)))])
       (.block 0 (.loop (.seq (.seq (.ops [(none, .mv 22 (.t 9)),
              (none, .mv 23 (.t 7)),
              (none, .len 24 (.t 23)),
              (none, .bin 25 .lss (.t 22) (.t 24))])
           (.cond (.t 25) (.skip)
            (.exit 0)))
          (.seq (.block 1 (.ops [(none, .mv 28 (.t 7)),
               (none, .mv 29 (.t 9)),
               (none, .idxS 30 1 (.t 28) (.t 29)),
               (none, .store 1 (.t 30) (.c (.I (-1))))]))
           (.ops [(none, .mv 26 (.t 9)),
              (none, .bin 27 .add (.t 26) (.c (.I 1))),
              (none, .mv 9 (.t 27))]))))))
      (.seq (.ops [(none, .mv 31 (.t 7)),
          (none, .mv 32 (.t 1)),
          (none, .idxS 33 1 (.t 31) (.t 32)),
          (none, .store 1 (.t 33) (.c (.I 0)))])
       (.seq (.ops [(none, .mv 34 (.t 1)),
           (none, .buildSl 35 1 1 [(.I 0)] [(0, 1, (.t 34))]),
           (none, .mv 10 (.t 35))])
        (.seq (.seq (.ops [(none, .mv 11 (.c (.I 0)))])
          (.block 2 (.loop (.seq (.seq (.ops [(none, .mv 36 (.t 11)),
                 (none, .mv 37 (.t 10)),
                 (none, .len 38 (.t 37)),
                 (none, .bin 39 .lss (.t 36) (.t 38))])
              (.cond (.t 39) (.skip)
               (.exit 2)))
             (.seq (.block 3 (.seq (.draw [⟨(none, .loadN 42 4 (.t 3)), [], []⟩,
                   ⟨(none, .mv 43 (.t 8)), [], []⟩,
                   ⟨(none, .mv 44 (.t 10)), [], []⟩,
                   ⟨(none, .mv 45 (.t 11)), [], []⟩,
                   ⟨(none, .idxS 46 1 (.t 44) (.t 45)), [], []⟩,
                   ⟨(none, .load1 47 (.t 46)), [], []⟩,
                   ⟨(none, .mv 48 (.t 2)), [], []⟩,
                   ⟨(none, .call (some 49) F.spec_l10Steps [(.t 42), (.t 43), (.t 47), (.t 48)]), [], []⟩,
                   ⟨(none, .mv 12 (.t 49)), [], []⟩])
                (.seq (.ops [(none, .mv 13 (.c (.I 0)))])
                 (.block 4 (.loop (.seq (.seq (.ops [(none, .mv 50 (.t 13)),
                        (none, .mv 51 (.t 12)),
                        (none, .len 52 (.t 51)),
                        (none, .bin 53 .lss (.t 50) (.t 52))])
                     (.cond (.t 53) (.skip)
                      (.exit 4)))
                    (.seq (.block 5 (.seq (.ops [(none, .mv 56 (.t 7)),
                          (none, .mv 57 (.t 12)),
                          (none, .mv 58 (.t 13)),
                          (none, .idxS 59 1 (.t 57) (.t 58)),
                          (none, .load1 60 (.t 59)),
                          (none, .idxS 61 1 (.t 56) (.t 60)),
                          (none, .load1 62 (.t 61)),
                          (none, .bin 63 .lss (.t 62) (.c (.I 0)))])
                       (.cond (.t 63) (.seq (.draw [⟨(none, .mv 64 (.t 7)), [], []⟩,
                            ⟨(none, .mv 65 (.t 12)), [], []⟩,
                            ⟨(none, .mv 66 (.t 13)), [], []⟩,
                            ⟨(none, .idxS 67 1 (.t 65) (.t 66)), [], []⟩,
                            ⟨(none, .load1 68 (.t 67)), [], []⟩,
                            ⟨(none, .mv 69 (.t 7)), [], []⟩,
                            ⟨(none, .mv 70 (.t 10)), [], []⟩,
                            ⟨(none, .mv 71 (.t 11)), [], []⟩,
                            ⟨(none, .idxS 72 1 (.t 70) (.t 71)), [], []⟩,
                            ⟨(none, .load1 73 (.t 72)), [], []⟩,
                            ⟨(none, .idxS 74 1 (.t 69) (.t 73)), [], []⟩,
                            ⟨(none, .load1 75 (.t 74)), [], []⟩,
                            ⟨(none, .bin 76 .add (.t 75) (.c (.I 1))), [], []⟩,
                            ⟨(none, .idxS 77 1 (.t 64) (.t 68)), [], []⟩,
                            ⟨(none, .store 1 (.t 77) (.t 76)), [], []⟩])
                         (.ops [(none, .mv 78 (.t 10)),
                            (none, .mv 79 (.t 12)),
                            (none, .mv 80 (.t 13)),
                            (none, .idxS 81 1 (.t 79) (.t 80)),
                            (none, .load1 82 (.t 81)),
                            (none, .buildSl 83 1 1 [(.I 0)] [(0, 1, (.t 82))]),
                            (none, .append 84 1 8 (.t 78) (.t 83)),
                            (none, .mv 10 (.t 84))]))
                        (.skip))))
                     (.ops [(none, .mv 54 (.t 13)),
                        (none, .bin 55 .add (.t 54) (.c (.I 1))),
                        (none, .mv 13 (.t 55))]))))))))
              (.ops [(none, .mv 40 (.t 11)),
                 (none, .bin 41 .add (.t 40) (.c (.I 1))),
                 (none, .mv 11 (.t 41))]))))))
         (.seq (.ops [(none, .mv 85 (.t 7)),
             (none, .mv 6 (.t 85))])
          (.ret)))))))⟩
/-- spec.l10Region -/
def spec_l10Region : AFn :=
  ⟨3, 31, [.tmp 6],
    .seq (.ops [(none, .box 3 (.t 0)),
       (none, .mv 6 (.c .nil))])
    (.seq (.ops [(none, .buildSl 10 0 1 [] []),
        (none, .loadN 11 4 (.t 3)),
        (none, .mv 12 (.t 1)),
        (none, .mv 13 (.t 2)),
        (none, .call (some 14) F.spec_l10Spread [(.t 11), (.t 12), (.t 13)]),
        (none, .mv 7 (.t 10)),
        (none, .mv 8 (.t 14))])
     (.seq (.seq (.ops [(none, .mv 9 (.c (.I 0)))])
       (.block 0 (.loop (.seq (.seq (.ops [(none, .mv 15 (.t 9)),
              (none, .mv 16 (.t 8)),
              (none, .len 17 (.t 16)),
              (none, .bin 18 .lss (.t 15) (.t 17))])
           (.cond (.t 18) (.skip)
            (.exit 0)))
          (.seq (.block 1 (.seq (.ops [(none, .mv 21 (.t 8)),
                (none, .mv 22 (.t 9)),
                (none, .idxS 23 1 (.t 21) (.t 22)),
                (none, .load1 24 (.t 23)),
                (none, .bin 25 .geq (.t 24) (.c (.I 0)))])
             (.cond (.t 25) (.ops [(none, .mv 26 (.t 7)),
                 (none, .mv 27 (.t 9)),
                 (none, .buildSl 28 1 1 [(.I 0)] [(0, 1, (.t 27))]),
                 (none, .append 29 1 8 (.t 26) (.t 28)),
                 (none, .mv 7 (.t 29))])
              (.skip))))
           (.ops [(none, .mv 19 (.t 9)),
              (none, .bin 20 .add (.t 19) (.c (.I 1))),
              (none, .mv 9 (.t 20))]))))))
      (.seq (.ops [(none, .mv 30 (.t 7)),
          (none, .mv 6 (.t 30))])
       (.ret))))⟩
/-- spec.TopRegion -/
def spec_TopRegion : AFn :=
  ⟨3, 21, [.tmp 6, .tmp 7],
    .seq (.ops [(none, .box 3 (.t 0)),
       (none, .mv 6 (.c .nil)),
       (none, .mv 7 (.c (.B false)))])
    (.seq (.seq (.ops [(none, .loadN 8 4 (.t 3)),
         (none, .mv 9 (.t 1)),
         (none, .call (some 10) F.spec_l10Column [(.t 8), (.t 9)]),
         (none, .un 11 .not (.t 10)),
         (none, .mv 12 (.t 11)),
         (some (12, false), .mv 13 (.t 2)),
         (some (12, false), .bin 14 .lss (.t 13) (.c (.I 0))),
         (none, .pick 15 (.t 12) (.c (.B true)) (.t 14))])
      (.cond (.t 15) (.seq (.ops [(none, .buildSl 16 0 1 [] []),
           (none, .mv 6 (.t 16)),
           (none, .mv 7 (.c (.B false)))])
        (.ret))
       (.skip)))
     (.seq (.ops [(none, .loadN 17 4 (.t 3)),
         (none, .mv 18 (.t 1)),
         (none, .mv 19 (.t 2)),
         (none, .call (some 20) F.spec_l10Region [(.t 17), (.t 18), (.t 19)]),
         (none, .mv 6 (.t 20)),
         (none, .mv 7 (.c (.B true)))])
      (.ret)))⟩
/-- spec.CountRegions -/
def spec_CountRegions : AFn :=
  ⟨2, 35, [.tmp 4, .tmp 5],
    .seq (.ops [(none, .box 2 (.t 0)),
       (none, .mv 4 (.c (.I 0))),
       (none, .mv 5 (.c (.B false)))])
    (.seq (.seq (.ops [(none, .loadN 8 4 (.t 2)),
         (none, .call (some 9) F.spec_l2Heap [(.t 8)]),
         (none, .un 10 .not (.t 9)),
         (none, .mv 11 (.t 10)),
         (some (11, false), .mv 12 (.t 1)),
         (some (11, false), .bin 13 .lss (.t 12) (.c (.I 0))),
         (none, .pick 14 (.t 11) (.c (.B true)) (.t 13))])
      (.cond (.t 14) (.seq (.ops [(none, .mv 4 (.c (.I 0))),
           (none, .mv 5 (.c (.B false)))])
        (.ret))
       (.skip)))
     (.seq (.ops [(none, .mv 6 (.c (.I 0)))])
      (.seq (.seq (.ops [(none, .mv 7 (.c (.I 0)))])
        (.block 0 (.loop (.seq (.seq (.ops [(none, .mv 15 (.t 7)),
               (none, .fieldAddr 16 (.t 2) 0),
               (none, .load1 17 (.t 16)),
               (none, .fieldAddr 18 (.t 2) 1),
               (none, .load1 19 (.t 18)),
               (none, .bin 20 .mul (.t 17) (.t 19)),
               (none, .bin 21 .lss (.t 15) (.t 20))])
            (.cond (.t 21) (.skip)
             (.exit 0)))
           (.seq (.block 1 (.seq (.ops [(none, .loadN 24 4 (.t 2)),
                 (none, .mv 25 (.t 7)),
                 (none, .mv 26 (.t 1)),
                 (none, .call (some 27) F.spec_l10Region [(.t 24), (.t 25), (.t 26)]),
                 (none, .idxS 28 1 (.t 27) (.c (.I 0))),
                 (none, .load1 29 (.t 28)),
                 (none, .mv 30 (.t 7)),
                 (none, .bin 31 .eql (.t 29) (.t 30))])
              (.cond (.t 31) (.ops [(none, .mv 32 (.t 6)),
                  (none, .bin 33 .add (.t 32) (.c (.I 1))),
                  (none, .mv 6 (.t 33))])
               (.skip))))
            (.ops [(none, .mv 22 (.t 7)),
               (none, .bin 23 .add (.t 22) (.c (.I 1))),
               (none, .mv 7 (.t 23))]))))))
       (.seq (.ops [(none, .mv 34 (.t 6)),
           (none, .mv 4 (.t 34)),
           (none, .mv 5 (.c (.B true)))])
        (.ret)))))⟩
end Go.Ab.C

/- That the program has this code. -/
namespace Go.Ab.K
open Go Go.Ab
theorem spec_l1In : prepF Go.Proofs.Try.prog F.spec_l1In = some C.spec_l1In := by kernel_rfl
theorem spec_l2Sides : prepF Go.Proofs.Try.prog F.spec_l2Sides = some C.spec_l2Sides := by kernel_rfl
theorem spec_l2Before : prepF Go.Proofs.Try.prog F.spec_l2Before = some C.spec_l2Before := by kernel_rfl
theorem spec_l2In : prepF Go.Proofs.Try.prog F.spec_l2In = some C.spec_l2In := by kernel_rfl
theorem spec_l2Heap : prepF Go.Proofs.Try.prog F.spec_l2Heap = some C.spec_l2Heap := by kernel_rfl
theorem spec_l1Most : prepF Go.Proofs.Try.prog F.spec_l1Most = some C.spec_l1Most := by kernel_rfl
theorem spec_l2Tops : prepF Go.Proofs.Try.prog F.spec_l2Tops = some C.spec_l2Tops := by kernel_rfl
theorem spec_l10Column : prepF Go.Proofs.Try.prog F.spec_l10Column = some C.spec_l10Column := by kernel_rfl
theorem spec_l2Apart : prepF Go.Proofs.Try.prog F.spec_l2Apart = some C.spec_l2Apart := by kernel_rfl
theorem spec_l10Next : prepF Go.Proofs.Try.prog F.spec_l10Next = some C.spec_l10Next := by kernel_rfl
theorem spec_l10Up : prepF Go.Proofs.Try.prog F.spec_l10Up = some C.spec_l10Up := by kernel_rfl
theorem spec_l10Steps : prepF Go.Proofs.Try.prog F.spec_l10Steps = some C.spec_l10Steps := by kernel_rfl
theorem spec_l10Spread : prepF Go.Proofs.Try.prog F.spec_l10Spread = some C.spec_l10Spread := by kernel_rfl
theorem spec_l10Region : prepF Go.Proofs.Try.prog F.spec_l10Region = some C.spec_l10Region := by kernel_rfl
theorem spec_TopRegion : prepF Go.Proofs.Try.prog F.spec_TopRegion = some C.spec_TopRegion := by kernel_rfl
theorem spec_CountRegions : prepF Go.Proofs.Try.prog F.spec_CountRegions = some C.spec_CountRegions := by kernel_rfl
end Go.Ab.K

/- Contracts: the reference's heaps and columns. -/
namespace Go.Ab
open Go
set_option linter.unusedSimpArgs false
set_option linter.unusedVariables false

theorem pick_b {t : Bool} {b : Bool} : (if t then LV.val (Value.bool b) else LV.val (Value.bool false)) = LV.val (Value.bool (t && b)) := by cases t <;> rfl

theorem h_l1In {n lo hi : Int} {M : Mem} : CallsTo PG F.spec_l1In [.I n, .I lo, .I hi] M (.B (decide (lo ≤ n ∧ n ≤ hi))) M := by
  refine calls_run K.spec_l1In rfl ?_
  simp (disch := omega) only [C.spec_l1In, ↓SXd, SXu, slBounds, ↓sop, ↓aop, ↓reduceIte, LV.cells, AOp.dst, LV.I, LV.B, LV.U, LV.S, LV.nil, Nat.reduceEqDiff, Nat.reduceAdd, Nat.reduceMul, Nat.reduceSub, Nat.reduceLeDiff, Nat.reduceBEq, Nat.reduceDiv, Nat.reduceMod, Int.reduceToNat, Int.reduceLT, Int.reduceLE, Int.reduceAdd, Int.reduceSub, Int.reduceMul, Int.reduceEq, Int.reduceNeg, reduceCtorEq, resV, resAll, ARes.ev, LV.flat, ite_true, ite_false, exists_eq_left', exists_eq_left, keyOf, implies_true, fillC]
  by_cases h1 : lo ≤ n
  · simp (disch := omega) only [h1, ↓SXd, SXu, slBounds, ↓sop, ↓aop, ↓reduceIte, LV.cells, AOp.dst, LV.I, LV.B, LV.U, LV.S, LV.nil, Nat.reduceEqDiff, Nat.reduceAdd, Nat.reduceMul, Nat.reduceSub, Nat.reduceLeDiff, Nat.reduceBEq, Nat.reduceDiv, Nat.reduceMod, Int.reduceToNat, Int.reduceLT, Int.reduceLE, Int.reduceAdd, Int.reduceSub, Int.reduceMul, Int.reduceEq, Int.reduceNeg, reduceCtorEq, resV, resAll, ARes.ev, LV.flat, ite_true, ite_false, exists_eq_left', exists_eq_left, keyOf, implies_true, fillC]
    exact cmp_drop0 rfl
  · simp (disch := omega) only [h1, ↓SXd, SXu, slBounds, ↓sop, ↓aop, ↓reduceIte, LV.cells, AOp.dst, LV.I, LV.B, LV.U, LV.S, LV.nil, Nat.reduceEqDiff, Nat.reduceAdd, Nat.reduceMul, Nat.reduceSub, Nat.reduceLeDiff, Nat.reduceBEq, Nat.reduceDiv, Nat.reduceMod, Int.reduceToNat, Int.reduceLT, Int.reduceLE, Int.reduceAdd, Int.reduceSub, Int.reduceMul, Int.reduceEq, Int.reduceNeg, reduceCtorEq, resV, resAll, ARes.ev, LV.flat, ite_true, ite_false, exists_eq_left', exists_eq_left, keyOf, implies_true, fillC]
    exact cmp_drop0 rfl

theorem h_l1Most {a b : Int} {M : Mem} : CallsTo PG F.spec_l1Most [.I a, .I b] M (.I (max a b)) M := by
  refine calls_run K.spec_l1Most rfl ?_
  simp (disch := omega) only [C.spec_l1Most, ↓SXd, SXu, slBounds, ↓sop, ↓aop, ↓reduceIte, LV.cells, AOp.dst, LV.I, LV.B, LV.U, LV.S, LV.nil, Nat.reduceEqDiff, Nat.reduceAdd, Nat.reduceMul, Nat.reduceSub, Nat.reduceLeDiff, Nat.reduceBEq, Nat.reduceDiv, Nat.reduceMod, Int.reduceToNat, Int.reduceLT, Int.reduceLE, Int.reduceAdd, Int.reduceSub, Int.reduceMul, Int.reduceEq, Int.reduceNeg, reduceCtorEq, resV, resAll, ARes.ev, LV.flat, ite_true, ite_false, exists_eq_left', exists_eq_left, keyOf, implies_true, fillC]
  refine condC_dec (fun h => ?_) (fun h => ?_) <;> simp (disch := omega) only [↓SXd, SXu, slBounds, ↓sop, ↓aop, ↓reduceIte, LV.cells, AOp.dst, LV.I, LV.B, LV.U, LV.S, LV.nil, Nat.reduceEqDiff, Nat.reduceAdd, Nat.reduceMul, Nat.reduceSub, Nat.reduceLeDiff, Nat.reduceBEq, Nat.reduceDiv, Nat.reduceMod, Int.reduceToNat, Int.reduceLT, Int.reduceLE, Int.reduceAdd, Int.reduceSub, Int.reduceMul, Int.reduceEq, Int.reduceNeg, reduceCtorEq, resV, resAll, ARes.ev, LV.flat, ite_true, ite_false, exists_eq_left', exists_eq_left, keyOf, implies_true, fillC]
  · rw [show max a b = a by omega]; exact cmp_drop0 rfl
  · rw [show max a b = b by omega]; exact cmp_drop0 rfl

theorem h_l2Sides {x y z : Int} {M : Mem} : CallsTo PG F.spec_l2Sides [.I x, .I y, .I z] M (.B (decide (Sides x y z))) M := by
  refine calls_run K.spec_l2Sides rfl ?_
  simp (disch := omega) only [C.spec_l2Sides, ↓SXd, SXu, slBounds, ↓sop, ↓aop, ↓reduceIte, LV.cells, AOp.dst, LV.I, LV.B, LV.U, LV.S, LV.nil, Nat.reduceEqDiff, Nat.reduceAdd, Nat.reduceMul, Nat.reduceSub, Nat.reduceLeDiff, Nat.reduceBEq, Nat.reduceDiv, Nat.reduceMod, Int.reduceToNat, Int.reduceLT, Int.reduceLE, Int.reduceAdd, Int.reduceSub, Int.reduceMul, Int.reduceEq, Int.reduceNeg, reduceCtorEq, resV, resAll, ARes.ev, LV.flat, ite_true, ite_false, exists_eq_left', exists_eq_left, keyOf, implies_true, fillC]
  refine callK_of h_l1In ?_
  simp (disch := omega) only [↓SXd, SXu, slBounds, ↓sop, ↓aop, ↓reduceIte, LV.cells, AOp.dst, LV.I, LV.B, LV.U, LV.S, LV.nil, Nat.reduceEqDiff, Nat.reduceAdd, Nat.reduceMul, Nat.reduceSub, Nat.reduceLeDiff, Nat.reduceBEq, Nat.reduceDiv, Nat.reduceMod, Int.reduceToNat, Int.reduceLT, Int.reduceLE, Int.reduceAdd, Int.reduceSub, Int.reduceMul, Int.reduceEq, Int.reduceNeg, reduceCtorEq, resV, resAll, ARes.ev, LV.flat, ite_true, ite_false, exists_eq_left', exists_eq_left, keyOf, implies_true, fillC]
  unfold Sides
  by_cases h1 : 1 ≤ x ∧ x ≤ 4
  · simp (disch := omega) only [h1, ↓SXd, SXu, slBounds, ↓sop, ↓aop, ↓reduceIte, LV.cells, AOp.dst, LV.I, LV.B, LV.U, LV.S, LV.nil, Nat.reduceEqDiff, Nat.reduceAdd, Nat.reduceMul, Nat.reduceSub, Nat.reduceLeDiff, Nat.reduceBEq, Nat.reduceDiv, Nat.reduceMod, Int.reduceToNat, Int.reduceLT, Int.reduceLE, Int.reduceAdd, Int.reduceSub, Int.reduceMul, Int.reduceEq, Int.reduceNeg, reduceCtorEq, resV, resAll, ARes.ev, LV.flat, ite_true, ite_false, exists_eq_left', exists_eq_left, keyOf, implies_true, fillC]
    refine callK_of h_l1In ?_
    simp (disch := omega) only [↓SXd, SXu, slBounds, ↓sop, ↓aop, ↓reduceIte, LV.cells, AOp.dst, LV.I, LV.B, LV.U, LV.S, LV.nil, Nat.reduceEqDiff, Nat.reduceAdd, Nat.reduceMul, Nat.reduceSub, Nat.reduceLeDiff, Nat.reduceBEq, Nat.reduceDiv, Nat.reduceMod, Int.reduceToNat, Int.reduceLT, Int.reduceLE, Int.reduceAdd, Int.reduceSub, Int.reduceMul, Int.reduceEq, Int.reduceNeg, reduceCtorEq, resV, resAll, ARes.ev, LV.flat, ite_true, ite_false, exists_eq_left', exists_eq_left, keyOf, implies_true, fillC]
    by_cases h2 : 1 ≤ y ∧ y ≤ 4
    · simp (disch := omega) only [h2, ↓SXd, SXu, slBounds, ↓sop, ↓aop, ↓reduceIte, LV.cells, AOp.dst, LV.I, LV.B, LV.U, LV.S, LV.nil, Nat.reduceEqDiff, Nat.reduceAdd, Nat.reduceMul, Nat.reduceSub, Nat.reduceLeDiff, Nat.reduceBEq, Nat.reduceDiv, Nat.reduceMod, Int.reduceToNat, Int.reduceLT, Int.reduceLE, Int.reduceAdd, Int.reduceSub, Int.reduceMul, Int.reduceEq, Int.reduceNeg, reduceCtorEq, resV, resAll, ARes.ev, LV.flat, ite_true, ite_false, exists_eq_left', exists_eq_left, keyOf, implies_true, fillC]
      refine callK_of h_l1In ?_
      simp (disch := omega) only [↓SXd, SXu, slBounds, ↓sop, ↓aop, ↓reduceIte, LV.cells, AOp.dst, LV.I, LV.B, LV.U, LV.S, LV.nil, Nat.reduceEqDiff, Nat.reduceAdd, Nat.reduceMul, Nat.reduceSub, Nat.reduceLeDiff, Nat.reduceBEq, Nat.reduceDiv, Nat.reduceMod, Int.reduceToNat, Int.reduceLT, Int.reduceLE, Int.reduceAdd, Int.reduceSub, Int.reduceMul, Int.reduceEq, Int.reduceNeg, reduceCtorEq, resV, resAll, ARes.ev, LV.flat, ite_true, ite_false, exists_eq_left', exists_eq_left, keyOf, implies_true, fillC]
      exact cmp_drop0 rfl
    · simp (disch := omega) only [h2, false_and, ↓SXd, SXu, slBounds, ↓sop, ↓aop, ↓reduceIte, LV.cells, AOp.dst, LV.I, LV.B, LV.U, LV.S, LV.nil, Nat.reduceEqDiff, Nat.reduceAdd, Nat.reduceMul, Nat.reduceSub, Nat.reduceLeDiff, Nat.reduceBEq, Nat.reduceDiv, Nat.reduceMod, Int.reduceToNat, Int.reduceLT, Int.reduceLE, Int.reduceAdd, Int.reduceSub, Int.reduceMul, Int.reduceEq, Int.reduceNeg, reduceCtorEq, resV, resAll, ARes.ev, LV.flat, ite_true, ite_false, exists_eq_left', exists_eq_left, keyOf, implies_true, fillC]
      exact cmp_drop0 rfl
  · simp (disch := omega) only [h1, false_and, ↓SXd, SXu, slBounds, ↓sop, ↓aop, ↓reduceIte, LV.cells, AOp.dst, LV.I, LV.B, LV.U, LV.S, LV.nil, Nat.reduceEqDiff, Nat.reduceAdd, Nat.reduceMul, Nat.reduceSub, Nat.reduceLeDiff, Nat.reduceBEq, Nat.reduceDiv, Nat.reduceMod, Int.reduceToNat, Int.reduceLT, Int.reduceLE, Int.reduceAdd, Int.reduceSub, Int.reduceMul, Int.reduceEq, Int.reduceNeg, reduceCtorEq, resV, resAll, ARes.ev, LV.flat, ite_true, ite_false, exists_eq_left', exists_eq_left, keyOf, implies_true, fillC]
    exact cmp_drop0 rfl

theorem h_l2Before {a b c a' b' c' : Int} {M : Mem} : CallsTo PG F.spec_l2Before [.agg [.I a, .I b, .I c], .agg [.I a', .I b', .I c']] M (.B (decide (Cell.lt ⟨a, b, c⟩ ⟨a', b', c'⟩))) M := by
  refine calls_run K.spec_l2Before rfl ?_
  simp (disch := omega) only [C.spec_l2Before, ↓SXd, SXu, slBounds, ↓sop, ↓aop, ↓reduceIte, LV.cells, AOp.dst, LV.I, LV.B, LV.U, LV.S, LV.nil, Nat.reduceEqDiff, Nat.reduceAdd, Nat.reduceMul, Nat.reduceSub, Nat.reduceLeDiff, Nat.reduceBEq, Nat.reduceDiv, Nat.reduceMod, Int.reduceToNat, Int.reduceLT, Int.reduceLE, Int.reduceAdd, Int.reduceSub, Int.reduceMul, Int.reduceEq, Int.reduceNeg, reduceCtorEq, resV, resAll, ARes.ev, LV.flat, ite_true, ite_false, exists_eq_left', exists_eq_left, keyOf, implies_true, fillC]
  refine ev_loop (fun m fr M' => ∃ k : Nat, k + m = 3 ∧ M' = M ++ [some (Blk.row [.I a, .I b, .I c] true 0), some (Blk.row [.I a', .I b', .I c'] true 0)] ∧ fr 2 = .ptr M.length 0 ∧ fr 3 = .ptr (M.length + 1) 0 ∧ fr 5 = .I k ∧
    (0 < k → a = a') ∧ (1 < k → b = b') ∧ (2 < k → c = c')) 3 ⟨0, rfl, rfl, rfl, rfl, rfl, by omega, by omega, by omega⟩ ?_
  rintro m fr M' ⟨k, hk, rfl, h2, h3, h5, ha, hb, hc⟩
  simp (disch := omega) only [h2, h3, h5, ↓SXd, SXu, slBounds, ↓sop, ↓aop, ↓reduceIte, LV.cells, AOp.dst, LV.I, LV.B, LV.U, LV.S, LV.nil, Nat.reduceEqDiff, Nat.reduceAdd, Nat.reduceMul, Nat.reduceSub, Nat.reduceLeDiff, Nat.reduceBEq, Nat.reduceDiv, Nat.reduceMod, Int.reduceToNat, Int.reduceLT, Int.reduceLE, Int.reduceAdd, Int.reduceSub, Int.reduceMul, Int.reduceEq, Int.reduceNeg, reduceCtorEq, resV, resAll, ARes.ev, LV.flat, ite_true, ite_false, exists_eq_left', exists_eq_left, keyOf, implies_true, fillC]
  refine condC_dec (fun hlt => ?_) (fun hlt => ?_)
  · have hk3 : k = 0 ∨ k = 1 ∨ k = 2 := by omega
    rcases hk3 with rfl | rfl | rfl
    all_goals
      simp (disch := omega) only [h2, h3, h5, ↓SXd, SXu, slBounds, ↓sop, ↓aop, ↓reduceIte, LV.cells, AOp.dst, LV.I, LV.B, LV.U, LV.S, LV.nil, Nat.reduceEqDiff, Nat.reduceAdd, Nat.reduceMul, Nat.reduceSub, Nat.reduceLeDiff, Nat.reduceBEq, Nat.reduceDiv, Nat.reduceMod, Int.reduceToNat, Int.reduceLT, Int.reduceLE, Int.reduceAdd, Int.reduceSub, Int.reduceMul, Int.reduceEq, Int.reduceNeg, reduceCtorEq, resV, resAll, ARes.ev, LV.flat, ite_true, ite_false, exists_eq_left', exists_eq_left, keyOf, implies_true, fillC]
      refine condC_dec (fun he => ?_) (fun he => ?_)
      · simp (disch := omega) only [h2, h3, h5, ↓SXd, SXu, slBounds, ↓sop, ↓aop, ↓reduceIte, LV.cells, AOp.dst, LV.I, LV.B, LV.U, LV.S, LV.nil, Nat.reduceEqDiff, Nat.reduceAdd, Nat.reduceMul, Nat.reduceSub, Nat.reduceLeDiff, Nat.reduceBEq, Nat.reduceDiv, Nat.reduceMod, Int.reduceToNat, Int.reduceLT, Int.reduceLE, Int.reduceAdd, Int.reduceSub, Int.reduceMul, Int.reduceEq, Int.reduceNeg, reduceCtorEq, resV, resAll, ARes.ev, LV.flat, ite_true, ite_false, exists_eq_left', exists_eq_left, keyOf, implies_true, fillC]
        exact ⟨m - 1, by omega, _, by omega, rfl, h2, h3, eqI (natI _), by omega, by omega, by omega⟩
      · simp (disch := omega) only [h2, h3, h5, ↓SXd, SXu, slBounds, ↓sop, ↓aop, ↓reduceIte, LV.cells, AOp.dst, LV.I, LV.B, LV.U, LV.S, LV.nil, Nat.reduceEqDiff, Nat.reduceAdd, Nat.reduceMul, Nat.reduceSub, Nat.reduceLeDiff, Nat.reduceBEq, Nat.reduceDiv, Nat.reduceMod, Int.reduceToNat, Int.reduceLT, Int.reduceLE, Int.reduceAdd, Int.reduceSub, Int.reduceMul, Int.reduceEq, Int.reduceNeg, reduceCtorEq, resV, resAll, ARes.ev, LV.flat, ite_true, ite_false, exists_eq_left', exists_eq_left, keyOf, implies_true, fillC]
        exact cmp_dropB (by simp only [Cell.lt]; omega)
  · simp (disch := omega) only [h2, h3, h5, ↓SXd, SXu, slBounds, ↓sop, ↓aop, ↓reduceIte, LV.cells, AOp.dst, LV.I, LV.B, LV.U, LV.S, LV.nil, Nat.reduceEqDiff, Nat.reduceAdd, Nat.reduceMul, Nat.reduceSub, Nat.reduceLeDiff, Nat.reduceBEq, Nat.reduceDiv, Nat.reduceMod, Int.reduceToNat, Int.reduceLT, Int.reduceLE, Int.reduceAdd, Int.reduceSub, Int.reduceMul, Int.reduceEq, Int.reduceNeg, reduceCtorEq, resV, resAll, ARes.ev, LV.flat, ite_true, ite_false, exists_eq_left', exists_eq_left, keyOf, implies_true, fillC]
    exact cmp_dropF (by simp only [Cell.lt]; omega)

theorem h_l2In {x y z a b c : Int} {v : LV} {M : Mem} (hS : Sides x y z) : CallsTo PG F.spec_l2In [.agg [.I x, .I y, .I z, v], .agg [.I a, .I b, .I c]] M (.B (decide (Cell.inBox x y z ⟨a, b, c⟩))) M := by
  obtain ⟨hx, hy, hz⟩ := hS
  refine calls_run K.spec_l2In rfl ?_
  simp (disch := omega) only [C.spec_l2In, ↓SXd, SXu, slBounds, ↓sop, ↓aop, ↓reduceIte, LV.cells, AOp.dst, LV.I, LV.B, LV.U, LV.S, LV.nil, Nat.reduceEqDiff, Nat.reduceAdd, Nat.reduceMul, Nat.reduceSub, Nat.reduceLeDiff, Nat.reduceBEq, Nat.reduceDiv, Nat.reduceMod, Int.reduceToNat, Int.reduceLT, Int.reduceLE, Int.reduceAdd, Int.reduceSub, Int.reduceMul, Int.reduceEq, Int.reduceNeg, reduceCtorEq, resV, resAll, ARes.ev, LV.flat, ite_true, ite_false, exists_eq_left', exists_eq_left, keyOf, implies_true, fillC]
  refine callK_of h_l1In ?_
  simp (disch := omega) only [↓SXd, SXu, slBounds, ↓sop, ↓aop, ↓reduceIte, LV.cells, AOp.dst, LV.I, LV.B, LV.U, LV.S, LV.nil, Nat.reduceEqDiff, Nat.reduceAdd, Nat.reduceMul, Nat.reduceSub, Nat.reduceLeDiff, Nat.reduceBEq, Nat.reduceDiv, Nat.reduceMod, Int.reduceToNat, Int.reduceLT, Int.reduceLE, Int.reduceAdd, Int.reduceSub, Int.reduceMul, Int.reduceEq, Int.reduceNeg, reduceCtorEq, resV, resAll, ARes.ev, LV.flat, ite_true, ite_false, exists_eq_left', exists_eq_left, keyOf, implies_true, fillC]
  unfold Cell.inBox
  by_cases h1 : 0 ≤ a ∧ a ≤ x - 1
  · simp (disch := omega) only [h1, ↓SXd, SXu, slBounds, ↓sop, ↓aop, ↓reduceIte, LV.cells, AOp.dst, LV.I, LV.B, LV.U, LV.S, LV.nil, Nat.reduceEqDiff, Nat.reduceAdd, Nat.reduceMul, Nat.reduceSub, Nat.reduceLeDiff, Nat.reduceBEq, Nat.reduceDiv, Nat.reduceMod, Int.reduceToNat, Int.reduceLT, Int.reduceLE, Int.reduceAdd, Int.reduceSub, Int.reduceMul, Int.reduceEq, Int.reduceNeg, reduceCtorEq, resV, resAll, ARes.ev, LV.flat, ite_true, ite_false, exists_eq_left', exists_eq_left, keyOf, implies_true, fillC]
    refine callK_of h_l1In ?_
    simp (disch := omega) only [↓SXd, SXu, slBounds, ↓sop, ↓aop, ↓reduceIte, LV.cells, AOp.dst, LV.I, LV.B, LV.U, LV.S, LV.nil, Nat.reduceEqDiff, Nat.reduceAdd, Nat.reduceMul, Nat.reduceSub, Nat.reduceLeDiff, Nat.reduceBEq, Nat.reduceDiv, Nat.reduceMod, Int.reduceToNat, Int.reduceLT, Int.reduceLE, Int.reduceAdd, Int.reduceSub, Int.reduceMul, Int.reduceEq, Int.reduceNeg, reduceCtorEq, resV, resAll, ARes.ev, LV.flat, ite_true, ite_false, exists_eq_left', exists_eq_left, keyOf, implies_true, fillC]
    by_cases h2 : 0 ≤ b ∧ b ≤ y - 1
    · simp (disch := omega) only [h2, ↓SXd, SXu, slBounds, ↓sop, ↓aop, ↓reduceIte, LV.cells, AOp.dst, LV.I, LV.B, LV.U, LV.S, LV.nil, Nat.reduceEqDiff, Nat.reduceAdd, Nat.reduceMul, Nat.reduceSub, Nat.reduceLeDiff, Nat.reduceBEq, Nat.reduceDiv, Nat.reduceMod, Int.reduceToNat, Int.reduceLT, Int.reduceLE, Int.reduceAdd, Int.reduceSub, Int.reduceMul, Int.reduceEq, Int.reduceNeg, reduceCtorEq, resV, resAll, ARes.ev, LV.flat, ite_true, ite_false, exists_eq_left', exists_eq_left, keyOf, implies_true, fillC]
      refine callK_of h_l1In ?_
      simp (disch := omega) only [↓SXd, SXu, slBounds, ↓sop, ↓aop, ↓reduceIte, LV.cells, AOp.dst, LV.I, LV.B, LV.U, LV.S, LV.nil, Nat.reduceEqDiff, Nat.reduceAdd, Nat.reduceMul, Nat.reduceSub, Nat.reduceLeDiff, Nat.reduceBEq, Nat.reduceDiv, Nat.reduceMod, Int.reduceToNat, Int.reduceLT, Int.reduceLE, Int.reduceAdd, Int.reduceSub, Int.reduceMul, Int.reduceEq, Int.reduceNeg, reduceCtorEq, resV, resAll, ARes.ev, LV.flat, ite_true, ite_false, exists_eq_left', exists_eq_left, keyOf, implies_true, fillC]
      exact cmp_drop rfl
    · simp (disch := omega) only [h2, false_and, ↓SXd, SXu, slBounds, ↓sop, ↓aop, ↓reduceIte, LV.cells, AOp.dst, LV.I, LV.B, LV.U, LV.S, LV.nil, Nat.reduceEqDiff, Nat.reduceAdd, Nat.reduceMul, Nat.reduceSub, Nat.reduceLeDiff, Nat.reduceBEq, Nat.reduceDiv, Nat.reduceMod, Int.reduceToNat, Int.reduceLT, Int.reduceLE, Int.reduceAdd, Int.reduceSub, Int.reduceMul, Int.reduceEq, Int.reduceNeg, reduceCtorEq, resV, resAll, ARes.ev, LV.flat, ite_true, ite_false, exists_eq_left', exists_eq_left, keyOf, implies_true, fillC]
      exact cmp_drop rfl
  · simp (disch := omega) only [h1, false_and, ↓SXd, SXu, slBounds, ↓sop, ↓aop, ↓reduceIte, LV.cells, AOp.dst, LV.I, LV.B, LV.U, LV.S, LV.nil, Nat.reduceEqDiff, Nat.reduceAdd, Nat.reduceMul, Nat.reduceSub, Nat.reduceLeDiff, Nat.reduceBEq, Nat.reduceDiv, Nat.reduceMod, Int.reduceToNat, Int.reduceLT, Int.reduceLE, Int.reduceAdd, Int.reduceSub, Int.reduceMul, Int.reduceEq, Int.reduceNeg, reduceCtorEq, resV, resAll, ARes.ev, LV.flat, ite_true, ite_false, exists_eq_left', exists_eq_left, keyOf, implies_true, fillC]
    exact cmp_drop rfl
end Go.Ab

/- Contracts: the reference's valid heaps, heights, columns. -/
namespace Go.Ab
open Go
set_option linter.unusedSimpArgs false
set_option linter.unusedVariables false

theorem h_l2Heap {x y z : Int} {t o : Nat} {cs : List Cell} {M : Mem} (h : Tri M t o cs) (hn : cs.length ≤ 1000000000) :
    CallsTo PG F.spec_l2Heap [.agg [.I x, .I y, .I z, .ref t o cs.length]] M (.B (decide (HeapOK x y z cs))) M := by
  refine calls_run K.spec_l2Heap rfl ?_
  simp (disch := omega) only [C.spec_l2Heap, ↓SXd, SXu, slBounds, ↓sop, ↓aop, ↓reduceIte, LV.cells, AOp.dst, LV.I, LV.B, LV.U, LV.S, LV.nil, Nat.reduceEqDiff, Nat.reduceAdd, Nat.reduceMul, Nat.reduceSub, Nat.reduceLeDiff, Nat.reduceBEq, Nat.reduceDiv, Nat.reduceMod, Int.reduceToNat, Int.reduceLT, Int.reduceLE, Int.reduceAdd, Int.reduceSub, Int.reduceMul, Int.reduceEq, Int.reduceNeg, reduceCtorEq, resV, resAll, ARes.ev, LV.flat, ite_true, ite_false, exists_eq_left', exists_eq_left, keyOf, implies_true, fillC]
  refine callK_of h_l2Sides ?_
  simp (disch := omega) only [↓SXd, SXu, slBounds, ↓sop, ↓aop, ↓reduceIte, LV.cells, AOp.dst, LV.I, LV.B, LV.U, LV.S, LV.nil, Nat.reduceEqDiff, Nat.reduceAdd, Nat.reduceMul, Nat.reduceSub, Nat.reduceLeDiff, Nat.reduceBEq, Nat.reduceDiv, Nat.reduceMod, Int.reduceToNat, Int.reduceLT, Int.reduceLE, Int.reduceAdd, Int.reduceSub, Int.reduceMul, Int.reduceEq, Int.reduceNeg, reduceCtorEq, resV, resAll, ARes.ev, LV.flat, ite_true, ite_false, exists_eq_left', exists_eq_left, keyOf, implies_true, fillC]
  by_cases hS : Sides x y z
  · simp (disch := omega) only [hS, ↓SXd, SXu, slBounds, ↓sop, ↓aop, ↓reduceIte, LV.cells, AOp.dst, LV.I, LV.B, LV.U, LV.S, LV.nil, Nat.reduceEqDiff, Nat.reduceAdd, Nat.reduceMul, Nat.reduceSub, Nat.reduceLeDiff, Nat.reduceBEq, Nat.reduceDiv, Nat.reduceMod, Int.reduceToNat, Int.reduceLT, Int.reduceLE, Int.reduceAdd, Int.reduceSub, Int.reduceMul, Int.reduceEq, Int.reduceNeg, reduceCtorEq, resV, resAll, ARes.ev, LV.flat, ite_true, ite_false, exists_eq_left', exists_eq_left, keyOf, implies_true, fillC]
    refine ev_loop (fun m fr M' => ∃ k : Nat, k + m = cs.length ∧ M' = M ++ [some (Blk.row [.I x, .I y, .I z, .ref t o cs.length] true 0)] ∧ fr 1 = .ptr M.length 0 ∧ fr 3 = .I k ∧
      ∀ j, j < k → (cs.getD j default).inBox x y z ∧ (0 < j → (cs.getD (j - 1) default).lt (cs.getD j default))) cs.length ⟨0, by omega, rfl, rfl, rfl, by omega⟩ ?_
    rintro m fr M' ⟨k, hk, rfl, h1, h3, hj⟩
    have ht := h.lt
    simp (disch := omega) only [h1, h3, ↓SXd, SXu, slBounds, ↓sop, ↓aop, ↓reduceIte, LV.cells, AOp.dst, LV.I, LV.B, LV.U, LV.S, LV.nil, Nat.reduceEqDiff, Nat.reduceAdd, Nat.reduceMul, Nat.reduceSub, Nat.reduceLeDiff, Nat.reduceBEq, Nat.reduceDiv, Nat.reduceMod, Int.reduceToNat, Int.reduceLT, Int.reduceLE, Int.reduceAdd, Int.reduceSub, Int.reduceMul, Int.reduceEq, Int.reduceNeg, reduceCtorEq, resV, resAll, ARes.ev, LV.flat, ite_true, ite_false, exists_eq_left', exists_eq_left, keyOf, implies_true, fillC]
    refine condC_dec (fun hlt => ?_) (fun hlt => ?_)
    · simp (disch := omega) only [h1, h3, getCells_app, h.get, Cell.row, ↓SXd, SXu, slBounds, ↓sop, ↓aop, ↓reduceIte, LV.cells, AOp.dst, LV.I, LV.B, LV.U, LV.S, LV.nil, Nat.reduceEqDiff, Nat.reduceAdd, Nat.reduceMul, Nat.reduceSub, Nat.reduceLeDiff, Nat.reduceBEq, Nat.reduceDiv, Nat.reduceMod, Int.reduceToNat, Int.reduceLT, Int.reduceLE, Int.reduceAdd, Int.reduceSub, Int.reduceMul, Int.reduceEq, Int.reduceNeg, reduceCtorEq, resV, resAll, ARes.ev, LV.flat, ite_true, ite_false, exists_eq_left', exists_eq_left, keyOf, implies_true, fillC]
      refine callK_of (h_l2In hS) ?_
      simp (disch := omega) only [h1, h3, getCells_app, h.get, Cell.row, cell_eta, ↓SXd, SXu, slBounds, ↓sop, ↓aop, ↓reduceIte, LV.cells, AOp.dst, LV.I, LV.B, LV.U, LV.S, LV.nil, Nat.reduceEqDiff, Nat.reduceAdd, Nat.reduceMul, Nat.reduceSub, Nat.reduceLeDiff, Nat.reduceBEq, Nat.reduceDiv, Nat.reduceMod, Int.reduceToNat, Int.reduceLT, Int.reduceLE, Int.reduceAdd, Int.reduceSub, Int.reduceMul, Int.reduceEq, Int.reduceNeg, reduceCtorEq, resV, resAll, ARes.ev, LV.flat, ite_true, ite_false, exists_eq_left', exists_eq_left, keyOf, implies_true, fillC]
      by_cases hin : (cs.getD k default).inBox x y z
      · simp (disch := omega) only [hin, h1, h3, getCells_app, h.get, Cell.row, cell_eta, ↓SXd, SXu, slBounds, ↓sop, ↓aop, ↓reduceIte, LV.cells, AOp.dst, LV.I, LV.B, LV.U, LV.S, LV.nil, Nat.reduceEqDiff, Nat.reduceAdd, Nat.reduceMul, Nat.reduceSub, Nat.reduceLeDiff, Nat.reduceBEq, Nat.reduceDiv, Nat.reduceMod, Int.reduceToNat, Int.reduceLT, Int.reduceLE, Int.reduceAdd, Int.reduceSub, Int.reduceMul, Int.reduceEq, Int.reduceNeg, reduceCtorEq, resV, resAll, ARes.ev, LV.flat, ite_true, ite_false, exists_eq_left', exists_eq_left, keyOf, implies_true, fillC]
        by_cases hk0 : k = 0
        · subst hk0
          simp (disch := omega) only [h1, h3, getCells_app, h.get, Cell.row, cell_eta, Int.natCast_zero, gt_iff_lt, Int.lt_irrefl, ↓SXd, SXu, slBounds, ↓sop, ↓aop, ↓reduceIte, LV.cells, AOp.dst, LV.I, LV.B, LV.U, LV.S, LV.nil, Nat.reduceEqDiff, Nat.reduceAdd, Nat.reduceMul, Nat.reduceSub, Nat.reduceLeDiff, Nat.reduceBEq, Nat.reduceDiv, Nat.reduceMod, Int.reduceToNat, Int.reduceLT, Int.reduceLE, Int.reduceAdd, Int.reduceSub, Int.reduceMul, Int.reduceEq, Int.reduceNeg, reduceCtorEq, resV, resAll, ARes.ev, LV.flat, ite_true, ite_false, exists_eq_left', exists_eq_left, keyOf, implies_true, fillC]
          exact ⟨m - 1, by omega, 1, by omega, rfl, h1, rfl, fun j hj1 => by
            have : j = 0 := by omega
            subst this
            exact ⟨hin, by omega⟩⟩
        · have e1 : ((k : Int) - 1).toNat = k - 1 := by omega
          have e2 : (0 : Int) < k := by omega
          simp (disch := omega) only [h1, h3, getCells_app, h.get, Cell.row, cell_eta, e1, e2, ↓SXd, SXu, slBounds, ↓sop, ↓aop, ↓reduceIte, LV.cells, AOp.dst, LV.I, LV.B, LV.U, LV.S, LV.nil, Nat.reduceEqDiff, Nat.reduceAdd, Nat.reduceMul, Nat.reduceSub, Nat.reduceLeDiff, Nat.reduceBEq, Nat.reduceDiv, Nat.reduceMod, Int.reduceToNat, Int.reduceLT, Int.reduceLE, Int.reduceAdd, Int.reduceSub, Int.reduceMul, Int.reduceEq, Int.reduceNeg, reduceCtorEq, resV, resAll, ARes.ev, LV.flat, ite_true, ite_false, exists_eq_left', exists_eq_left, keyOf, implies_true, fillC]
          refine callK_of h_l2Before ?_
          simp (disch := omega) only [h1, h3, cell_eta, ↓SXd, SXu, slBounds, ↓sop, ↓aop, ↓reduceIte, LV.cells, AOp.dst, LV.I, LV.B, LV.U, LV.S, LV.nil, Nat.reduceEqDiff, Nat.reduceAdd, Nat.reduceMul, Nat.reduceSub, Nat.reduceLeDiff, Nat.reduceBEq, Nat.reduceDiv, Nat.reduceMod, Int.reduceToNat, Int.reduceLT, Int.reduceLE, Int.reduceAdd, Int.reduceSub, Int.reduceMul, Int.reduceEq, Int.reduceNeg, reduceCtorEq, resV, resAll, ARes.ev, LV.flat, ite_true, ite_false, exists_eq_left', exists_eq_left, keyOf, implies_true, fillC]
          by_cases hb : (cs.getD (k - 1) default).lt (cs.getD k default)
          · simp (disch := omega) only [hb, h1, h3, ↓SXd, SXu, slBounds, ↓sop, ↓aop, ↓reduceIte, LV.cells, AOp.dst, LV.I, LV.B, LV.U, LV.S, LV.nil, Nat.reduceEqDiff, Nat.reduceAdd, Nat.reduceMul, Nat.reduceSub, Nat.reduceLeDiff, Nat.reduceBEq, Nat.reduceDiv, Nat.reduceMod, Int.reduceToNat, Int.reduceLT, Int.reduceLE, Int.reduceAdd, Int.reduceSub, Int.reduceMul, Int.reduceEq, Int.reduceNeg, reduceCtorEq, resV, resAll, ARes.ev, LV.flat, ite_true, ite_false, exists_eq_left', exists_eq_left, keyOf, implies_true, fillC]
            exact ⟨m - 1, by omega, k + 1, by omega, rfl, h1, eqI (natI _), fun j hj1 => by
              by_cases hjk : j = k
              · subst hjk; exact ⟨hin, fun _ => hb⟩
              · exact hj j (by omega)⟩
          · simp (disch := omega) only [hb, h1, h3, ↓SXd, SXu, slBounds, ↓sop, ↓aop, ↓reduceIte, LV.cells, AOp.dst, LV.I, LV.B, LV.U, LV.S, LV.nil, Nat.reduceEqDiff, Nat.reduceAdd, Nat.reduceMul, Nat.reduceSub, Nat.reduceLeDiff, Nat.reduceBEq, Nat.reduceDiv, Nat.reduceMod, Int.reduceToNat, Int.reduceLT, Int.reduceLE, Int.reduceAdd, Int.reduceSub, Int.reduceMul, Int.reduceEq, Int.reduceNeg, reduceCtorEq, resV, resAll, ARes.ev, LV.flat, ite_true, ite_false, exists_eq_left', exists_eq_left, keyOf, implies_true, fillC]
            exact cmp_dropF fun hh => hb ((hh.2 k (by omega)).2 (by omega))
      · simp (disch := omega) only [hin, h1, h3, ↓SXd, SXu, slBounds, ↓sop, ↓aop, ↓reduceIte, LV.cells, AOp.dst, LV.I, LV.B, LV.U, LV.S, LV.nil, Nat.reduceEqDiff, Nat.reduceAdd, Nat.reduceMul, Nat.reduceSub, Nat.reduceLeDiff, Nat.reduceBEq, Nat.reduceDiv, Nat.reduceMod, Int.reduceToNat, Int.reduceLT, Int.reduceLE, Int.reduceAdd, Int.reduceSub, Int.reduceMul, Int.reduceEq, Int.reduceNeg, reduceCtorEq, resV, resAll, ARes.ev, LV.flat, ite_true, ite_false, exists_eq_left', exists_eq_left, keyOf, implies_true, fillC]
        exact cmp_dropF fun hh => hin (hh.2 k (by omega)).1
    · simp (disch := omega) only [h1, h3, ↓SXd, SXu, slBounds, ↓sop, ↓aop, ↓reduceIte, LV.cells, AOp.dst, LV.I, LV.B, LV.U, LV.S, LV.nil, Nat.reduceEqDiff, Nat.reduceAdd, Nat.reduceMul, Nat.reduceSub, Nat.reduceLeDiff, Nat.reduceBEq, Nat.reduceDiv, Nat.reduceMod, Int.reduceToNat, Int.reduceLT, Int.reduceLE, Int.reduceAdd, Int.reduceSub, Int.reduceMul, Int.reduceEq, Int.reduceNeg, reduceCtorEq, resV, resAll, ARes.ev, LV.flat, ite_true, ite_false, exists_eq_left', exists_eq_left, keyOf, implies_true, fillC]
      exact cmp_dropT ⟨hS, fun j hj1 => hj j (by omega)⟩
  · simp (disch := omega) only [hS, ↓SXd, SXu, slBounds, ↓sop, ↓aop, ↓reduceIte, LV.cells, AOp.dst, LV.I, LV.B, LV.U, LV.S, LV.nil, Nat.reduceEqDiff, Nat.reduceAdd, Nat.reduceMul, Nat.reduceSub, Nat.reduceLeDiff, Nat.reduceBEq, Nat.reduceDiv, Nat.reduceMod, Int.reduceToNat, Int.reduceLT, Int.reduceLE, Int.reduceAdd, Int.reduceSub, Int.reduceMul, Int.reduceEq, Int.reduceNeg, reduceCtorEq, resV, resAll, ARes.ev, LV.flat, ite_true, ite_false, exists_eq_left', exists_eq_left, keyOf, implies_true, fillC]
    exact cmp_dropF fun hh => hS hh.1

theorem h_l10Column {x y z p : Int} {t o : Nat} {cs : List Cell} {M : Mem} (h : Tri M t o cs) (hn : cs.length ≤ 1000000000) :
    CallsTo PG F.spec_l10Column [.agg [.I x, .I y, .I z, .ref t o cs.length], .I p] M (.B (decide (HeapOK x y z cs ∧ (0 ≤ p ∧ p ≤ x * y - 1)))) M := by
  refine calls_run K.spec_l10Column rfl ?_
  simp (disch := omega) only [C.spec_l10Column, ↓SXd, SXu, slBounds, ↓sop, ↓aop, ↓reduceIte, LV.cells, AOp.dst, LV.I, LV.B, LV.U, LV.S, LV.nil, Nat.reduceEqDiff, Nat.reduceAdd, Nat.reduceMul, Nat.reduceSub, Nat.reduceLeDiff, Nat.reduceBEq, Nat.reduceDiv, Nat.reduceMod, Int.reduceToNat, Int.reduceLT, Int.reduceLE, Int.reduceAdd, Int.reduceSub, Int.reduceMul, Int.reduceEq, Int.reduceNeg, reduceCtorEq, resV, resAll, ARes.ev, LV.flat, ite_true, ite_false, exists_eq_left', exists_eq_left, keyOf, implies_true, fillC]
  refine callK_of (h_l2Heap h.app hn) ?_
  by_cases hH : HeapOK x y z cs
  · have hb := mul_bound hH.1.1 hH.1.2.1
    simp (disch := omega) only [hH, ↓SXd, SXu, slBounds, ↓sop, ↓aop, ↓reduceIte, LV.cells, AOp.dst, LV.I, LV.B, LV.U, LV.S, LV.nil, Nat.reduceEqDiff, Nat.reduceAdd, Nat.reduceMul, Nat.reduceSub, Nat.reduceLeDiff, Nat.reduceBEq, Nat.reduceDiv, Nat.reduceMod, Int.reduceToNat, Int.reduceLT, Int.reduceLE, Int.reduceAdd, Int.reduceSub, Int.reduceMul, Int.reduceEq, Int.reduceNeg, reduceCtorEq, resV, resAll, ARes.ev, LV.flat, ite_true, ite_false, exists_eq_left', exists_eq_left, keyOf, implies_true, fillC]
    refine callK_of h_l1In ?_
    simp (disch := omega) only [hH, ↓SXd, SXu, slBounds, ↓sop, ↓aop, ↓reduceIte, LV.cells, AOp.dst, LV.I, LV.B, LV.U, LV.S, LV.nil, Nat.reduceEqDiff, Nat.reduceAdd, Nat.reduceMul, Nat.reduceSub, Nat.reduceLeDiff, Nat.reduceBEq, Nat.reduceDiv, Nat.reduceMod, Int.reduceToNat, Int.reduceLT, Int.reduceLE, Int.reduceAdd, Int.reduceSub, Int.reduceMul, Int.reduceEq, Int.reduceNeg, reduceCtorEq, resV, resAll, ARes.ev, LV.flat, ite_true, ite_false, exists_eq_left', exists_eq_left, keyOf, implies_true, fillC]
    exact cmp_drop rfl
  · simp (disch := omega) only [hH, false_and, ↓SXd, SXu, slBounds, ↓sop, ↓aop, ↓reduceIte, LV.cells, AOp.dst, LV.I, LV.B, LV.U, LV.S, LV.nil, Nat.reduceEqDiff, Nat.reduceAdd, Nat.reduceMul, Nat.reduceSub, Nat.reduceLeDiff, Nat.reduceBEq, Nat.reduceDiv, Nat.reduceMod, Int.reduceToNat, Int.reduceLT, Int.reduceLE, Int.reduceAdd, Int.reduceSub, Int.reduceMul, Int.reduceEq, Int.reduceNeg, reduceCtorEq, resV, resAll, ARes.ev, LV.flat, ite_true, ite_false, exists_eq_left', exists_eq_left, keyOf, implies_true, fillC]
    exact cmp_drop rfl

end Go.Ab

/- Contracts: distances of cells. -/
namespace Go.Ab
open Go
set_option linter.unusedSimpArgs false
set_option linter.unusedVariables false

theorem h_l2Apart {a b c a' b' c' : Int} {M : Mem} (h1 : 0 ≤ a ∧ a ≤ 100) (h2 : 0 ≤ b ∧ b ≤ 100) (h3 : 0 ≤ c ∧ c ≤ 100) (h1' : 0 ≤ a' ∧ a' ≤ 100) (h2' : 0 ≤ b' ∧ b' ≤ 100) (h3' : 0 ≤ c' ∧ c' ≤ 100) :
    CallsTo PG F.spec_l2Apart [.agg [.I a, .I b, .I c], .agg [.I a', .I b', .I c']] M (.I (apart ⟨a, b, c⟩ ⟨a', b', c'⟩)) M := by
  refine calls_run K.spec_l2Apart rfl ?_
  simp (disch := omega) only [C.spec_l2Apart, ↓SXd, SXu, slBounds, ↓sop, ↓aop, ↓reduceIte, LV.cells, AOp.dst, LV.I, LV.B, LV.U, LV.S, LV.nil, Nat.reduceEqDiff, Nat.reduceAdd, Nat.reduceMul, Nat.reduceSub, Nat.reduceLeDiff, Nat.reduceBEq, Nat.reduceDiv, Nat.reduceMod, Int.reduceToNat, Int.reduceLT, Int.reduceLE, Int.reduceAdd, Int.reduceSub, Int.reduceMul, Int.reduceEq, Int.reduceNeg, reduceCtorEq, resV, resAll, ARes.ev, LV.flat, ite_true, ite_false, exists_eq_left', exists_eq_left, keyOf, implies_true, fillC]
  refine ev_loop (fun m fr M' => ∃ (k : Nat) (s : Int), k + m = 3 ∧ M' = M ++ [some (Blk.row [.I a, .I b, .I c] true 0), some (Blk.row [.I a', .I b', .I c'] true 0)] ∧ fr 2 = .ptr M.length 0 ∧ fr 3 = .ptr (M.length + 1) 0 ∧ fr 6 = .I k ∧ fr 5 = .I s ∧
    (k = 0 → s = 0) ∧ (k = 1 → s = max (a - a') (a' - a)) ∧ (k = 2 → s = max (a - a') (a' - a) + max (b - b') (b' - b)) ∧ (k = 3 → s = apart ⟨a, b, c⟩ ⟨a', b', c'⟩)) 3
    ⟨0, 0, rfl, rfl, rfl, rfl, rfl, rfl, by omega, by omega, by omega, by omega⟩ ?_
  rintro m fr M' ⟨k, s, hk, rfl, g2, g3, g6, g5, s0, s1, s2, s3⟩
  simp (disch := omega) only [g2, g3, g5, g6, ↓SXd, SXu, slBounds, ↓sop, ↓aop, ↓reduceIte, LV.cells, AOp.dst, LV.I, LV.B, LV.U, LV.S, LV.nil, Nat.reduceEqDiff, Nat.reduceAdd, Nat.reduceMul, Nat.reduceSub, Nat.reduceLeDiff, Nat.reduceBEq, Nat.reduceDiv, Nat.reduceMod, Int.reduceToNat, Int.reduceLT, Int.reduceLE, Int.reduceAdd, Int.reduceSub, Int.reduceMul, Int.reduceEq, Int.reduceNeg, reduceCtorEq, resV, resAll, ARes.ev, LV.flat, ite_true, ite_false, exists_eq_left', exists_eq_left, keyOf, implies_true, fillC]
  refine condC_dec (fun hlt => ?_) (fun hlt => ?_)
  · have hk3 : k = 0 ∨ k = 1 ∨ k = 2 := by omega
    rcases hk3 with rfl | rfl | rfl
    · have := s0 rfl; subst this
      simp (disch := omega) only [g2, g3, g5, g6, ↓SXd, SXu, slBounds, ↓sop, ↓aop, ↓reduceIte, LV.cells, AOp.dst, LV.I, LV.B, LV.U, LV.S, LV.nil, Nat.reduceEqDiff, Nat.reduceAdd, Nat.reduceMul, Nat.reduceSub, Nat.reduceLeDiff, Nat.reduceBEq, Nat.reduceDiv, Nat.reduceMod, Int.reduceToNat, Int.reduceLT, Int.reduceLE, Int.reduceAdd, Int.reduceSub, Int.reduceMul, Int.reduceEq, Int.reduceNeg, reduceCtorEq, resV, resAll, ARes.ev, LV.flat, ite_true, ite_false, exists_eq_left', exists_eq_left, keyOf, implies_true, fillC]
      refine callK_of h_l1Most ?_
      simp (disch := omega) only [g2, g3, g5, g6, ↓SXd, SXu, slBounds, ↓sop, ↓aop, ↓reduceIte, LV.cells, AOp.dst, LV.I, LV.B, LV.U, LV.S, LV.nil, Nat.reduceEqDiff, Nat.reduceAdd, Nat.reduceMul, Nat.reduceSub, Nat.reduceLeDiff, Nat.reduceBEq, Nat.reduceDiv, Nat.reduceMod, Int.reduceToNat, Int.reduceLT, Int.reduceLE, Int.reduceAdd, Int.reduceSub, Int.reduceMul, Int.reduceEq, Int.reduceNeg, reduceCtorEq, resV, resAll, ARes.ev, LV.flat, ite_true, ite_false, exists_eq_left', exists_eq_left, keyOf, implies_true, fillC]
      exact ⟨m - 1, by omega, 1, _, by omega, rfl, g2, g3, rfl, rfl, by omega, by omega, by omega, by omega⟩
    · have := s1 rfl; subst this
      simp (disch := omega) only [g2, g3, g5, g6, ↓SXd, SXu, slBounds, ↓sop, ↓aop, ↓reduceIte, LV.cells, AOp.dst, LV.I, LV.B, LV.U, LV.S, LV.nil, Nat.reduceEqDiff, Nat.reduceAdd, Nat.reduceMul, Nat.reduceSub, Nat.reduceLeDiff, Nat.reduceBEq, Nat.reduceDiv, Nat.reduceMod, Int.reduceToNat, Int.reduceLT, Int.reduceLE, Int.reduceAdd, Int.reduceSub, Int.reduceMul, Int.reduceEq, Int.reduceNeg, reduceCtorEq, resV, resAll, ARes.ev, LV.flat, ite_true, ite_false, exists_eq_left', exists_eq_left, keyOf, implies_true, fillC]
      refine callK_of h_l1Most ?_
      simp (disch := omega) only [g2, g3, g5, g6, ↓SXd, SXu, slBounds, ↓sop, ↓aop, ↓reduceIte, LV.cells, AOp.dst, LV.I, LV.B, LV.U, LV.S, LV.nil, Nat.reduceEqDiff, Nat.reduceAdd, Nat.reduceMul, Nat.reduceSub, Nat.reduceLeDiff, Nat.reduceBEq, Nat.reduceDiv, Nat.reduceMod, Int.reduceToNat, Int.reduceLT, Int.reduceLE, Int.reduceAdd, Int.reduceSub, Int.reduceMul, Int.reduceEq, Int.reduceNeg, reduceCtorEq, resV, resAll, ARes.ev, LV.flat, ite_true, ite_false, exists_eq_left', exists_eq_left, keyOf, implies_true, fillC]
      exact ⟨m - 1, by omega, 2, _, by omega, rfl, g2, g3, rfl, rfl, by omega, by omega, by omega, by omega⟩
    · have := s2 rfl; subst this
      simp (disch := omega) only [g2, g3, g5, g6, ↓SXd, SXu, slBounds, ↓sop, ↓aop, ↓reduceIte, LV.cells, AOp.dst, LV.I, LV.B, LV.U, LV.S, LV.nil, Nat.reduceEqDiff, Nat.reduceAdd, Nat.reduceMul, Nat.reduceSub, Nat.reduceLeDiff, Nat.reduceBEq, Nat.reduceDiv, Nat.reduceMod, Int.reduceToNat, Int.reduceLT, Int.reduceLE, Int.reduceAdd, Int.reduceSub, Int.reduceMul, Int.reduceEq, Int.reduceNeg, reduceCtorEq, resV, resAll, ARes.ev, LV.flat, ite_true, ite_false, exists_eq_left', exists_eq_left, keyOf, implies_true, fillC]
      refine callK_of h_l1Most ?_
      simp (disch := omega) only [g2, g3, g5, g6, ↓SXd, SXu, slBounds, ↓sop, ↓aop, ↓reduceIte, LV.cells, AOp.dst, LV.I, LV.B, LV.U, LV.S, LV.nil, Nat.reduceEqDiff, Nat.reduceAdd, Nat.reduceMul, Nat.reduceSub, Nat.reduceLeDiff, Nat.reduceBEq, Nat.reduceDiv, Nat.reduceMod, Int.reduceToNat, Int.reduceLT, Int.reduceLE, Int.reduceAdd, Int.reduceSub, Int.reduceMul, Int.reduceEq, Int.reduceNeg, reduceCtorEq, resV, resAll, ARes.ev, LV.flat, ite_true, ite_false, exists_eq_left', exists_eq_left, keyOf, implies_true, fillC]
      exact ⟨m - 1, by omega, 3, _, by omega, rfl, g2, g3, rfl, rfl, by omega, by omega, by omega, fun _ => rfl⟩
  · simp (disch := omega) only [g2, g3, g5, g6, ↓SXd, SXu, slBounds, ↓sop, ↓aop, ↓reduceIte, LV.cells, AOp.dst, LV.I, LV.B, LV.U, LV.S, LV.nil, Nat.reduceEqDiff, Nat.reduceAdd, Nat.reduceMul, Nat.reduceSub, Nat.reduceLeDiff, Nat.reduceBEq, Nat.reduceDiv, Nat.reduceMod, Int.reduceToNat, Int.reduceLT, Int.reduceLE, Int.reduceAdd, Int.reduceSub, Int.reduceMul, Int.reduceEq, Int.reduceNeg, reduceCtorEq, resV, resAll, ARes.ev, LV.flat, ite_true, ite_false, exists_eq_left', exists_eq_left, keyOf, implies_true, fillC]
    rw [s3 (by omega)]
    exact cmp_drop rfl

theorem h_l10Up {a b : Int} {M : Mem} (h1 : -1000 ≤ a ∧ a ≤ 1000) (h2 : -1000 ≤ b ∧ b ≤ 1000) : CallsTo PG F.spec_l10Up [.I a, .I b] M (.I (gap a b)) M := by
  refine calls_run K.spec_l10Up rfl ?_
  simp (disch := omega) only [C.spec_l10Up, ↓SXd, SXu, slBounds, ↓sop, ↓aop, ↓reduceIte, LV.cells, AOp.dst, LV.I, LV.B, LV.U, LV.S, LV.nil, Nat.reduceEqDiff, Nat.reduceAdd, Nat.reduceMul, Nat.reduceSub, Nat.reduceLeDiff, Nat.reduceBEq, Nat.reduceDiv, Nat.reduceMod, Int.reduceToNat, Int.reduceLT, Int.reduceLE, Int.reduceAdd, Int.reduceSub, Int.reduceMul, Int.reduceEq, Int.reduceNeg, reduceCtorEq, resV, resAll, ARes.ev, LV.flat, ite_true, ite_false, exists_eq_left', exists_eq_left, keyOf, implies_true, fillC]
  refine callK_of h_l1Most ?_
  simp (disch := omega) only [↓SXd, SXu, slBounds, ↓sop, ↓aop, ↓reduceIte, LV.cells, AOp.dst, LV.I, LV.B, LV.U, LV.S, LV.nil, Nat.reduceEqDiff, Nat.reduceAdd, Nat.reduceMul, Nat.reduceSub, Nat.reduceLeDiff, Nat.reduceBEq, Nat.reduceDiv, Nat.reduceMod, Int.reduceToNat, Int.reduceLT, Int.reduceLE, Int.reduceAdd, Int.reduceSub, Int.reduceMul, Int.reduceEq, Int.reduceNeg, reduceCtorEq, resV, resAll, ARes.ev, LV.flat, ite_true, ite_false, exists_eq_left', exists_eq_left, keyOf, implies_true, fillC]
  exact cmp_drop0 rfl
end Go.Ab

/- Contracts: the reference's heights and neighbours. -/
namespace Go.Ab
open Go
set_option linter.unusedSimpArgs false
set_option linter.unusedVariables false

theorem HeapOK.cell {x y z : Int} {cs : List Cell} (h : HeapOK x y z cs) {k : Nat} (hk : k < cs.length) : (cs.getD k default).inBox x y z := (h.2 k hk).1

theorem h_l2Tops {x y z : Int} {t o : Nat} {cs : List Cell} {M : Mem} (h : Tri M t o cs) (hn : cs.length ≤ 1000000000) (hH : HeapOK x y z cs) :
    CallsTo PG F.spec_l2Tops [.agg [.I x, .I y, .I z, .ref t o cs.length]] M (.ref M.length 0 (x * y).toNat) (M ++ [some (.row (intL (topsOf x y cs)) true 1)]) := by
  have hb := mul_bound hH.1.1 hH.1.2.1
  refine calls_run K.spec_l2Tops rfl ?_
  simp (disch := omega) only [C.spec_l2Tops, made_int, ↓SXd, SXu, slBounds, ↓sop, ↓aop, ↓reduceIte, LV.cells, AOp.dst, LV.I, LV.B, LV.U, LV.S, LV.nil, Nat.reduceEqDiff, Nat.reduceAdd, Nat.reduceMul, Nat.reduceSub, Nat.reduceLeDiff, Nat.reduceBEq, Nat.reduceDiv, Nat.reduceMod, Int.reduceToNat, Int.reduceLT, Int.reduceLE, Int.reduceAdd, Int.reduceSub, Int.reduceMul, Int.reduceEq, Int.reduceNeg, reduceCtorEq, resV, resAll, ARes.ev, LV.flat, ite_true, ite_false, exists_eq_left', exists_eq_left, keyOf, implies_true, fillC]
  refine ev_loop (fun m fr M' => ∃ (k : Nat) (out : List Int), k + m = cs.length ∧ M' = M ++ [some (Blk.row [.I x, .I y, .I z, .ref t o cs.length] true 0), some (.row (intL out) true 1)] ∧ fr 1 = .ptr M.length 0 ∧ fr 3 = .ref (M.length + 1) 0 (x * y).toNat ∧ fr 4 = .I k ∧
    out = (cs.take k).foldl (topStep y) (List.replicate (x * y).toNat 0) ∧ out.length = (x * y).toNat) cs.length ⟨0, _, by omega, rfl, rfl, rfl, rfl, rfl, by simp⟩ ?_
  rintro m fr M' ⟨k, out, hk, rfl, h1, h3, h4, ho, hol⟩
  have ht := h.lt
  simp (disch := omega) only [h1, h3, h4, ↓SXd, SXu, slBounds, ↓sop, ↓aop, ↓reduceIte, LV.cells, AOp.dst, LV.I, LV.B, LV.U, LV.S, LV.nil, Nat.reduceEqDiff, Nat.reduceAdd, Nat.reduceMul, Nat.reduceSub, Nat.reduceLeDiff, Nat.reduceBEq, Nat.reduceDiv, Nat.reduceMod, Int.reduceToNat, Int.reduceLT, Int.reduceLE, Int.reduceAdd, Int.reduceSub, Int.reduceMul, Int.reduceEq, Int.reduceNeg, reduceCtorEq, resV, resAll, ARes.ev, LV.flat, ite_true, ite_false, exists_eq_left', exists_eq_left, keyOf, implies_true, fillC]
  refine condC_dec (fun hlt => ?_) (fun hlt => ?_)
  · obtain ⟨ca, cb, cc⟩ := hH.cell (k := k) (by omega)
    have hS := hH.1
    obtain ⟨b1, b2, b3, b4⟩ := col_bound hS.1 hS.2.1 ca cb
    obtain ⟨_, hy, hz⟩ := hS
    simp (disch := omega) only [h1, h3, h4, getCell_app, h.get_a, h.get_b, h.get_c, intL_get, ↓SXd, SXu, slBounds, ↓sop, ↓aop, ↓reduceIte, LV.cells, AOp.dst, LV.I, LV.B, LV.U, LV.S, LV.nil, Nat.reduceEqDiff, Nat.reduceAdd, Nat.reduceMul, Nat.reduceSub, Nat.reduceLeDiff, Nat.reduceBEq, Nat.reduceDiv, Nat.reduceMod, Int.reduceToNat, Int.reduceLT, Int.reduceLE, Int.reduceAdd, Int.reduceSub, Int.reduceMul, Int.reduceEq, Int.reduceNeg, reduceCtorEq, resV, resAll, ARes.ev, LV.flat, ite_true, ite_false, exists_eq_left', exists_eq_left, keyOf, implies_true, fillC]
    refine callK_of h_l1Most ?_
    simp (disch := omega) only [h1, h3, h4, getCell_app, h.get_a, h.get_b, h.get_c, intL_get, intL_len, splice_int, ↓SXd, SXu, slBounds, ↓sop, ↓aop, ↓reduceIte, LV.cells, AOp.dst, LV.I, LV.B, LV.U, LV.S, LV.nil, Nat.reduceEqDiff, Nat.reduceAdd, Nat.reduceMul, Nat.reduceSub, Nat.reduceLeDiff, Nat.reduceBEq, Nat.reduceDiv, Nat.reduceMod, Int.reduceToNat, Int.reduceLT, Int.reduceLE, Int.reduceAdd, Int.reduceSub, Int.reduceMul, Int.reduceEq, Int.reduceNeg, reduceCtorEq, resV, resAll, ARes.ev, LV.flat, ite_true, ite_false, exists_eq_left', exists_eq_left, keyOf, implies_true, fillC]
    refine ⟨m - 1, by omega, k + 1, _, by omega, rfl, h1, h3, eqI (natI _), ?_, by simpa using hol⟩
    rw [take_succ_foldl _ _ _ _ default (by omega), ← ho]
    rfl
  · simp (disch := omega) only [h1, h3, h4, ↓SXd, SXu, slBounds, ↓sop, ↓aop, ↓reduceIte, LV.cells, AOp.dst, LV.I, LV.B, LV.U, LV.S, LV.nil, Nat.reduceEqDiff, Nat.reduceAdd, Nat.reduceMul, Nat.reduceSub, Nat.reduceLeDiff, Nat.reduceBEq, Nat.reduceDiv, Nat.reduceMod, Int.reduceToNat, Int.reduceLT, Int.reduceLE, Int.reduceAdd, Int.reduceSub, Int.reduceMul, Int.reduceEq, Int.reduceNeg, reduceCtorEq, resV, resAll, ARes.ev, LV.flat, ite_true, ite_false, exists_eq_left', exists_eq_left, keyOf, implies_true, fillC]
    have : k = cs.length := by omega
    subst this
    rw [List.take_length] at ho
    rw [show topsOf x y cs = out from ho.symm]
    exact cmp_keep1 (j := 1) rfl (intL_lo out) (by simp [rn, rn0, rn1, keepR_n])

theorem h_l10Next {x y z p : Int} {v : LV} {M : Mem} (hS : Sides x y z) (hp : 0 ≤ p ∧ p ≤ x * y - 1) :
    CallsTo PG F.spec_l10Next [.agg [.I x, .I y, .I z, v], .I p] M (.ref M.length 0 (nexts x y p).length) (M ++ [some (.row (intL (nexts x y p)) true 1)]) := by
  have hb := mul_bound hS.1 hS.2.1
  obtain ⟨hx, hy, hz⟩ := hS
  have hdp := div_bound hy (p := p) (by omega)
  refine calls_run K.spec_l10Next rfl ?_
  simp (disch := omega) only [C.spec_l10Next, fillC, ↓SXd, SXu, slBounds, ↓sop, ↓aop, ↓reduceIte, LV.cells, AOp.dst, LV.I, LV.B, LV.U, LV.S, LV.nil, Nat.reduceEqDiff, Nat.reduceAdd, Nat.reduceMul, Nat.reduceSub, Nat.reduceLeDiff, Nat.reduceBEq, Nat.reduceDiv, Nat.reduceMod, Int.reduceToNat, Int.reduceLT, Int.reduceLE, Int.reduceAdd, Int.reduceSub, Int.reduceMul, Int.reduceEq, Int.reduceNeg, reduceCtorEq, resV, resAll, ARes.ev, LV.flat, ite_true, ite_false, exists_eq_left', exists_eq_left, keyOf, implies_true, fillC]

  refine ev_loop (fun m fr M' => ∃ (k t : Nat) (acc : List Int), k + m = (x * y).toNat ∧ Pre M M' ∧ Live M' M.length (.row [.I x, .I y, .I z, v] true 0) ∧ M.length < t ∧ Live M' t (.row (intL acc) true 1) ∧
    fr 1 = .I p ∧ fr 2 = .ptr M.length 0 ∧ fr 5 = .ref t 0 acc.length ∧ fr 6 = .I k ∧ acc = (nums k).filter (fun q => decide (apart (colOf y p) (colOf y q) = 1))) (x * y).toNat
    ⟨0, M.length + 1, [], by omega, Pre.app _ _, Live.new, by omega, Live.newj rfl, rfl, rfl, rfl, rfl, rfl⟩ ?_
  rintro m fr M' ⟨k, t, acc, hk, hpre, hbox, ht, hout, h1, h2, h5, h6, hacc⟩
  simp (disch := omega) only [h1, h2, h5, h6, hbox.cell, ↓SXd, SXu, slBounds, ↓sop, ↓aop, ↓reduceIte, LV.cells, AOp.dst, LV.I, LV.B, LV.U, LV.S, LV.nil, Nat.reduceEqDiff, Nat.reduceAdd, Nat.reduceMul, Nat.reduceSub, Nat.reduceLeDiff, Nat.reduceBEq, Nat.reduceDiv, Nat.reduceMod, Int.reduceToNat, Int.reduceLT, Int.reduceLE, Int.reduceAdd, Int.reduceSub, Int.reduceMul, Int.reduceEq, Int.reduceNeg, reduceCtorEq, resV, resAll, ARes.ev, LV.flat, ite_true, ite_false, exists_eq_left', exists_eq_left, keyOf, implies_true, fillC]
  refine condC_dec (fun hlt => ?_) (fun hlt => ?_)
  · have hdk := div_bound hy (p := (k : Int)) (by omega)
    have hal : acc.length ≤ 1000 := by
      rw [hacc]
      have := List.length_filter_le (fun q => decide (apart (colOf y p) (colOf y q) = 1)) (nums k)
      rw [nums_len] at this
      omega
    have hy0 : y ≠ 0 := by omega
    simp (disch := omega) only [h1, h2, h5, h6, hbox.cell, fillC, splice, hy0, not_false_eq_true, ne_eq, ↓SXd, SXu, slBounds, ↓sop, ↓aop, ↓reduceIte, LV.cells, AOp.dst, LV.I, LV.B, LV.U, LV.S, LV.nil, Nat.reduceEqDiff, Nat.reduceAdd, Nat.reduceMul, Nat.reduceSub, Nat.reduceLeDiff, Nat.reduceBEq, Nat.reduceDiv, Nat.reduceMod, Int.reduceToNat, Int.reduceLT, Int.reduceLE, Int.reduceAdd, Int.reduceSub, Int.reduceMul, Int.reduceEq, Int.reduceNeg, reduceCtorEq, resV, resAll, ARes.ev, LV.flat, ite_true, ite_false, exists_eq_left', exists_eq_left, keyOf, implies_true, fillC]
    refine callK_of (h_l2Apart (by omega) (by omega) (by omega) (by omega) (by omega) (by omega)) ?_
    simp (disch := omega) only [h1, h2, h5, h6, ↓SXd, SXu, slBounds, ↓sop, ↓aop, ↓reduceIte, LV.cells, AOp.dst, LV.I, LV.B, LV.U, LV.S, LV.nil, Nat.reduceEqDiff, Nat.reduceAdd, Nat.reduceMul, Nat.reduceSub, Nat.reduceLeDiff, Nat.reduceBEq, Nat.reduceDiv, Nat.reduceMod, Int.reduceToNat, Int.reduceLT, Int.reduceLE, Int.reduceAdd, Int.reduceSub, Int.reduceMul, Int.reduceEq, Int.reduceNeg, reduceCtorEq, resV, resAll, ARes.ev, LV.flat, ite_true, ite_false, exists_eq_left', exists_eq_left, keyOf, implies_true, fillC]
    refine condC_dec (fun he => ?_) (fun he => ?_)
    · simp (disch := omega) only [h1, h2, h5, h6, fillC, splice, ↓SXd, SXu, slBounds, ↓sop, ↓aop, ↓reduceIte, LV.cells, AOp.dst, LV.I, LV.B, LV.U, LV.S, LV.nil, Nat.reduceEqDiff, Nat.reduceAdd, Nat.reduceMul, Nat.reduceSub, Nat.reduceLeDiff, Nat.reduceBEq, Nat.reduceDiv, Nat.reduceMod, Int.reduceToNat, Int.reduceLT, Int.reduceLE, Int.reduceAdd, Int.reduceSub, Int.reduceMul, Int.reduceEq, Int.reduceNeg, reduceCtorEq, resV, resAll, ARes.ev, LV.flat, ite_true, ite_false, exists_eq_left', exists_eq_left, keyOf, implies_true, fillC]
      refine appendK_int hout (by omega) fun M'' l1 l2 l3 => ?_
      simp (disch := omega) only [h1, h2, h5, h6, ↓SXd, SXu, slBounds, ↓sop, ↓aop, ↓reduceIte, LV.cells, AOp.dst, LV.I, LV.B, LV.U, LV.S, LV.nil, Nat.reduceEqDiff, Nat.reduceAdd, Nat.reduceMul, Nat.reduceSub, Nat.reduceLeDiff, Nat.reduceBEq, Nat.reduceDiv, Nat.reduceMod, Int.reduceToNat, Int.reduceLT, Int.reduceLE, Int.reduceAdd, Int.reduceSub, Int.reduceMul, Int.reduceEq, Int.reduceNeg, reduceCtorEq, resV, resAll, ARes.ev, LV.flat, ite_true, ite_false, exists_eq_left', exists_eq_left, keyOf, implies_true, fillC]
      refine ⟨m - 1, by omega, k + 1, _, _, by omega, pre_step hpre (by omega) l1 l3, live_step hbox (by omega) l3, ?_, l2, h1, h2, rfl, eqI (natI _), ?_⟩
      · have := hpre.1; omega
      · rw [nums_succ, List.filter_append, ← hacc]
        congr 1
        rw [List.filter_cons_of_pos (by simpa [colOf] using he)]; rfl
    · simp (disch := omega) only [h1, h2, h5, h6, ↓SXd, SXu, slBounds, ↓sop, ↓aop, ↓reduceIte, LV.cells, AOp.dst, LV.I, LV.B, LV.U, LV.S, LV.nil, Nat.reduceEqDiff, Nat.reduceAdd, Nat.reduceMul, Nat.reduceSub, Nat.reduceLeDiff, Nat.reduceBEq, Nat.reduceDiv, Nat.reduceMod, Int.reduceToNat, Int.reduceLT, Int.reduceLE, Int.reduceAdd, Int.reduceSub, Int.reduceMul, Int.reduceEq, Int.reduceNeg, reduceCtorEq, resV, resAll, ARes.ev, LV.flat, ite_true, ite_false, exists_eq_left', exists_eq_left, keyOf, implies_true, fillC]
      refine ⟨m - 1, by omega, k + 1, t, acc, by omega, hpre, hbox, ht, hout, h1, h2, h5, eqI (natI _), ?_⟩
      rw [nums_succ, List.filter_append, ← hacc, List.filter_cons_of_neg (by simpa [colOf] using he)]; simp
  · simp (disch := omega) only [h1, h2, h5, h6, ↓SXd, SXu, slBounds, ↓sop, ↓aop, ↓reduceIte, LV.cells, AOp.dst, LV.I, LV.B, LV.U, LV.S, LV.nil, Nat.reduceEqDiff, Nat.reduceAdd, Nat.reduceMul, Nat.reduceSub, Nat.reduceLeDiff, Nat.reduceBEq, Nat.reduceDiv, Nat.reduceMod, Int.reduceToNat, Int.reduceLT, Int.reduceLE, Int.reduceAdd, Int.reduceSub, Int.reduceMul, Int.reduceEq, Int.reduceNeg, reduceCtorEq, resV, resAll, ARes.ev, LV.flat, ite_true, ite_false, exists_eq_left', exists_eq_left, keyOf, implies_true, fillC]
    have : k = (x * y).toNat := by omega
    subst this
    rw [show nexts x y p = acc from hacc.symm]
    exact cmp_keepL hpre (by omega) hout (intL_lo acc) (by simp [rn, rn0, rn1])
end Go.Ab

/- Contracts: the reference's steps. -/
namespace Go.Ab
open Go
set_option linter.unusedSimpArgs false
set_option linter.unusedVariables false

def Low (ts : List Int) : Prop := ∀ k, k < ts.length → -100 ≤ ts.getD k 0 ∧ ts.getD k 0 ≤ 100

theorem h_l10Steps {x y z p s : Int} {v : LV} {t o : Nat} {ts : List Int} {M : Mem} (hS : Sides x y z) (hp : 0 ≤ p ∧ p ≤ x * y - 1) (h : Ints M t o ts) (hl : ts.length = (x * y).toNat) (hlow : Low ts) :
    CallsTo PG F.spec_l10Steps [.agg [.I x, .I y, .I z, v], .ref t o (x * y).toNat, .I p, .I s] M (.ref M.length 0 (stepsOf x y ts p s).length) (M ++ [some (.row (intL (stepsOf x y ts p s)) true 1)]) := by
  have hb := mul_bound hS.1 hS.2.1
  have hnl := nexts_len (x := x) (y := y) (p := p) hb.2
  refine calls_run K.spec_l10Steps rfl ?_
  simp (disch := omega) only [C.spec_l10Steps, fillC, ↓SXd, SXu, slBounds, ↓sop, ↓aop, ↓reduceIte, LV.cells, AOp.dst, LV.I, LV.B, LV.U, LV.S, LV.nil, Nat.reduceEqDiff, Nat.reduceAdd, Nat.reduceMul, Nat.reduceSub, Nat.reduceLeDiff, Nat.reduceBEq, Nat.reduceDiv, Nat.reduceMod, Int.reduceToNat, Int.reduceLT, Int.reduceLE, Int.reduceAdd, Int.reduceSub, Int.reduceMul, Int.reduceEq, Int.reduceNeg, reduceCtorEq, resV, resAll, ARes.ev, LV.flat, ite_true, ite_false, exists_eq_left', exists_eq_left, keyOf, implies_true, fillC]
  refine callK_of (h_l10Next hS hp) ?_
  simp (disch := omega) only [↓SXd, SXu, slBounds, ↓sop, ↓aop, ↓reduceIte, LV.cells, AOp.dst, LV.I, LV.B, LV.U, LV.S, LV.nil, Nat.reduceEqDiff, Nat.reduceAdd, Nat.reduceMul, Nat.reduceSub, Nat.reduceLeDiff, Nat.reduceBEq, Nat.reduceDiv, Nat.reduceMod, Int.reduceToNat, Int.reduceLT, Int.reduceLE, Int.reduceAdd, Int.reduceSub, Int.reduceMul, Int.reduceEq, Int.reduceNeg, reduceCtorEq, resV, resAll, ARes.ev, LV.flat, ite_true, ite_false, exists_eq_left', exists_eq_left, keyOf, implies_true, fillC]
  refine ev_loop (fun m fr M' => ∃ (k u : Nat) (acc : List Int), k + m = (nexts x y p).length ∧ Pre M M' ∧ Live M' (M.length + 2) (.row (intL (nexts x y p)) true 1) ∧ M.length ≤ u ∧ u ≠ M.length + 2 ∧ Live M' u (.row (intL acc) true 1) ∧
    fr 1 = .ref t o (x * y).toNat ∧ fr 2 = .I p ∧ fr 3 = .I s ∧ fr 9 = .ref u 0 acc.length ∧ fr 10 = .ref (M.length + 2) 0 (nexts x y p).length ∧ fr 11 = .I k ∧
    acc = ((nexts x y p).take k).filter (fun q => decide (gap (ts.getD q.toNat 0) (ts.getD p.toNat 0) ≤ s))) (nexts x y p).length
    ⟨0, M.length + 1, [], by omega, Pre.app _ _, Live.newj rfl, by omega, by omega, Live.newj rfl, rfl, rfl, rfl, rfl, rfl, rfl, rfl⟩ ?_
  rintro m fr M' ⟨k, u, acc, hk, hpre, hnx, hu, hun, hout, h1, h2, h3, h9, h10, h11, hacc⟩
  have ht := h.pre hpre
  have hnx' : Ints M' (M.length + 2) 0 (nexts x y p) := hnx.has
  simp (disch := omega) only [h1, h2, h3, h9, h10, h11, ↓SXd, SXu, slBounds, ↓sop, ↓aop, ↓reduceIte, LV.cells, AOp.dst, LV.I, LV.B, LV.U, LV.S, LV.nil, Nat.reduceEqDiff, Nat.reduceAdd, Nat.reduceMul, Nat.reduceSub, Nat.reduceLeDiff, Nat.reduceBEq, Nat.reduceDiv, Nat.reduceMod, Int.reduceToNat, Int.reduceLT, Int.reduceLE, Int.reduceAdd, Int.reduceSub, Int.reduceMul, Int.reduceEq, Int.reduceNeg, reduceCtorEq, resV, resAll, ARes.ev, LV.flat, ite_true, ite_false, exists_eq_left', exists_eq_left, keyOf, implies_true, fillC]
  refine condC_dec (fun hlt => ?_) (fun hlt => ?_)
  · have hal : acc.length ≤ 1000 := by
      rw [hacc]
      have := List.length_filter_le (fun q => decide (gap (ts.getD q.toNat 0) (ts.getD p.toNat 0) ≤ s)) ((nexts x y p).take k)
      simp only [List.length_take] at this
      omega
    have hq := nexts_mem (getD_mem (d := 0) (show k < (nexts x y p).length by omega))
    have hv1 := hlow ((nexts x y p).getD k 0).toNat (by omega)
    have hv2 := hlow p.toNat (by omega)
    have hne : (nexts x y p)[k]? = some ((nexts x y p).getD k 0) := by simp [show k < (nexts x y p).length by omega]
    simp (disch := omega) only [h1, h2, h3, h9, h10, h11, hnx.cell, intL_get, Ints.get ht, ↓SXd, SXu, slBounds, ↓sop, ↓aop, ↓reduceIte, LV.cells, AOp.dst, LV.I, LV.B, LV.U, LV.S, LV.nil, Nat.reduceEqDiff, Nat.reduceAdd, Nat.reduceMul, Nat.reduceSub, Nat.reduceLeDiff, Nat.reduceBEq, Nat.reduceDiv, Nat.reduceMod, Int.reduceToNat, Int.reduceLT, Int.reduceLE, Int.reduceAdd, Int.reduceSub, Int.reduceMul, Int.reduceEq, Int.reduceNeg, reduceCtorEq, resV, resAll, ARes.ev, LV.flat, ite_true, ite_false, exists_eq_left', exists_eq_left, keyOf, implies_true, fillC]
    refine callK_of (h_l10Up (by omega) (by omega)) ?_
    simp (disch := omega) only [h1, h2, h3, h9, h10, h11, ↓SXd, SXu, slBounds, ↓sop, ↓aop, ↓reduceIte, LV.cells, AOp.dst, LV.I, LV.B, LV.U, LV.S, LV.nil, Nat.reduceEqDiff, Nat.reduceAdd, Nat.reduceMul, Nat.reduceSub, Nat.reduceLeDiff, Nat.reduceBEq, Nat.reduceDiv, Nat.reduceMod, Int.reduceToNat, Int.reduceLT, Int.reduceLE, Int.reduceAdd, Int.reduceSub, Int.reduceMul, Int.reduceEq, Int.reduceNeg, reduceCtorEq, resV, resAll, ARes.ev, LV.flat, ite_true, ite_false, exists_eq_left', exists_eq_left, keyOf, implies_true, fillC]
    refine condC_dec (fun he => ?_) (fun he => ?_)
    · simp (disch := omega) only [h1, h2, h3, h9, h10, h11, hnx.cell, intL_get, fillC, splice, ↓SXd, SXu, slBounds, ↓sop, ↓aop, ↓reduceIte, LV.cells, AOp.dst, LV.I, LV.B, LV.U, LV.S, LV.nil, Nat.reduceEqDiff, Nat.reduceAdd, Nat.reduceMul, Nat.reduceSub, Nat.reduceLeDiff, Nat.reduceBEq, Nat.reduceDiv, Nat.reduceMod, Int.reduceToNat, Int.reduceLT, Int.reduceLE, Int.reduceAdd, Int.reduceSub, Int.reduceMul, Int.reduceEq, Int.reduceNeg, reduceCtorEq, resV, resAll, ARes.ev, LV.flat, ite_true, ite_false, exists_eq_left', exists_eq_left, keyOf, implies_true, fillC]
      refine appendK_int hout (by omega) fun M'' l1 l2 l3 => ?_
      simp (disch := omega) only [h1, h2, h3, h9, h10, h11, ↓SXd, SXu, slBounds, ↓sop, ↓aop, ↓reduceIte, LV.cells, AOp.dst, LV.I, LV.B, LV.U, LV.S, LV.nil, Nat.reduceEqDiff, Nat.reduceAdd, Nat.reduceMul, Nat.reduceSub, Nat.reduceLeDiff, Nat.reduceBEq, Nat.reduceDiv, Nat.reduceMod, Int.reduceToNat, Int.reduceLT, Int.reduceLE, Int.reduceAdd, Int.reduceSub, Int.reduceMul, Int.reduceEq, Int.reduceNeg, reduceCtorEq, resV, resAll, ARes.ev, LV.flat, ite_true, ite_false, exists_eq_left', exists_eq_left, keyOf, implies_true, fillC]
      refine ⟨m - 1, by omega, k + 1, _, _, by omega, pre_step hpre hu l1 l3, live_step hnx (by omega) l3, ?_, ?_, l2, h1, h2, h3, rfl, h10, eqI (natI _), ?_⟩
      · have := hpre.1; omega
      · have := hnx.lt; omega
      · rw [List.take_add_one, List.filter_append, ← hacc, hne]
        congr 1
        simp only [Option.toList]
        rw [List.filter_cons_of_pos (by simpa using he)]; rfl
    · simp (disch := omega) only [h1, h2, h3, h9, h10, h11, ↓SXd, SXu, slBounds, ↓sop, ↓aop, ↓reduceIte, LV.cells, AOp.dst, LV.I, LV.B, LV.U, LV.S, LV.nil, Nat.reduceEqDiff, Nat.reduceAdd, Nat.reduceMul, Nat.reduceSub, Nat.reduceLeDiff, Nat.reduceBEq, Nat.reduceDiv, Nat.reduceMod, Int.reduceToNat, Int.reduceLT, Int.reduceLE, Int.reduceAdd, Int.reduceSub, Int.reduceMul, Int.reduceEq, Int.reduceNeg, reduceCtorEq, resV, resAll, ARes.ev, LV.flat, ite_true, ite_false, exists_eq_left', exists_eq_left, keyOf, implies_true, fillC]
      refine ⟨m - 1, by omega, k + 1, u, acc, by omega, hpre, hnx, hu, hun, hout, h1, h2, h3, h9, h10, eqI (natI _), ?_⟩
      rw [List.take_add_one, List.filter_append, ← hacc, hne]
      simp only [Option.toList]
      rw [List.filter_cons_of_neg (by simpa using he)]; simp
  · simp (disch := omega) only [h1, h2, h3, h9, h10, h11, ↓SXd, SXu, slBounds, ↓sop, ↓aop, ↓reduceIte, LV.cells, AOp.dst, LV.I, LV.B, LV.U, LV.S, LV.nil, Nat.reduceEqDiff, Nat.reduceAdd, Nat.reduceMul, Nat.reduceSub, Nat.reduceLeDiff, Nat.reduceBEq, Nat.reduceDiv, Nat.reduceMod, Int.reduceToNat, Int.reduceLT, Int.reduceLE, Int.reduceAdd, Int.reduceSub, Int.reduceMul, Int.reduceEq, Int.reduceNeg, reduceCtorEq, resV, resAll, ARes.ev, LV.flat, ite_true, ite_false, exists_eq_left', exists_eq_left, keyOf, implies_true, fillC]
    have : k = (nexts x y p).length := by omega
    subst this
    rw [List.take_length] at hacc
    rw [show stepsOf x y ts p s = acc from hacc.symm]
    exact cmp_keepL hpre hu hout (intL_lo acc) (by simp [rn, rn0, rn1])
end Go.Ab

/- Contracts: the reference's spread. -/
namespace Go.Ab
open Go
set_option linter.unusedSimpArgs false
set_option linter.unusedVariables false

theorem topsOf_low {x y z : Int} {cs : List Cell} (hH : HeapOK x y z cs) : Low (topsOf x y cs) := by
  have hz := hH.1.2.2
  have key : ∀ k, k ≤ cs.length → ∀ j, 0 ≤ ((cs.take k).foldl (topStep y) (List.replicate (x * y).toNat 0)).getD j 0 ∧ ((cs.take k).foldl (topStep y) (List.replicate (x * y).toNat 0)).getD j 0 ≤ 4 := by
    intro k
    induction k with
    | zero =>
      intro _ j
      simp only [List.take_zero, List.foldl_nil, List.getD_eq_getElem?_getD, List.getElem?_replicate]
      split <;> simp
    | succ k ih =>
      intro hk j
      rw [take_succ_foldl _ _ _ _ default (by omega)]
      have h1 := ih (by omega)
      obtain ⟨_, _, hc⟩ := hH.cell (k := k) (by omega)
      generalize (cs.take k).foldl (topStep y) (List.replicate (x * y).toNat 0) = out at h1 ⊢
      unfold topStep
      rw [getD_set]
      have h2 := h1 ((cs.getD k default).a * y + (cs.getD k default).b).toNat
      have h3 := h1 j
      split <;> omega
  intro k hk
  have := key cs.length (Nat.le_refl _) k
  rw [List.take_length] at this
  unfold topsOf
  omega

theorem h_l10Spread {x y z p s : Int} {t o : Nat} {cs : List Cell} {M : Mem} (h : Tri M t o cs) (hn : cs.length ≤ 1000000000) (hH : HeapOK x y z cs) (hp : 0 ≤ p ∧ p ≤ x * y - 1) :
    CallsTo PG F.spec_l10Spread [.agg [.I x, .I y, .I z, .ref t o cs.length], .I p, .I s] M (.ref M.length 0 (x * y).toNat) (M ++ [some (.row (intL (spreadOf x y cs p s)) true 1)]) := by
  have hb := mul_bound hH.1.1 hH.1.2.1
  refine calls_run K.spec_l10Spread rfl ?_
  simp (disch := omega) only [C.spec_l10Spread, made_int, fillC, ↓SXd, SXu, slBounds, ↓sop, ↓aop, ↓reduceIte, LV.cells, AOp.dst, LV.I, LV.B, LV.U, LV.S, LV.nil, Nat.reduceEqDiff, Nat.reduceAdd, Nat.reduceMul, Nat.reduceSub, Nat.reduceLeDiff, Nat.reduceBEq, Nat.reduceDiv, Nat.reduceMod, Int.reduceToNat, Int.reduceLT, Int.reduceLE, Int.reduceAdd, Int.reduceSub, Int.reduceMul, Int.reduceEq, Int.reduceNeg, reduceCtorEq, resV, resAll, ARes.ev, LV.flat, ite_true, ite_false, exists_eq_left', exists_eq_left, keyOf, implies_true, fillC]
  refine callK_of (h_l2Tops h.app hn hH) ?_
  simp (disch := omega) only [↓SXd, SXu, slBounds, ↓sop, ↓aop, ↓reduceIte, LV.cells, AOp.dst, LV.I, LV.B, LV.U, LV.S, LV.nil, Nat.reduceEqDiff, Nat.reduceAdd, Nat.reduceMul, Nat.reduceSub, Nat.reduceLeDiff, Nat.reduceBEq, Nat.reduceDiv, Nat.reduceMod, Int.reduceToNat, Int.reduceLT, Int.reduceLE, Int.reduceAdd, Int.reduceSub, Int.reduceMul, Int.reduceEq, Int.reduceNeg, reduceCtorEq, resV, resAll, ARes.ev, LV.flat, ite_true, ite_false, exists_eq_left', exists_eq_left, keyOf, implies_true, fillC]
  refine ev_loop (fun m fr M' => ∃ k : Nat, k + m = (x * y).toNat ∧ M' = M ++ [some (Blk.row [.I x, .I y, .I z, .ref t o cs.length] true 0), some (.row (intL (List.replicate k (-1) ++ List.replicate ((x * y).toNat - k) 0)) true 1), some (.row (intL (topsOf x y cs)) true 1)] ∧
    fr 1 = .I p ∧ fr 2 = .I s ∧ fr 3 = .ptr M.length 0 ∧ fr 7 = .ref (M.length + 1) 0 (x * y).toNat ∧ fr 8 = .ref (M.length + 2) 0 (x * y).toNat ∧ fr 9 = .I k) (x * y).toNat
    ⟨0, by omega, rfl, rfl, rfl, rfl, rfl, rfl, rfl⟩ ?_
  rintro m fr M' ⟨k, hk, rfl, h1, h2, h3, h7, h8, h9⟩
  have hlen : (List.replicate k (-1 : Int) ++ List.replicate ((x * y).toNat - k) 0).length = (x * y).toNat := by simp; omega
  simp (disch := omega) only [h1, h2, h3, h7, h8, h9, ↓SXd, SXu, slBounds, ↓sop, ↓aop, ↓reduceIte, LV.cells, AOp.dst, LV.I, LV.B, LV.U, LV.S, LV.nil, Nat.reduceEqDiff, Nat.reduceAdd, Nat.reduceMul, Nat.reduceSub, Nat.reduceLeDiff, Nat.reduceBEq, Nat.reduceDiv, Nat.reduceMod, Int.reduceToNat, Int.reduceLT, Int.reduceLE, Int.reduceAdd, Int.reduceSub, Int.reduceMul, Int.reduceEq, Int.reduceNeg, reduceCtorEq, resV, resAll, ARes.ev, LV.flat, ite_true, ite_false, exists_eq_left', exists_eq_left, keyOf, implies_true, fillC]
  refine condC_dec (fun hlt => ?_) (fun hlt => ?_)
  · simp (disch := omega) only [h1, h2, h3, h7, h8, h9, intL_len, hlen, splice_int, ↓SXd, SXu, slBounds, ↓sop, ↓aop, ↓reduceIte, LV.cells, AOp.dst, LV.I, LV.B, LV.U, LV.S, LV.nil, Nat.reduceEqDiff, Nat.reduceAdd, Nat.reduceMul, Nat.reduceSub, Nat.reduceLeDiff, Nat.reduceBEq, Nat.reduceDiv, Nat.reduceMod, Int.reduceToNat, Int.reduceLT, Int.reduceLE, Int.reduceAdd, Int.reduceSub, Int.reduceMul, Int.reduceEq, Int.reduceNeg, reduceCtorEq, resV, resAll, ARes.ev, LV.flat, ite_true, ite_false, exists_eq_left', exists_eq_left, keyOf, implies_true, fillC]
    refine ⟨m - 1, by omega, k + 1, by omega, ?_, h1, h2, h3, h7, h8, eqI (natI _)⟩
    rw [← fill_rep (by omega)]
  · have hk' : k = (x * y).toNat := by omega
    subst hk'
    have hCl : (List.replicate (x * y).toNat (-1 : Int)).length = (x * y).toNat := by simp
    simp (disch := omega) only [h1, h2, h3, h7, h8, h9, intL_len, hCl, hlen, splice_int, Nat.sub_self, List.replicate_zero, List.append_nil, ↓SXd, SXu, slBounds, ↓sop, ↓aop, ↓reduceIte, LV.cells, AOp.dst, LV.I, LV.B, LV.U, LV.S, LV.nil, Nat.reduceEqDiff, Nat.reduceAdd, Nat.reduceMul, Nat.reduceSub, Nat.reduceLeDiff, Nat.reduceBEq, Nat.reduceDiv, Nat.reduceMod, Int.reduceToNat, Int.reduceLT, Int.reduceLE, Int.reduceAdd, Int.reduceSub, Int.reduceMul, Int.reduceEq, Int.reduceNeg, reduceCtorEq, resV, resAll, ARes.ev, LV.flat, ite_true, ite_false, exists_eq_left', exists_eq_left, keyOf, implies_true, fillC]
    have hN : ∀ q r, r ∈ stepsOf x y (topsOf x y cs) q s → 0 ≤ r ∧ r < (((x * y).toNat : Nat) : Int) := fun q r hr => by
      have := stepsOf_mem hr; omega
    refine ev_loop (fun m fr M' => ∃ (n u : Nat) (st : List Int × List Int), n + m = (x * y).toNat ∧ Pre M M' ∧ Live M' M.length (.row [.I x, .I y, .I z, .ref t o cs.length] true 0) ∧ Live M' (M.length + 1) (.row (intL st.1) true 1) ∧
      Live M' (M.length + 2) (.row (intL (topsOf x y cs)) true 1) ∧ M.length + 3 ≤ u ∧ Live M' u (.row (intL st.2) true 1) ∧ BInv (x * y).toNat st ∧ n ≤ st.2.length ∧
      bfs (fun q => stepsOf x y (topsOf x y cs) q s) m n st = spreadOf x y cs p s ∧
      fr 2 = .I s ∧ fr 3 = .ptr M.length 0 ∧ fr 7 = .ref (M.length + 1) 0 (x * y).toNat ∧ fr 8 = .ref (M.length + 2) 0 (x * y).toNat ∧ fr 10 = .ref u 0 st.2.length ∧ fr 11 = .I n) (x * y).toNat
      ⟨0, M.length + 3, _, by omega, Pre.app _ _, Live.new, Live.newj rfl, Live.newj rfl, by omega, Live.newj rfl, BInv.start (by omega), by omega, rfl, h2, h3, h7, h8, rfl, rfl⟩ ?_
    clear hlen hk h1 h2 h3 h7 h8 h9 hlt
    rintro m fr M' ⟨n, u, st, hnm, hpre, hbox, hout, htop, hu, hlist, hinv, hnl, hbfs, h2, h3, h7, h8, h10, h11⟩
    have hle := hinv.le
    have hol := hinv.len
    simp (disch := omega) only [h2, h3, h7, h8, h10, h11, ↓SXd, SXu, slBounds, ↓sop, ↓aop, ↓reduceIte, LV.cells, AOp.dst, LV.I, LV.B, LV.U, LV.S, LV.nil, Nat.reduceEqDiff, Nat.reduceAdd, Nat.reduceMul, Nat.reduceSub, Nat.reduceLeDiff, Nat.reduceBEq, Nat.reduceDiv, Nat.reduceMod, Int.reduceToNat, Int.reduceLT, Int.reduceLE, Int.reduceAdd, Int.reduceSub, Int.reduceMul, Int.reduceEq, Int.reduceNeg, reduceCtorEq, resV, resAll, ARes.ev, LV.flat, ite_true, ite_false, exists_eq_left', exists_eq_left, keyOf, implies_true, fillC]
    refine condC_dec (fun hlt => ?_) (fun hlt => ?_)
    · have hpn := hinv.mem _ (getD_mem (d := 0) (show n < st.2.length by omega))
      simp (disch := omega) only [h2, h3, h7, h8, h10, h11, hbox.cells, hlist.cell, intL_get, ↓SXd, SXu, slBounds, ↓sop, ↓aop, ↓reduceIte, LV.cells, AOp.dst, LV.I, LV.B, LV.U, LV.S, LV.nil, Nat.reduceEqDiff, Nat.reduceAdd, Nat.reduceMul, Nat.reduceSub, Nat.reduceLeDiff, Nat.reduceBEq, Nat.reduceDiv, Nat.reduceMod, Int.reduceToNat, Int.reduceLT, Int.reduceLE, Int.reduceAdd, Int.reduceSub, Int.reduceMul, Int.reduceEq, Int.reduceNeg, reduceCtorEq, resV, resAll, ARes.ev, LV.flat, ite_true, ite_false, exists_eq_left', exists_eq_left, keyOf, implies_true, fillC]
      refine callK_of (h_l10Steps hH.1 (by omega) htop.has (topsOf_len x y cs) (topsOf_low hH)) ?_
      simp (disch := omega) only [h2, h3, h7, h8, h10, h11, ↓SXd, SXu, slBounds, ↓sop, ↓aop, ↓reduceIte, LV.cells, AOp.dst, LV.I, LV.B, LV.U, LV.S, LV.nil, Nat.reduceEqDiff, Nat.reduceAdd, Nat.reduceMul, Nat.reduceSub, Nat.reduceLeDiff, Nat.reduceBEq, Nat.reduceDiv, Nat.reduceMod, Int.reduceToNat, Int.reduceLT, Int.reduceLE, Int.reduceAdd, Int.reduceSub, Int.reduceMul, Int.reduceEq, Int.reduceNeg, reduceCtorEq, resV, resAll, ARes.ev, LV.flat, ite_true, ite_false, exists_eq_left', exists_eq_left, keyOf, implies_true, fillC]
      have hpn' : 0 ≤ st.2.getD n 0 ∧ st.2.getD n 0 ≤ x * y - 1 := by omega
      generalize hpd : st.2.getD n 0 = pn at hpn hpn' hbfs ⊢
      have hnxm : ∀ k, k < (stepsOf x y (topsOf x y cs) pn s).length → 0 ≤ (stepsOf x y (topsOf x y cs) pn s).getD k 0 ∧ (stepsOf x y (topsOf x y cs) pn s).getD k 0 < (((x * y).toNat : Nat) : Int) := fun k hk => hN pn _ (getD_mem hk)
      have hnxl := stepsOf_len (p := pn) (s := s) (ts := topsOf x y cs) hb.2
      have hbfs' : bfs (fun q => stepsOf x y (topsOf x y cs) q s) (m - 1) (n + 1) ((stepsOf x y (topsOf x y cs) pn s).foldl (visit pn) st) = spreadOf x y cs p s := by
        obtain ⟨m', rfl⟩ : ∃ m', m = m' + 1 := ⟨m - 1, by omega⟩
        rw [← hbfs]
        simp only [bfs, if_pos (show n < st.2.length by omega), hpd, Nat.add_sub_cancel]
      generalize hnx : stepsOf x y (topsOf x y cs) pn s = nx at hnxm hnxl hbfs' ⊢
      refine ev_loop (fun m2 fr N => ∃ (i u : Nat) (st' : List Int × List Int), i + m2 = nx.length ∧ st' = (nx.take i).foldl (visit pn) st ∧ BInv (x * y).toNat st' ∧ Pre M N ∧ Live N M.length (.row [.I x, .I y, .I z, .ref t o cs.length] true 0) ∧
        Live N (M.length + 1) (.row (intL st'.1) true 1) ∧ Live N (M.length + 2) (.row (intL (topsOf x y cs)) true 1) ∧ M.length + 3 ≤ u ∧ u ≠ M'.length ∧ Live N u (.row (intL st'.2) true 1) ∧ Live N M'.length (.row (intL nx) true 1) ∧
        n < st'.2.length ∧ st'.2.getD n 0 = pn ∧
        fr 2 = .I s ∧ fr 3 = .ptr M.length 0 ∧ fr 7 = .ref (M.length + 1) 0 (x * y).toNat ∧ fr 8 = .ref (M.length + 2) 0 (x * y).toNat ∧ fr 10 = .ref u 0 st'.2.length ∧ fr 11 = .I n ∧ fr 12 = .ref M'.length 0 nx.length ∧ fr 13 = .I i) nx.length
        ⟨0, u, st, by omega, rfl, hinv, Pre.app' hpre, hbox.app, hout.app, htop.app, hu, by have := hlist.lt; omega, hlist.app, Live.new, by omega, hpd, h2, h3, h7, h8, h10, h11, rfl, rfl⟩ ?_
      have hw3 : M.length + 3 ≤ M'.length := by have := htop.lt; omega
      clear hinv hbox hout htop hlist h2 h3 h7 h8 h10 h11 hle hol hbfs hpd
      rintro m2 fr N ⟨i, u', st', him, hst', hinv, hpre', hbox, hout, htop, hu', hun, hlist, hnxL, hnl', hpd, h2, h3, h7, h8, h10, h11, h12, h13⟩
      have hle := hinv.le
      have hol := hinv.len
      simp (disch := omega) only [h2, h3, h7, h8, h10, h11, h12, h13, ↓SXd, SXu, slBounds, ↓sop, ↓aop, ↓reduceIte, LV.cells, AOp.dst, LV.I, LV.B, LV.U, LV.S, LV.nil, Nat.reduceEqDiff, Nat.reduceAdd, Nat.reduceMul, Nat.reduceSub, Nat.reduceLeDiff, Nat.reduceBEq, Nat.reduceDiv, Nat.reduceMod, Int.reduceToNat, Int.reduceLT, Int.reduceLE, Int.reduceAdd, Int.reduceSub, Int.reduceMul, Int.reduceEq, Int.reduceNeg, reduceCtorEq, resV, resAll, ARes.ev, LV.flat, ite_true, ite_false, exists_eq_left', exists_eq_left, keyOf, implies_true, fillC]
      refine condC_dec (fun hi => ?_) (fun hi => ?_)
      · have hq := hnxm i (by omega)
        have hvp := hinv.val pn.toNat (by omega)
        have hstep : (nx.take (i + 1)).foldl (visit pn) st = visit pn st' (nx.getD i 0) := by
          rw [take_succ_foldl _ _ _ _ 0 (by omega), ← hst']
        have hkeep := visit_keep (p := pn) (q := nx.getD i 0) hnl'
        have hinv' := hinv.visit hpn hq
        simp (disch := omega) only [h2, h3, h7, h8, h10, h11, h12, h13, hnxL.cell, hout.cell, intL_get, ↓SXd, SXu, slBounds, ↓sop, ↓aop, ↓reduceIte, LV.cells, AOp.dst, LV.I, LV.B, LV.U, LV.S, LV.nil, Nat.reduceEqDiff, Nat.reduceAdd, Nat.reduceMul, Nat.reduceSub, Nat.reduceLeDiff, Nat.reduceBEq, Nat.reduceDiv, Nat.reduceMod, Int.reduceToNat, Int.reduceLT, Int.reduceLE, Int.reduceAdd, Int.reduceSub, Int.reduceMul, Int.reduceEq, Int.reduceNeg, reduceCtorEq, resV, resAll, ARes.ev, LV.flat, ite_true, ite_false, exists_eq_left', exists_eq_left, keyOf, implies_true, fillC]
        refine condC_dec (fun hneg => ?_) (fun hneg => ?_)
        · simp (disch := omega) only [h2, h3, h7, h8, h10, h11, h12, h13, hnxL.cell, hout.cell, hlist.cell, intL_get, hpd, ↓SXd, SXu, slBounds, ↓sop, ↓aop, ↓reduceIte, LV.cells, AOp.dst, LV.I, LV.B, LV.U, LV.S, LV.nil, Nat.reduceEqDiff, Nat.reduceAdd, Nat.reduceMul, Nat.reduceSub, Nat.reduceLeDiff, Nat.reduceBEq, Nat.reduceDiv, Nat.reduceMod, Int.reduceToNat, Int.reduceLT, Int.reduceLE, Int.reduceAdd, Int.reduceSub, Int.reduceMul, Int.reduceEq, Int.reduceNeg, reduceCtorEq, resV, resAll, ARes.ev, LV.flat, ite_true, ite_false, exists_eq_left', exists_eq_left, keyOf, implies_true, fillC]
          refine memK_int hout (by omega) fun N1 l1 l2 l3 => ?_
          have hnxL1 := live_step hnxL (by have := hpre.1; have := hbox.lt; omega) l3
          have hlist1 := live_step hlist (by omega) l3
          simp (disch := omega) only [h2, h3, h7, h8, h10, h11, h12, h13, hnxL1.cell, intL_get, ↓SXd, SXu, slBounds, ↓sop, ↓aop, ↓reduceIte, LV.cells, AOp.dst, LV.I, LV.B, LV.U, LV.S, LV.nil, Nat.reduceEqDiff, Nat.reduceAdd, Nat.reduceMul, Nat.reduceSub, Nat.reduceLeDiff, Nat.reduceBEq, Nat.reduceDiv, Nat.reduceMod, Int.reduceToNat, Int.reduceLT, Int.reduceLE, Int.reduceAdd, Int.reduceSub, Int.reduceMul, Int.reduceEq, Int.reduceNeg, reduceCtorEq, resV, resAll, ARes.ev, LV.flat, ite_true, ite_false, exists_eq_left', exists_eq_left, keyOf, implies_true, fillC]
          refine appendK_int hlist1 (by omega) fun N2 k1 k2 k3 => ?_
          simp (disch := omega) only [h2, h3, h7, h8, h10, h11, h12, h13, ↓SXd, SXu, slBounds, ↓sop, ↓aop, ↓reduceIte, LV.cells, AOp.dst, LV.I, LV.B, LV.U, LV.S, LV.nil, Nat.reduceEqDiff, Nat.reduceAdd, Nat.reduceMul, Nat.reduceSub, Nat.reduceLeDiff, Nat.reduceBEq, Nat.reduceDiv, Nat.reduceMod, Int.reduceToNat, Int.reduceLT, Int.reduceLE, Int.reduceAdd, Int.reduceSub, Int.reduceMul, Int.reduceEq, Int.reduceNeg, reduceCtorEq, resV, resAll, ARes.ev, LV.flat, ite_true, ite_false, exists_eq_left', exists_eq_left, keyOf, implies_true, fillC]
          have hv : visit pn st' (nx.getD i 0) = (st'.1.set (nx.getD i 0).toNat (st'.1.getD pn.toNat 0 + 1), st'.2 ++ [nx.getD i 0]) := by unfold visit; rw [if_pos hneg]
          rw [hv] at hstep hkeep hinv'
          refine ⟨m2 - 1, by omega, i + 1, _, _, by omega, hstep.symm, hinv', pre_step (pre_step hpre' (by omega) (j := 0) l1 l3) (by omega) k1 k3, live_step (live_step hbox (by omega) l3) (by omega) k3, live_step l2 (by omega) k3,
            live_step (live_step htop (by omega) l3) (by omega) k3, ?_, ?_, k2, live_step hnxL1 (by omega) k3, hkeep.1, hkeep.2.trans hpd, h2, h3, h7, h8, rfl, h11, h12, eqI (natI _)⟩
          · have := hpre'.1; have := hlist.lt; omega
          · have := hnxL1.lt; omega
        · simp (disch := omega) only [h2, h3, h7, h8, h10, h11, h12, h13, ↓SXd, SXu, slBounds, ↓sop, ↓aop, ↓reduceIte, LV.cells, AOp.dst, LV.I, LV.B, LV.U, LV.S, LV.nil, Nat.reduceEqDiff, Nat.reduceAdd, Nat.reduceMul, Nat.reduceSub, Nat.reduceLeDiff, Nat.reduceBEq, Nat.reduceDiv, Nat.reduceMod, Int.reduceToNat, Int.reduceLT, Int.reduceLE, Int.reduceAdd, Int.reduceSub, Int.reduceMul, Int.reduceEq, Int.reduceNeg, reduceCtorEq, resV, resAll, ARes.ev, LV.flat, ite_true, ite_false, exists_eq_left', exists_eq_left, keyOf, implies_true, fillC]
          have hv : visit pn st' (nx.getD i 0) = st' := by unfold visit; rw [if_neg hneg]
          rw [hv] at hstep
          exact ⟨m2 - 1, by omega, i + 1, u', st', by omega, hstep.symm, hinv, hpre', hbox, hout, htop, hu', hun, hlist, hnxL, hnl', hpd, h2, h3, h7, h8, h10, h11, h12, eqI (natI _)⟩
      · simp (disch := omega) only [h2, h3, h7, h8, h10, h11, h12, h13, ↓SXd, SXu, slBounds, ↓sop, ↓aop, ↓reduceIte, LV.cells, AOp.dst, LV.I, LV.B, LV.U, LV.S, LV.nil, Nat.reduceEqDiff, Nat.reduceAdd, Nat.reduceMul, Nat.reduceSub, Nat.reduceLeDiff, Nat.reduceBEq, Nat.reduceDiv, Nat.reduceMod, Int.reduceToNat, Int.reduceLT, Int.reduceLE, Int.reduceAdd, Int.reduceSub, Int.reduceMul, Int.reduceEq, Int.reduceNeg, reduceCtorEq, resV, resAll, ARes.ev, LV.flat, ite_true, ite_false, exists_eq_left', exists_eq_left, keyOf, implies_true, fillC]
        have : i = nx.length := by omega
        subst this
        rw [List.take_length] at hst'
        rw [← hst'] at hbfs'
        exact ⟨m - 1, by omega, n + 1, u', st', by omega, hpre', hbox, hout, htop, hu', hlist, hinv, by omega, hbfs', h2, h3, h7, h8, h10, eqI (natI _)⟩
    · simp (disch := omega) only [h2, h3, h7, h8, h10, h11, ↓SXd, SXu, slBounds, ↓sop, ↓aop, ↓reduceIte, LV.cells, AOp.dst, LV.I, LV.B, LV.U, LV.S, LV.nil, Nat.reduceEqDiff, Nat.reduceAdd, Nat.reduceMul, Nat.reduceSub, Nat.reduceLeDiff, Nat.reduceBEq, Nat.reduceDiv, Nat.reduceMod, Int.reduceToNat, Int.reduceLT, Int.reduceLE, Int.reduceAdd, Int.reduceSub, Int.reduceMul, Int.reduceEq, Int.reduceNeg, reduceCtorEq, resV, resAll, ARes.ev, LV.flat, ite_true, ite_false, exists_eq_left', exists_eq_left, keyOf, implies_true, fillC]
      have e : spreadOf x y cs p s = st.1 := by
        rw [← hbfs]
        cases m with
        | zero => rfl
        | succ m => simp only [bfs, if_neg (show ¬ n < st.2.length by omega)]
      rw [e]
      exact cmp_keepL hpre (by omega) hout (intL_lo _) (by simp [rn, rn0, rn1])
end Go.Ab

/- Contracts: the reference's regions. -/
namespace Go.Ab
open Go
set_option linter.unusedSimpArgs false
set_option linter.unusedVariables false

theorem h_l10Region {x y z p s : Int} {t o : Nat} {cs : List Cell} {M : Mem} (h : Tri M t o cs) (hn : cs.length ≤ 1000000000) (hH : HeapOK x y z cs) (hp : 0 ≤ p ∧ p ≤ x * y - 1) :
    CallsTo PG F.spec_l10Region [.agg [.I x, .I y, .I z, .ref t o cs.length], .I p, .I s] M (.ref M.length 0 (regionOf x y cs p s).length) (M ++ [some (.row (intL (regionOf x y cs p s)) true 1)]) := by
  have hb := mul_bound hH.1.1 hH.1.2.1
  have hsl := spreadOf_len (cs := cs) (s := s) hp
  refine calls_run K.spec_l10Region rfl ?_
  simp (disch := omega) only [C.spec_l10Region, ↓SXd, SXu, slBounds, ↓sop, ↓aop, ↓reduceIte, LV.cells, AOp.dst, LV.I, LV.B, LV.U, LV.S, LV.nil, Nat.reduceEqDiff, Nat.reduceAdd, Nat.reduceMul, Nat.reduceSub, Nat.reduceLeDiff, Nat.reduceBEq, Nat.reduceDiv, Nat.reduceMod, Int.reduceToNat, Int.reduceLT, Int.reduceLE, Int.reduceAdd, Int.reduceSub, Int.reduceMul, Int.reduceEq, Int.reduceNeg, reduceCtorEq, resV, resAll, ARes.ev, LV.flat, ite_true, ite_false, exists_eq_left', exists_eq_left, keyOf, implies_true, fillC]
  refine callK_of (h_l10Spread h.app hn hH hp) ?_
  simp (disch := omega) only [↓SXd, SXu, slBounds, ↓sop, ↓aop, ↓reduceIte, LV.cells, AOp.dst, LV.I, LV.B, LV.U, LV.S, LV.nil, Nat.reduceEqDiff, Nat.reduceAdd, Nat.reduceMul, Nat.reduceSub, Nat.reduceLeDiff, Nat.reduceBEq, Nat.reduceDiv, Nat.reduceMod, Int.reduceToNat, Int.reduceLT, Int.reduceLE, Int.reduceAdd, Int.reduceSub, Int.reduceMul, Int.reduceEq, Int.reduceNeg, reduceCtorEq, resV, resAll, ARes.ev, LV.flat, ite_true, ite_false, exists_eq_left', exists_eq_left, keyOf, implies_true, fillC]
  refine ev_loop (fun m fr M' => ∃ (k u : Nat) (acc : List Int), k + m = (x * y).toNat ∧ Pre M M' ∧ Live M' (M.length + 2) (.row (intL (spreadOf x y cs p s)) true 1) ∧ M.length ≤ u ∧ u ≠ M.length + 2 ∧ Live M' u (.row (intL acc) true 1) ∧
    fr 7 = .ref u 0 acc.length ∧ fr 8 = .ref (M.length + 2) 0 (x * y).toNat ∧ fr 9 = .I k ∧ acc = (nums k).filter (fun q => decide (0 ≤ (spreadOf x y cs p s).getD q.toNat 0))) (x * y).toNat
    ⟨0, M.length + 1, [], by omega, Pre.app _ _, Live.newj rfl, by omega, by omega, Live.newj rfl, rfl, rfl, rfl, rfl⟩ ?_
  rintro m fr M' ⟨k, u, acc, hk, hpre, hsp, hu, hun, hout, h7, h8, h9, hacc⟩
  simp (disch := omega) only [h7, h8, h9, ↓SXd, SXu, slBounds, ↓sop, ↓aop, ↓reduceIte, LV.cells, AOp.dst, LV.I, LV.B, LV.U, LV.S, LV.nil, Nat.reduceEqDiff, Nat.reduceAdd, Nat.reduceMul, Nat.reduceSub, Nat.reduceLeDiff, Nat.reduceBEq, Nat.reduceDiv, Nat.reduceMod, Int.reduceToNat, Int.reduceLT, Int.reduceLE, Int.reduceAdd, Int.reduceSub, Int.reduceMul, Int.reduceEq, Int.reduceNeg, reduceCtorEq, resV, resAll, ARes.ev, LV.flat, ite_true, ite_false, exists_eq_left', exists_eq_left, keyOf, implies_true, fillC]
  refine condC_dec (fun hlt => ?_) (fun hlt => ?_)
  · have hal : acc.length ≤ 1000 := by
      rw [hacc]
      have := List.length_filter_le (fun q => decide (0 ≤ (spreadOf x y cs p s).getD q.toNat 0)) (nums k)
      rw [nums_len] at this
      omega
    simp (disch := omega) only [h7, h8, h9, hsp.cell, intL_get, ↓SXd, SXu, slBounds, ↓sop, ↓aop, ↓reduceIte, LV.cells, AOp.dst, LV.I, LV.B, LV.U, LV.S, LV.nil, Nat.reduceEqDiff, Nat.reduceAdd, Nat.reduceMul, Nat.reduceSub, Nat.reduceLeDiff, Nat.reduceBEq, Nat.reduceDiv, Nat.reduceMod, Int.reduceToNat, Int.reduceLT, Int.reduceLE, Int.reduceAdd, Int.reduceSub, Int.reduceMul, Int.reduceEq, Int.reduceNeg, reduceCtorEq, resV, resAll, ARes.ev, LV.flat, ite_true, ite_false, exists_eq_left', exists_eq_left, keyOf, implies_true, fillC]
    refine condC_dec (fun he => ?_) (fun he => ?_)
    · simp (disch := omega) only [h7, h8, h9, ↓SXd, SXu, slBounds, ↓sop, ↓aop, ↓reduceIte, LV.cells, AOp.dst, LV.I, LV.B, LV.U, LV.S, LV.nil, Nat.reduceEqDiff, Nat.reduceAdd, Nat.reduceMul, Nat.reduceSub, Nat.reduceLeDiff, Nat.reduceBEq, Nat.reduceDiv, Nat.reduceMod, Int.reduceToNat, Int.reduceLT, Int.reduceLE, Int.reduceAdd, Int.reduceSub, Int.reduceMul, Int.reduceEq, Int.reduceNeg, reduceCtorEq, resV, resAll, ARes.ev, LV.flat, ite_true, ite_false, exists_eq_left', exists_eq_left, keyOf, implies_true, fillC]
      refine appendK_int hout (by omega) fun M'' l1 l2 l3 => ?_
      simp (disch := omega) only [h7, h8, h9, ↓SXd, SXu, slBounds, ↓sop, ↓aop, ↓reduceIte, LV.cells, AOp.dst, LV.I, LV.B, LV.U, LV.S, LV.nil, Nat.reduceEqDiff, Nat.reduceAdd, Nat.reduceMul, Nat.reduceSub, Nat.reduceLeDiff, Nat.reduceBEq, Nat.reduceDiv, Nat.reduceMod, Int.reduceToNat, Int.reduceLT, Int.reduceLE, Int.reduceAdd, Int.reduceSub, Int.reduceMul, Int.reduceEq, Int.reduceNeg, reduceCtorEq, resV, resAll, ARes.ev, LV.flat, ite_true, ite_false, exists_eq_left', exists_eq_left, keyOf, implies_true, fillC]
      refine ⟨m - 1, by omega, k + 1, _, _, by omega, pre_step hpre hu l1 l3, live_step hsp (by omega) l3, ?_, ?_, l2, rfl, h8, eqI (natI _), ?_⟩
      · have := hpre.1; omega
      · have := hsp.lt; omega
      · rw [nums_succ, List.filter_append, ← hacc]
        congr 1
        rw [List.filter_cons_of_pos (by simpa using he)]; rfl
    · simp (disch := omega) only [h7, h8, h9, ↓SXd, SXu, slBounds, ↓sop, ↓aop, ↓reduceIte, LV.cells, AOp.dst, LV.I, LV.B, LV.U, LV.S, LV.nil, Nat.reduceEqDiff, Nat.reduceAdd, Nat.reduceMul, Nat.reduceSub, Nat.reduceLeDiff, Nat.reduceBEq, Nat.reduceDiv, Nat.reduceMod, Int.reduceToNat, Int.reduceLT, Int.reduceLE, Int.reduceAdd, Int.reduceSub, Int.reduceMul, Int.reduceEq, Int.reduceNeg, reduceCtorEq, resV, resAll, ARes.ev, LV.flat, ite_true, ite_false, exists_eq_left', exists_eq_left, keyOf, implies_true, fillC]
      refine ⟨m - 1, by omega, k + 1, u, acc, by omega, hpre, hsp, hu, hun, hout, h7, h8, eqI (natI _), ?_⟩
      rw [nums_succ, List.filter_append, ← hacc, List.filter_cons_of_neg (by simpa using he)]; simp
  · simp (disch := omega) only [h7, h8, h9, ↓SXd, SXu, slBounds, ↓sop, ↓aop, ↓reduceIte, LV.cells, AOp.dst, LV.I, LV.B, LV.U, LV.S, LV.nil, Nat.reduceEqDiff, Nat.reduceAdd, Nat.reduceMul, Nat.reduceSub, Nat.reduceLeDiff, Nat.reduceBEq, Nat.reduceDiv, Nat.reduceMod, Int.reduceToNat, Int.reduceLT, Int.reduceLE, Int.reduceAdd, Int.reduceSub, Int.reduceMul, Int.reduceEq, Int.reduceNeg, reduceCtorEq, resV, resAll, ARes.ev, LV.flat, ite_true, ite_false, exists_eq_left', exists_eq_left, keyOf, implies_true, fillC]
    have : k = (x * y).toNat := by omega
    subst this
    rw [show regionOf x y cs p s = acc from hacc.symm]
    exact cmp_keepL hpre hu hout (intL_lo acc) (by simp [rn, rn0, rn1])

/-- What TopRegion answers. -/
noncomputable def topRegionOf (x y z : Int) (cs : List Cell) (p s : Int) : Option (List Int) := if HeapOK x y z cs ∧ (0 ≤ p ∧ p ≤ x * y - 1) ∧ 0 ≤ s then some (regionOf x y cs p s) else none

theorem h_sTopRegion {x y z p s : Int} {t o : Nat} {cs : List Cell} {M : Mem} (h : Tri M t o cs) (hn : cs.length ≤ 1000000000) :
    CallsTo PG F.spec_TopRegion [.agg [.I x, .I y, .I z, .ref t o cs.length], .I p, .I s] M
      (.tup [.ref M.length 0 ((topRegionOf x y z cs p s).getD []).length, .B (topRegionOf x y z cs p s).isSome]) (M ++ [some (.row (intL ((topRegionOf x y z cs p s).getD [])) true 1)]) := by
  refine calls_run K.spec_TopRegion rfl ?_
  simp (disch := omega) only [C.spec_TopRegion, ↓SXd, SXu, slBounds, ↓sop, ↓aop, ↓reduceIte, LV.cells, AOp.dst, LV.I, LV.B, LV.U, LV.S, LV.nil, Nat.reduceEqDiff, Nat.reduceAdd, Nat.reduceMul, Nat.reduceSub, Nat.reduceLeDiff, Nat.reduceBEq, Nat.reduceDiv, Nat.reduceMod, Int.reduceToNat, Int.reduceLT, Int.reduceLE, Int.reduceAdd, Int.reduceSub, Int.reduceMul, Int.reduceEq, Int.reduceNeg, reduceCtorEq, resV, resAll, ARes.ev, LV.flat, ite_true, ite_false, exists_eq_left', exists_eq_left, keyOf, implies_true, fillC]
  refine callK_of (h_l10Column h.app hn) ?_
  unfold topRegionOf
  by_cases hH : HeapOK x y z cs ∧ (0 ≤ p ∧ p ≤ x * y - 1)
  · by_cases hs : 0 ≤ s
    · have hs' : ¬ s < 0 := by omega
      rw [if_pos ⟨hH.1, hH.2, hs⟩]
      simp (disch := omega) only [hH, hs', ↓SXd, SXu, slBounds, ↓sop, ↓aop, ↓reduceIte, LV.cells, AOp.dst, LV.I, LV.B, LV.U, LV.S, LV.nil, Nat.reduceEqDiff, Nat.reduceAdd, Nat.reduceMul, Nat.reduceSub, Nat.reduceLeDiff, Nat.reduceBEq, Nat.reduceDiv, Nat.reduceMod, Int.reduceToNat, Int.reduceLT, Int.reduceLE, Int.reduceAdd, Int.reduceSub, Int.reduceMul, Int.reduceEq, Int.reduceNeg, reduceCtorEq, resV, resAll, ARes.ev, LV.flat, ite_true, ite_false, exists_eq_left', exists_eq_left, keyOf, implies_true, fillC]
      refine callK_of (h_l10Region h.app hn hH.1 hH.2) ?_
      simp (disch := omega) only [↓SXd, SXu, slBounds, ↓sop, ↓aop, ↓reduceIte, LV.cells, AOp.dst, LV.I, LV.B, LV.U, LV.S, LV.nil, Nat.reduceEqDiff, Nat.reduceAdd, Nat.reduceMul, Nat.reduceSub, Nat.reduceLeDiff, Nat.reduceBEq, Nat.reduceDiv, Nat.reduceMod, Int.reduceToNat, Int.reduceLT, Int.reduceLE, Int.reduceAdd, Int.reduceSub, Int.reduceMul, Int.reduceEq, Int.reduceNeg, reduceCtorEq, resV, resAll, ARes.ev, LV.flat, ite_true, ite_false, exists_eq_left', exists_eq_left, keyOf, implies_true, fillC]
      exact cmp_keep1 (j := 1) rfl (intL_lo _) (by simp [rn, rn0, rn1, keepR_n])
    · have hs' : s < 0 := by omega
      rw [if_neg (fun e => hs e.2.2)]
      simp (disch := omega) only [hH, hs', ↓SXd, SXu, slBounds, ↓sop, ↓aop, ↓reduceIte, LV.cells, AOp.dst, LV.I, LV.B, LV.U, LV.S, LV.nil, Nat.reduceEqDiff, Nat.reduceAdd, Nat.reduceMul, Nat.reduceSub, Nat.reduceLeDiff, Nat.reduceBEq, Nat.reduceDiv, Nat.reduceMod, Int.reduceToNat, Int.reduceLT, Int.reduceLE, Int.reduceAdd, Int.reduceSub, Int.reduceMul, Int.reduceEq, Int.reduceNeg, reduceCtorEq, resV, resAll, ARes.ev, LV.flat, ite_true, ite_false, exists_eq_left', exists_eq_left, keyOf, implies_true, fillC]
      exact cmp_keep1 (j := 1) rfl rfl (by simp [rn, rn0, rn1, keepR_n])
  · rw [if_neg (fun e => hH ⟨e.1, e.2.1⟩)]
    simp (disch := omega) only [hH, ↓SXd, SXu, slBounds, ↓sop, ↓aop, ↓reduceIte, LV.cells, AOp.dst, LV.I, LV.B, LV.U, LV.S, LV.nil, Nat.reduceEqDiff, Nat.reduceAdd, Nat.reduceMul, Nat.reduceSub, Nat.reduceLeDiff, Nat.reduceBEq, Nat.reduceDiv, Nat.reduceMod, Int.reduceToNat, Int.reduceLT, Int.reduceLE, Int.reduceAdd, Int.reduceSub, Int.reduceMul, Int.reduceEq, Int.reduceNeg, reduceCtorEq, resV, resAll, ARes.ev, LV.flat, ite_true, ite_false, exists_eq_left', exists_eq_left, keyOf, implies_true, fillC]
    exact cmp_keep1 (j := 1) rfl rfl (by simp [rn, rn0, rn1, keepR_n])

/-- What CountRegions answers. -/
noncomputable def countOf (x y z : Int) (cs : List Cell) (s : Int) : Option Int := if HeapOK x y z cs ∧ 0 ≤ s then some (countRegions x y cs s) else none

theorem h_sCountRegions {x y z s : Int} {t o : Nat} {cs : List Cell} {M : Mem} (h : Tri M t o cs) (hn : cs.length ≤ 1000000000) :
    CallsTo PG F.spec_CountRegions [.agg [.I x, .I y, .I z, .ref t o cs.length], .I s] M (.tup [.I ((countOf x y z cs s).getD 0), .B (countOf x y z cs s).isSome]) M := by
  refine calls_run K.spec_CountRegions rfl ?_
  simp (disch := omega) only [C.spec_CountRegions, ↓SXd, SXu, slBounds, ↓sop, ↓aop, ↓reduceIte, LV.cells, AOp.dst, LV.I, LV.B, LV.U, LV.S, LV.nil, Nat.reduceEqDiff, Nat.reduceAdd, Nat.reduceMul, Nat.reduceSub, Nat.reduceLeDiff, Nat.reduceBEq, Nat.reduceDiv, Nat.reduceMod, Int.reduceToNat, Int.reduceLT, Int.reduceLE, Int.reduceAdd, Int.reduceSub, Int.reduceMul, Int.reduceEq, Int.reduceNeg, reduceCtorEq, resV, resAll, ARes.ev, LV.flat, ite_true, ite_false, exists_eq_left', exists_eq_left, keyOf, implies_true, fillC]
  refine callK_of (h_l2Heap h.app hn) ?_
  unfold countOf
  by_cases hH : HeapOK x y z cs
  · by_cases hs : 0 ≤ s
    · have hs' : ¬ s < 0 := by omega
      have hb := mul_bound hH.1.1 hH.1.2.1
      rw [if_pos ⟨hH, hs⟩]
      simp (disch := omega) only [hH, hs', ↓SXd, SXu, slBounds, ↓sop, ↓aop, ↓reduceIte, LV.cells, AOp.dst, LV.I, LV.B, LV.U, LV.S, LV.nil, Nat.reduceEqDiff, Nat.reduceAdd, Nat.reduceMul, Nat.reduceSub, Nat.reduceLeDiff, Nat.reduceBEq, Nat.reduceDiv, Nat.reduceMod, Int.reduceToNat, Int.reduceLT, Int.reduceLE, Int.reduceAdd, Int.reduceSub, Int.reduceMul, Int.reduceEq, Int.reduceNeg, reduceCtorEq, resV, resAll, ARes.ev, LV.flat, ite_true, ite_false, exists_eq_left', exists_eq_left, keyOf, implies_true, fillC]
      refine ev_loop (fun m fr M' => ∃ k : Nat, k + m = (x * y).toNat ∧ Pre M M' ∧ Live M' M.length (.row [.I x, .I y, .I z, .ref t o cs.length] true 0) ∧ fr 1 = .I s ∧ fr 2 = .ptr M.length 0 ∧ fr 7 = .I k ∧
        fr 6 = .I (((nums k).filter fun p => decide ((regionOf x y cs p s).getD 0 0 = p)).length : Nat)) (x * y).toNat ⟨0, by omega, Pre.app _ _, Live.new, rfl, rfl, rfl, rfl⟩ ?_
      rintro m fr M' ⟨k, hk, hpre, hbox, h1, h2, h7, h6⟩
      simp (disch := omega) only [h1, h2, h6, h7, hbox.cell, ↓SXd, SXu, slBounds, ↓sop, ↓aop, ↓reduceIte, LV.cells, AOp.dst, LV.I, LV.B, LV.U, LV.S, LV.nil, Nat.reduceEqDiff, Nat.reduceAdd, Nat.reduceMul, Nat.reduceSub, Nat.reduceLeDiff, Nat.reduceBEq, Nat.reduceDiv, Nat.reduceMod, Int.reduceToNat, Int.reduceLT, Int.reduceLE, Int.reduceAdd, Int.reduceSub, Int.reduceMul, Int.reduceEq, Int.reduceNeg, reduceCtorEq, resV, resAll, ARes.ev, LV.flat, ite_true, ite_false, exists_eq_left', exists_eq_left, keyOf, implies_true, fillC]
      refine condC_dec (fun hlt => ?_) (fun hlt => ?_)
      · have hr := regionOf_self (cs := cs) (s := s) (x := x) (y := y) (p := (k : Int)) (by omega)
        have hr0 : 0 < (regionOf x y cs (k : Int) s).length := List.length_pos_of_mem hr
        have hcl := List.length_filter_le (fun p => decide ((regionOf x y cs p s).getD 0 0 = p)) (nums k)
        rw [nums_len] at hcl
        simp (disch := omega) only [h1, h2, h6, h7, hbox.cells, ↓SXd, SXu, slBounds, ↓sop, ↓aop, ↓reduceIte, LV.cells, AOp.dst, LV.I, LV.B, LV.U, LV.S, LV.nil, Nat.reduceEqDiff, Nat.reduceAdd, Nat.reduceMul, Nat.reduceSub, Nat.reduceLeDiff, Nat.reduceBEq, Nat.reduceDiv, Nat.reduceMod, Int.reduceToNat, Int.reduceLT, Int.reduceLE, Int.reduceAdd, Int.reduceSub, Int.reduceMul, Int.reduceEq, Int.reduceNeg, reduceCtorEq, resV, resAll, ARes.ev, LV.flat, ite_true, ite_false, exists_eq_left', exists_eq_left, keyOf, implies_true, fillC]
        refine callK_of (h_l10Region (h.pre hpre) hn hH (by omega)) ?_
        simp (disch := omega) only [h1, h2, h6, h7, intL_get, ↓SXd, SXu, slBounds, ↓sop, ↓aop, ↓reduceIte, LV.cells, AOp.dst, LV.I, LV.B, LV.U, LV.S, LV.nil, Nat.reduceEqDiff, Nat.reduceAdd, Nat.reduceMul, Nat.reduceSub, Nat.reduceLeDiff, Nat.reduceBEq, Nat.reduceDiv, Nat.reduceMod, Int.reduceToNat, Int.reduceLT, Int.reduceLE, Int.reduceAdd, Int.reduceSub, Int.reduceMul, Int.reduceEq, Int.reduceNeg, reduceCtorEq, resV, resAll, ARes.ev, LV.flat, ite_true, ite_false, exists_eq_left', exists_eq_left, keyOf, implies_true, fillC]
        refine condC_dec (fun he => ?_) (fun he => ?_)
        · simp (disch := omega) only [h1, h2, h6, h7, ↓SXd, SXu, slBounds, ↓sop, ↓aop, ↓reduceIte, LV.cells, AOp.dst, LV.I, LV.B, LV.U, LV.S, LV.nil, Nat.reduceEqDiff, Nat.reduceAdd, Nat.reduceMul, Nat.reduceSub, Nat.reduceLeDiff, Nat.reduceBEq, Nat.reduceDiv, Nat.reduceMod, Int.reduceToNat, Int.reduceLT, Int.reduceLE, Int.reduceAdd, Int.reduceSub, Int.reduceMul, Int.reduceEq, Int.reduceNeg, reduceCtorEq, resV, resAll, ARes.ev, LV.flat, ite_true, ite_false, exists_eq_left', exists_eq_left, keyOf, implies_true, fillC]
          refine ⟨m - 1, by omega, k + 1, by omega, Pre.app' hpre, hbox.app, h1, h2, eqI (natI _), eqI ?_⟩
          rw [nums_succ, List.filter_append, List.filter_cons_of_pos (by simpa using he), List.length_append]
          rfl
        · simp (disch := omega) only [h1, h2, h6, h7, ↓SXd, SXu, slBounds, ↓sop, ↓aop, ↓reduceIte, LV.cells, AOp.dst, LV.I, LV.B, LV.U, LV.S, LV.nil, Nat.reduceEqDiff, Nat.reduceAdd, Nat.reduceMul, Nat.reduceSub, Nat.reduceLeDiff, Nat.reduceBEq, Nat.reduceDiv, Nat.reduceMod, Int.reduceToNat, Int.reduceLT, Int.reduceLE, Int.reduceAdd, Int.reduceSub, Int.reduceMul, Int.reduceEq, Int.reduceNeg, reduceCtorEq, resV, resAll, ARes.ev, LV.flat, ite_true, ite_false, exists_eq_left', exists_eq_left, keyOf, implies_true, fillC]
          refine ⟨m - 1, by omega, k + 1, by omega, Pre.app' hpre, hbox.app, h1, h2, eqI (natI _), ?_⟩
          rw [nums_succ, List.filter_append, List.filter_cons_of_neg (by simpa using he), List.filter_nil, List.append_nil]
          exact h6
      · simp (disch := omega) only [h1, h2, h6, h7, ↓SXd, SXu, slBounds, ↓sop, ↓aop, ↓reduceIte, LV.cells, AOp.dst, LV.I, LV.B, LV.U, LV.S, LV.nil, Nat.reduceEqDiff, Nat.reduceAdd, Nat.reduceMul, Nat.reduceSub, Nat.reduceLeDiff, Nat.reduceBEq, Nat.reduceDiv, Nat.reduceMod, Int.reduceToNat, Int.reduceLT, Int.reduceLE, Int.reduceAdd, Int.reduceSub, Int.reduceMul, Int.reduceEq, Int.reduceNeg, reduceCtorEq, resV, resAll, ARes.ev, LV.flat, ite_true, ite_false, exists_eq_left', exists_eq_left, keyOf, implies_true, fillC]
        have : k = (x * y).toNat := by omega
        subst this
        exact cmp_pre hpre rfl
    · have hs' : s < 0 := by omega
      rw [if_neg (fun e => hs e.2)]
      simp (disch := omega) only [hH, hs', ↓SXd, SXu, slBounds, ↓sop, ↓aop, ↓reduceIte, LV.cells, AOp.dst, LV.I, LV.B, LV.U, LV.S, LV.nil, Nat.reduceEqDiff, Nat.reduceAdd, Nat.reduceMul, Nat.reduceSub, Nat.reduceLeDiff, Nat.reduceBEq, Nat.reduceDiv, Nat.reduceMod, Int.reduceToNat, Int.reduceLT, Int.reduceLE, Int.reduceAdd, Int.reduceSub, Int.reduceMul, Int.reduceEq, Int.reduceNeg, reduceCtorEq, resV, resAll, ARes.ev, LV.flat, ite_true, ite_false, exists_eq_left', exists_eq_left, keyOf, implies_true, fillC]
      exact cmp_drop rfl
  · rw [if_neg (fun e => hH e.1)]
    simp (disch := omega) only [hH, ↓SXd, SXu, slBounds, ↓sop, ↓aop, ↓reduceIte, LV.cells, AOp.dst, LV.I, LV.B, LV.U, LV.S, LV.nil, Nat.reduceEqDiff, Nat.reduceAdd, Nat.reduceMul, Nat.reduceSub, Nat.reduceLeDiff, Nat.reduceBEq, Nat.reduceDiv, Nat.reduceMod, Int.reduceToNat, Int.reduceLT, Int.reduceLE, Int.reduceAdd, Int.reduceSub, Int.reduceMul, Int.reduceEq, Int.reduceNeg, reduceCtorEq, resV, resAll, ARes.ev, LV.flat, ite_true, ite_false, exists_eq_left', exists_eq_left, keyOf, implies_true, fillC]
    exact cmp_drop rfl
end Go.Ab

/- Contracts: the program's regions. -/
namespace Go.Ab
open Go
set_option linter.unusedSimpArgs false
set_option linter.unusedVariables false

theorem g_TopRegion_no {x y z p s : Int} {t o : Nat} {cs : List Cell} {M : Mem} (h : Tri M t o cs) (hn : cs.length ≤ 1000000000) (hno : ¬ (HeapOK x y z cs ∧ (0 ≤ p ∧ p ≤ x * y - 1) ∧ 0 ≤ s)) :
    CallsTo PG F.impl_TopRegion [.agg [.I x, .I y, .I z, .ref t o cs.length], .I p, .I s] M (.tup [.nil, .B false]) M := by
  refine calls_run K.impl_TopRegion rfl ?_
  simp (disch := omega) only [C.impl_TopRegion, ↓SXd, SXu, slBounds, ↓sop, ↓aop, ↓reduceIte, LV.cells, AOp.dst, LV.I, LV.B, LV.U, LV.S, LV.nil, Nat.reduceEqDiff, Nat.reduceAdd, Nat.reduceMul, Nat.reduceSub, Nat.reduceLeDiff, Nat.reduceBEq, Nat.reduceDiv, Nat.reduceMod, Int.reduceToNat, Int.reduceLT, Int.reduceLE, Int.reduceAdd, Int.reduceSub, Int.reduceMul, Int.reduceEq, Int.reduceNeg, reduceCtorEq, resV, resAll, ARes.ev, LV.flat, ite_true, ite_false, exists_eq_left', exists_eq_left, keyOf, implies_true, fillC]
  refine callK_of (g_isTop (xs := [p]) (o' := 0) h.app hn (Live.newj (j := 1) (b := .row (intL [p]) true 1) rfl).has (by simp)) ?_
  have e : ¬ (HeapOK x y z cs ∧ 0 ≤ s ∧ ∀ k, k < [p].length → 0 ≤ [p].getD k 0 ∧ [p].getD k 0 ≤ x * y - 1) := fun hh => hno ⟨hh.1, hh.2.2 0 (by simp), hh.2.1⟩
  simp (disch := omega) only [e, ↓SXd, SXu, slBounds, ↓sop, ↓aop, ↓reduceIte, LV.cells, AOp.dst, LV.I, LV.B, LV.U, LV.S, LV.nil, Nat.reduceEqDiff, Nat.reduceAdd, Nat.reduceMul, Nat.reduceSub, Nat.reduceLeDiff, Nat.reduceBEq, Nat.reduceDiv, Nat.reduceMod, Int.reduceToNat, Int.reduceLT, Int.reduceLE, Int.reduceAdd, Int.reduceSub, Int.reduceMul, Int.reduceEq, Int.reduceNeg, reduceCtorEq, resV, resAll, ARes.ev, LV.flat, ite_true, ite_false, exists_eq_left', exists_eq_left, keyOf, implies_true, fillC]
  exact cmp_drop rfl

theorem g_isTop_ok {x y z s : Int} {t o t' o' : Nat} {cs : List Cell} {xs : List Int} {M : Mem} (h : Tri M t o cs) (hn : cs.length ≤ 1000000000) (h' : Ints M t' o' xs) (hn' : xs.length ≤ 1000000000)
    (e : HeapOK x y z cs ∧ 0 ≤ s ∧ ∀ k, k < xs.length → 0 ≤ xs.getD k 0 ∧ xs.getD k 0 ≤ x * y - 1) :
    CallsTo PG F.impl_isTop [.agg [.I x, .I y, .I z, .ref t o cs.length], .I s, .ref t' o' xs.length] M (.B true) M := by
  have := g_isTop (z := z) h hn h' hn' (x := x) (y := y) (s := s)
  rwa [decide_eq_true e] at this
theorem g_isTop_no {x y z s : Int} {t o t' o' : Nat} {cs : List Cell} {xs : List Int} {M : Mem} (h : Tri M t o cs) (hn : cs.length ≤ 1000000000) (h' : Ints M t' o' xs) (hn' : xs.length ≤ 1000000000)
    (e : ¬ (HeapOK x y z cs ∧ 0 ≤ s ∧ ∀ k, k < xs.length → 0 ≤ xs.getD k 0 ∧ xs.getD k 0 ≤ x * y - 1)) :
    CallsTo PG F.impl_isTop [.agg [.I x, .I y, .I z, .ref t o cs.length], .I s, .ref t' o' xs.length] M (.B false) M := by
  have := g_isTop (z := z) h hn h' hn' (x := x) (y := y) (s := s)
  rwa [decide_eq_false e] at this

theorem g_TopRegion_ok {x y z p s : Int} {t o : Nat} {cs : List Cell} {M : Mem} (h : Tri M t o cs) (hn : cs.length ≤ 1000000000) (hH : HeapOK x y z cs) (hp : 0 ≤ p ∧ p ≤ x * y - 1) (hs : 0 ≤ s) :
    CallsTo PG F.impl_TopRegion [.agg [.I x, .I y, .I z, .ref t o cs.length], .I p, .I s] M (.tup [.ref M.length 0 (regionOf x y cs p s).length, .B true]) (M ++ [some (.row (intL (regionOf x y cs p s)) true 1)]) := by
  have hb := mul_bound hH.1.1 hH.1.2.1
  have hsl := spreadOf_len (cs := cs) (s := s) hp
  have htl := topsOf_len x y cs
  refine calls_run K.impl_TopRegion rfl ?_
  simp (disch := omega) only [C.impl_TopRegion, ↓SXd, SXu, slBounds, ↓sop, ↓aop, ↓reduceIte, LV.cells, AOp.dst, LV.I, LV.B, LV.U, LV.S, LV.nil, Nat.reduceEqDiff, Nat.reduceAdd, Nat.reduceMul, Nat.reduceSub, Nat.reduceLeDiff, Nat.reduceBEq, Nat.reduceDiv, Nat.reduceMod, Int.reduceToNat, Int.reduceLT, Int.reduceLE, Int.reduceAdd, Int.reduceSub, Int.reduceMul, Int.reduceEq, Int.reduceNeg, reduceCtorEq, resV, resAll, ARes.ev, LV.flat, ite_true, ite_false, exists_eq_left', exists_eq_left, keyOf, implies_true, fillC]
  have e : HeapOK x y z cs ∧ 0 ≤ s ∧ ∀ k, k < [p].length → 0 ≤ [p].getD k 0 ∧ [p].getD k 0 ≤ x * y - 1 := ⟨hH, hs, fun k hk => by
    have : k = 0 := by simpa using hk
    subst this; exact hp⟩
  refine callK_of (g_isTop_ok (xs := [p]) (o' := 0) h.app hn (Live.newj (j := 1) (b := .row (intL [p]) true 1) rfl).has (by simp) e) ?_
  simp (disch := omega) only [↓SXd, SXu, slBounds, ↓sop, ↓aop, ↓reduceIte, LV.cells, AOp.dst, LV.I, LV.B, LV.U, LV.S, LV.nil, Nat.reduceEqDiff, Nat.reduceAdd, Nat.reduceMul, Nat.reduceSub, Nat.reduceLeDiff, Nat.reduceBEq, Nat.reduceDiv, Nat.reduceMod, Int.reduceToNat, Int.reduceLT, Int.reduceLE, Int.reduceAdd, Int.reduceSub, Int.reduceMul, Int.reduceEq, Int.reduceNeg, reduceCtorEq, resV, resAll, ARes.ev, LV.flat, ite_true, ite_false, exists_eq_left', exists_eq_left, keyOf, implies_true, fillC]
  refine callK_of (g_top h.app hn hH) ?_
  simp (disch := omega) only [↓SXd, SXu, slBounds, ↓sop, ↓aop, ↓reduceIte, LV.cells, AOp.dst, LV.I, LV.B, LV.U, LV.S, LV.nil, Nat.reduceEqDiff, Nat.reduceAdd, Nat.reduceMul, Nat.reduceSub, Nat.reduceLeDiff, Nat.reduceBEq, Nat.reduceDiv, Nat.reduceMod, Int.reduceToNat, Int.reduceLT, Int.reduceLE, Int.reduceAdd, Int.reduceSub, Int.reduceMul, Int.reduceEq, Int.reduceNeg, reduceCtorEq, resV, resAll, ARes.ev, LV.flat, ite_true, ite_false, exists_eq_left', exists_eq_left, keyOf, implies_true, fillC]
  refine callK_of (g_distances hH.1.1 hH.1.2.1 hp (Live.newj (j := 3) (b := .row (intL (topsOf x y cs)) true 1) rfl).has htl (topsOf_low hH)) ?_
  rw [show farFrom (x * y).toNat (fun q => stepsOf x y (topsOf x y cs) q s) p = spreadOf x y cs p s from rfl]
  simp (disch := omega) only [↓SXd, SXu, slBounds, ↓sop, ↓aop, ↓reduceIte, LV.cells, AOp.dst, LV.I, LV.B, LV.U, LV.S, LV.nil, Nat.reduceEqDiff, Nat.reduceAdd, Nat.reduceMul, Nat.reduceSub, Nat.reduceLeDiff, Nat.reduceBEq, Nat.reduceDiv, Nat.reduceMod, Int.reduceToNat, Int.reduceLT, Int.reduceLE, Int.reduceAdd, Int.reduceSub, Int.reduceMul, Int.reduceEq, Int.reduceNeg, reduceCtorEq, resV, resAll, ARes.ev, LV.flat, ite_true, ite_false, exists_eq_left', exists_eq_left, keyOf, implies_true, fillC]
  refine ev_loop (fun m fr M' => ∃ (k u : Nat) (acc : List Int), k + m = (x * y).toNat ∧ Pre M M' ∧ Live M' (M.length + 4) (.row (intL (spreadOf x y cs p s)) true 1) ∧ M.length ≤ u ∧ u ≠ M.length + 4 ∧ Live M' u (.row (intL acc) true 1) ∧
    fr 8 = .ref u 0 acc.length ∧ fr 22 = .ref (M.length + 4) 0 (x * y).toNat ∧ fr 23 = .I ((x * y).toNat : Nat) ∧ fr 24 = .I k ∧ acc = (nums k).filter (fun q => decide (0 ≤ (spreadOf x y cs p s).getD q.toNat 0))) (x * y).toNat
    ⟨0, M.length + 2, [], by omega, Pre.app _ _, Live.newj rfl, by omega, by omega, Live.newj rfl, rfl, rfl, rfl, rfl, rfl⟩ ?_
  rintro m fr M' ⟨k, u, acc, hk, hpre, hsp, hu, hun, hout, h8, h22, h23, h24, hacc⟩
  simp (disch := omega) only [h8, h22, h23, h24, ↓SXd, SXu, slBounds, ↓sop, ↓aop, ↓reduceIte, LV.cells, AOp.dst, LV.I, LV.B, LV.U, LV.S, LV.nil, Nat.reduceEqDiff, Nat.reduceAdd, Nat.reduceMul, Nat.reduceSub, Nat.reduceLeDiff, Nat.reduceBEq, Nat.reduceDiv, Nat.reduceMod, Int.reduceToNat, Int.reduceLT, Int.reduceLE, Int.reduceAdd, Int.reduceSub, Int.reduceMul, Int.reduceEq, Int.reduceNeg, reduceCtorEq, resV, resAll, ARes.ev, LV.flat, ite_true, ite_false, exists_eq_left', exists_eq_left, keyOf, implies_true, fillC]
  refine condC_dec (fun hlt => ?_) (fun hlt => ?_)
  · have hal : acc.length ≤ 1000 := by
      rw [hacc]
      have := List.length_filter_le (fun q => decide (0 ≤ (spreadOf x y cs p s).getD q.toNat 0)) (nums k)
      rw [nums_len] at this
      omega
    simp (disch := omega) only [h8, h22, h23, h24, hsp.cell, intL_get, ↓SXd, SXu, slBounds, ↓sop, ↓aop, ↓reduceIte, LV.cells, AOp.dst, LV.I, LV.B, LV.U, LV.S, LV.nil, Nat.reduceEqDiff, Nat.reduceAdd, Nat.reduceMul, Nat.reduceSub, Nat.reduceLeDiff, Nat.reduceBEq, Nat.reduceDiv, Nat.reduceMod, Int.reduceToNat, Int.reduceLT, Int.reduceLE, Int.reduceAdd, Int.reduceSub, Int.reduceMul, Int.reduceEq, Int.reduceNeg, reduceCtorEq, resV, resAll, ARes.ev, LV.flat, ite_true, ite_false, exists_eq_left', exists_eq_left, keyOf, implies_true, fillC]
    refine condC_dec (fun he => ?_) (fun he => ?_)
    · simp (disch := omega) only [h8, h22, h23, h24, ↓SXd, SXu, slBounds, ↓sop, ↓aop, ↓reduceIte, LV.cells, AOp.dst, LV.I, LV.B, LV.U, LV.S, LV.nil, Nat.reduceEqDiff, Nat.reduceAdd, Nat.reduceMul, Nat.reduceSub, Nat.reduceLeDiff, Nat.reduceBEq, Nat.reduceDiv, Nat.reduceMod, Int.reduceToNat, Int.reduceLT, Int.reduceLE, Int.reduceAdd, Int.reduceSub, Int.reduceMul, Int.reduceEq, Int.reduceNeg, reduceCtorEq, resV, resAll, ARes.ev, LV.flat, ite_true, ite_false, exists_eq_left', exists_eq_left, keyOf, implies_true, fillC]
      refine appendK_int hout (by omega) fun M'' l1 l2 l3 => ?_
      simp (disch := omega) only [h8, h22, h23, h24, ↓SXd, SXu, slBounds, ↓sop, ↓aop, ↓reduceIte, LV.cells, AOp.dst, LV.I, LV.B, LV.U, LV.S, LV.nil, Nat.reduceEqDiff, Nat.reduceAdd, Nat.reduceMul, Nat.reduceSub, Nat.reduceLeDiff, Nat.reduceBEq, Nat.reduceDiv, Nat.reduceMod, Int.reduceToNat, Int.reduceLT, Int.reduceLE, Int.reduceAdd, Int.reduceSub, Int.reduceMul, Int.reduceEq, Int.reduceNeg, reduceCtorEq, resV, resAll, ARes.ev, LV.flat, ite_true, ite_false, exists_eq_left', exists_eq_left, keyOf, implies_true, fillC]
      refine ⟨m - 1, by omega, k + 1, _, _, by omega, pre_step hpre hu l1 l3, live_step hsp (by omega) l3, ?_, ?_, l2, rfl, h22, h23, eqI (natI _), ?_⟩
      · have := hpre.1; omega
      · have := hsp.lt; omega
      · rw [nums_succ, List.filter_append, ← hacc]
        congr 1
        rw [List.filter_cons_of_pos (by simpa using he)]; rfl
    · simp (disch := omega) only [h8, h22, h23, h24, ↓SXd, SXu, slBounds, ↓sop, ↓aop, ↓reduceIte, LV.cells, AOp.dst, LV.I, LV.B, LV.U, LV.S, LV.nil, Nat.reduceEqDiff, Nat.reduceAdd, Nat.reduceMul, Nat.reduceSub, Nat.reduceLeDiff, Nat.reduceBEq, Nat.reduceDiv, Nat.reduceMod, Int.reduceToNat, Int.reduceLT, Int.reduceLE, Int.reduceAdd, Int.reduceSub, Int.reduceMul, Int.reduceEq, Int.reduceNeg, reduceCtorEq, resV, resAll, ARes.ev, LV.flat, ite_true, ite_false, exists_eq_left', exists_eq_left, keyOf, implies_true, fillC]
      refine ⟨m - 1, by omega, k + 1, u, acc, by omega, hpre, hsp, hu, hun, hout, h8, h22, h23, eqI (natI _), ?_⟩
      rw [nums_succ, List.filter_append, ← hacc, List.filter_cons_of_neg (by simpa using he)]; simp
  · simp (disch := omega) only [h8, h22, h23, h24, ↓SXd, SXu, slBounds, ↓sop, ↓aop, ↓reduceIte, LV.cells, AOp.dst, LV.I, LV.B, LV.U, LV.S, LV.nil, Nat.reduceEqDiff, Nat.reduceAdd, Nat.reduceMul, Nat.reduceSub, Nat.reduceLeDiff, Nat.reduceBEq, Nat.reduceDiv, Nat.reduceMod, Int.reduceToNat, Int.reduceLT, Int.reduceLE, Int.reduceAdd, Int.reduceSub, Int.reduceMul, Int.reduceEq, Int.reduceNeg, reduceCtorEq, resV, resAll, ARes.ev, LV.flat, ite_true, ite_false, exists_eq_left', exists_eq_left, keyOf, implies_true, fillC]
    have : k = (x * y).toNat := by omega
    subst this
    rw [show regionOf x y cs p s = acc from hacc.symm]
    exact cmp_keepL hpre hu hout (intL_lo acc) (by simp [rn, rn0, rn1])

/-- The closure of CountRegions. -/
theorem g_count1 {d : Int} {M : Mem} : CallsTo PG F.impl_CountRegions_1 [.I d] M (.B (decide (0 ≤ d))) M := by
  refine calls_run K.impl_CountRegions_1 rfl ?_
  simp (disch := omega) only [C.impl_CountRegions_1, ↓SXd, SXu, slBounds, ↓sop, ↓aop, ↓reduceIte, LV.cells, AOp.dst, LV.I, LV.B, LV.U, LV.S, LV.nil, Nat.reduceEqDiff, Nat.reduceAdd, Nat.reduceMul, Nat.reduceSub, Nat.reduceLeDiff, Nat.reduceBEq, Nat.reduceDiv, Nat.reduceMod, Int.reduceToNat, Int.reduceLT, Int.reduceLE, Int.reduceAdd, Int.reduceSub, Int.reduceMul, Int.reduceEq, Int.reduceNeg, reduceCtorEq, resV, resAll, ARes.ev, LV.flat, ite_true, ite_false, exists_eq_left', exists_eq_left, keyOf, implies_true, fillC]
  exact cmp_drop0 rfl

/-- The first column of a region is the first that can be come to. -/
theorem first_region {x y : Int} {cs : List Cell} {p s : Int} (hp : 0 ≤ p ∧ p ≤ x * y - 1) : idxF (fun d => decide (0 ≤ d)) (spreadOf x y cs p s) = (regionOf x y cs p s).getD 0 0 := by
  have hsl := spreadOf_len (cs := cs) (s := s) hp
  have hr := regionOf_self (cs := cs) (s := s) hp
  rcases idxF_cases (fun d => decide (0 ≤ d)) (spreadOf x y cs p s) with ⟨_, hall⟩ | ⟨k, hk, he, hbef, hat⟩
  · exfalso
    unfold regionOf at hr
    rw [List.mem_filter] at hr
    have := hall p.toNat (by omega)
    rw [this] at hr
    cases hr.2
  · rw [he]
    unfold regionOf
    have hsplit : nums (x * y).toNat = nums k ++ (k : Int) :: ((List.range' (k + 1) ((x * y).toNat - (k + 1))).map Int.ofNat) := by
      unfold nums
      have : List.range (x * y).toNat = List.range k ++ k :: List.range' (k + 1) ((x * y).toNat - (k + 1)) := by
        rw [List.range_eq_range', List.range_eq_range']
        obtain ⟨m, hm⟩ : ∃ m, (x * y).toNat = k + (m + 1) := ⟨(x * y).toNat - k - 1, by omega⟩
        rw [hm, ← List.range'_append_1, List.range'_succ]
        simp
        congr 2
        omega
      rw [this]; simp
    rw [hsplit, List.filter_append, List.filter_cons_of_pos (by simpa using hat)]
    have : (nums k).filter (fun q => decide (0 ≤ (spreadOf x y cs p s).getD q.toNat 0)) = [] := by
      rw [List.filter_eq_nil_iff]
      intro q hq
      obtain ⟨j, hj, rfl⟩ := List.mem_map.1 hq
      have := hbef j (List.mem_range.1 hj)
      simpa using this
    rw [this]; rfl

theorem g_CountRegions {x y z s : Int} {t o : Nat} {cs : List Cell} {M : Mem} (h : Tri M t o cs) (hn : cs.length ≤ 1000000000) :
    CallsTo PG F.impl_CountRegions [.agg [.I x, .I y, .I z, .ref t o cs.length], .I s] M (.tup [.I ((countOf x y z cs s).getD 0), .B (countOf x y z cs s).isSome]) M := by
  refine calls_run K.impl_CountRegions rfl ?_
  simp (disch := omega) only [C.impl_CountRegions, ↓SXd, SXu, slBounds, ↓sop, ↓aop, ↓reduceIte, LV.cells, AOp.dst, LV.I, LV.B, LV.U, LV.S, LV.nil, Nat.reduceEqDiff, Nat.reduceAdd, Nat.reduceMul, Nat.reduceSub, Nat.reduceLeDiff, Nat.reduceBEq, Nat.reduceDiv, Nat.reduceMod, Int.reduceToNat, Int.reduceLT, Int.reduceLE, Int.reduceAdd, Int.reduceSub, Int.reduceMul, Int.reduceEq, Int.reduceNeg, reduceCtorEq, resV, resAll, ARes.ev, LV.flat, ite_true, ite_false, exists_eq_left', exists_eq_left, keyOf, implies_true, fillC]
  refine callK_of (g_isTop_nil h.app hn) ?_
  unfold countOf
  by_cases hH : HeapOK x y z cs ∧ 0 ≤ s
  · have hb := mul_bound hH.1.1.1 hH.1.1.2.1
    have htl := topsOf_len x y cs
    rw [if_pos hH]
    simp (disch := omega) only [hH, ↓SXd, SXu, slBounds, ↓sop, ↓aop, ↓reduceIte, LV.cells, AOp.dst, LV.I, LV.B, LV.U, LV.S, LV.nil, Nat.reduceEqDiff, Nat.reduceAdd, Nat.reduceMul, Nat.reduceSub, Nat.reduceLeDiff, Nat.reduceBEq, Nat.reduceDiv, Nat.reduceMod, Int.reduceToNat, Int.reduceLT, Int.reduceLE, Int.reduceAdd, Int.reduceSub, Int.reduceMul, Int.reduceEq, Int.reduceNeg, reduceCtorEq, resV, resAll, ARes.ev, LV.flat, ite_true, ite_false, exists_eq_left', exists_eq_left, keyOf, implies_true, fillC]
    refine callK_of (g_top h.app hn hH.1) ?_
    simp (disch := omega) only [↓SXd, SXu, slBounds, ↓sop, ↓aop, ↓reduceIte, LV.cells, AOp.dst, LV.I, LV.B, LV.U, LV.S, LV.nil, Nat.reduceEqDiff, Nat.reduceAdd, Nat.reduceMul, Nat.reduceSub, Nat.reduceLeDiff, Nat.reduceBEq, Nat.reduceDiv, Nat.reduceMod, Int.reduceToNat, Int.reduceLT, Int.reduceLE, Int.reduceAdd, Int.reduceSub, Int.reduceMul, Int.reduceEq, Int.reduceNeg, reduceCtorEq, resV, resAll, ARes.ev, LV.flat, ite_true, ite_false, exists_eq_left', exists_eq_left, keyOf, implies_true, fillC]
    refine ev_loop (fun m fr M' => ∃ k : Nat, k + m = (x * y).toNat ∧ Pre M M' ∧ Live M' (M.length + 1) (.row (intL (topsOf x y cs)) true 1) ∧ Live M' (M.length + 2) (.row [.ref (M.length + 1) 0 (x * y).toNat, .I y] true 0) ∧
      fr 1 = .I s ∧ fr 7 = .ptr (M.length + 2) 0 ∧ fr 17 = .I ((x * y).toNat : Nat) ∧ fr 18 = .I k ∧
      fr 6 = .I (((nums k).filter fun p => decide ((regionOf x y cs p s).getD 0 0 = p)).length : Nat)) (x * y).toNat ⟨0, by omega, Pre.app _ _, Live.newj rfl, Live.newj rfl, rfl, rfl, rfl, rfl, rfl⟩ ?_
    rintro m fr M' ⟨k, hk, hpre, htop, hbox, h1, h7, h17, h18, h6⟩
    simp (disch := omega) only [h1, h6, h7, h17, h18, ↓SXd, SXu, slBounds, ↓sop, ↓aop, ↓reduceIte, LV.cells, AOp.dst, LV.I, LV.B, LV.U, LV.S, LV.nil, Nat.reduceEqDiff, Nat.reduceAdd, Nat.reduceMul, Nat.reduceSub, Nat.reduceLeDiff, Nat.reduceBEq, Nat.reduceDiv, Nat.reduceMod, Int.reduceToNat, Int.reduceLT, Int.reduceLE, Int.reduceAdd, Int.reduceSub, Int.reduceMul, Int.reduceEq, Int.reduceNeg, reduceCtorEq, resV, resAll, ARes.ev, LV.flat, ite_true, ite_false, exists_eq_left', exists_eq_left, keyOf, implies_true, fillC]
    refine condC_dec (fun hlt => ?_) (fun hlt => ?_)
    · have hcl := List.length_filter_le (fun p => decide ((regionOf x y cs p s).getD 0 0 = p)) (nums k)
      rw [nums_len] at hcl
      simp (disch := omega) only [h1, h6, h7, h17, h18, hbox.cells, ↓SXd, SXu, slBounds, ↓sop, ↓aop, ↓reduceIte, LV.cells, AOp.dst, LV.I, LV.B, LV.U, LV.S, LV.nil, Nat.reduceEqDiff, Nat.reduceAdd, Nat.reduceMul, Nat.reduceSub, Nat.reduceLeDiff, Nat.reduceBEq, Nat.reduceDiv, Nat.reduceMod, Int.reduceToNat, Int.reduceLT, Int.reduceLE, Int.reduceAdd, Int.reduceSub, Int.reduceMul, Int.reduceEq, Int.reduceNeg, reduceCtorEq, resV, resAll, ARes.ev, LV.flat, ite_true, ite_false, exists_eq_left', exists_eq_left, keyOf, implies_true, fillC]
      refine callK_of (g_distances hH.1.1.1 hH.1.1.2.1 (by omega) htop.has htl (topsOf_low hH.1)) ?_
      rw [show farFrom (x * y).toNat (fun q => stepsOf x y (topsOf x y cs) q s) (k : Int) = spreadOf x y cs k s from rfl]
      have hsl := spreadOf_len (x := x) (y := y) (cs := cs) (s := s) (p := (k : Int)) (by omega)
      simp (disch := omega) only [h1, h6, h7, h17, h18, ↓SXd, SXu, slBounds, ↓sop, ↓aop, ↓reduceIte, LV.cells, AOp.dst, LV.I, LV.B, LV.U, LV.S, LV.nil, Nat.reduceEqDiff, Nat.reduceAdd, Nat.reduceMul, Nat.reduceSub, Nat.reduceLeDiff, Nat.reduceBEq, Nat.reduceDiv, Nat.reduceMod, Int.reduceToNat, Int.reduceLT, Int.reduceLE, Int.reduceAdd, Int.reduceSub, Int.reduceMul, Int.reduceEq, Int.reduceNeg, reduceCtorEq, resV, resAll, ARes.ev, LV.flat, ite_true, ite_false, exists_eq_left', exists_eq_left, keyOf, implies_true, fillC]
      have hidx := g_IndexFunc (t := M'.length) (o := 0) (xs := spreadOf x y cs k s) (f := F.impl_CountRegions_1) (caps := []) (pr := fun d => decide (0 ≤ d)) (M := M' ++ [some (.row (intL (spreadOf x y cs k s)) true 1)]) (Live.new).has (by omega) (fun j hj => g_count1)
      rw [hsl, first_region (by omega)] at hidx
      refine callK_of hidx ?_
      simp (disch := omega) only [h1, h6, h7, h17, h18, ↓SXd, SXu, slBounds, ↓sop, ↓aop, ↓reduceIte, LV.cells, AOp.dst, LV.I, LV.B, LV.U, LV.S, LV.nil, Nat.reduceEqDiff, Nat.reduceAdd, Nat.reduceMul, Nat.reduceSub, Nat.reduceLeDiff, Nat.reduceBEq, Nat.reduceDiv, Nat.reduceMod, Int.reduceToNat, Int.reduceLT, Int.reduceLE, Int.reduceAdd, Int.reduceSub, Int.reduceMul, Int.reduceEq, Int.reduceNeg, reduceCtorEq, resV, resAll, ARes.ev, LV.flat, ite_true, ite_false, exists_eq_left', exists_eq_left, keyOf, implies_true, fillC]
      refine condC_dec (fun he => ?_) (fun he => ?_)
      · simp (disch := omega) only [h1, h6, h7, h17, h18, ↓SXd, SXu, slBounds, ↓sop, ↓aop, ↓reduceIte, LV.cells, AOp.dst, LV.I, LV.B, LV.U, LV.S, LV.nil, Nat.reduceEqDiff, Nat.reduceAdd, Nat.reduceMul, Nat.reduceSub, Nat.reduceLeDiff, Nat.reduceBEq, Nat.reduceDiv, Nat.reduceMod, Int.reduceToNat, Int.reduceLT, Int.reduceLE, Int.reduceAdd, Int.reduceSub, Int.reduceMul, Int.reduceEq, Int.reduceNeg, reduceCtorEq, resV, resAll, ARes.ev, LV.flat, ite_true, ite_false, exists_eq_left', exists_eq_left, keyOf, implies_true, fillC]
        refine ⟨m - 1, by omega, k + 1, by omega, Pre.app' hpre, htop.app, hbox.app, h1, h7, h17, eqI (natI _), eqI ?_⟩
        rw [nums_succ, List.filter_append, List.filter_cons_of_pos (by simpa using he), List.length_append]
        rfl
      · simp (disch := omega) only [h1, h6, h7, h17, h18, ↓SXd, SXu, slBounds, ↓sop, ↓aop, ↓reduceIte, LV.cells, AOp.dst, LV.I, LV.B, LV.U, LV.S, LV.nil, Nat.reduceEqDiff, Nat.reduceAdd, Nat.reduceMul, Nat.reduceSub, Nat.reduceLeDiff, Nat.reduceBEq, Nat.reduceDiv, Nat.reduceMod, Int.reduceToNat, Int.reduceLT, Int.reduceLE, Int.reduceAdd, Int.reduceSub, Int.reduceMul, Int.reduceEq, Int.reduceNeg, reduceCtorEq, resV, resAll, ARes.ev, LV.flat, ite_true, ite_false, exists_eq_left', exists_eq_left, keyOf, implies_true, fillC]
        refine ⟨m - 1, by omega, k + 1, by omega, Pre.app' hpre, htop.app, hbox.app, h1, h7, h17, eqI (natI _), ?_⟩
        rw [nums_succ, List.filter_append, List.filter_cons_of_neg (by simpa using he), List.filter_nil, List.append_nil]
        exact h6
    · simp (disch := omega) only [h1, h6, h7, h17, h18, ↓SXd, SXu, slBounds, ↓sop, ↓aop, ↓reduceIte, LV.cells, AOp.dst, LV.I, LV.B, LV.U, LV.S, LV.nil, Nat.reduceEqDiff, Nat.reduceAdd, Nat.reduceMul, Nat.reduceSub, Nat.reduceLeDiff, Nat.reduceBEq, Nat.reduceDiv, Nat.reduceMod, Int.reduceToNat, Int.reduceLT, Int.reduceLE, Int.reduceAdd, Int.reduceSub, Int.reduceMul, Int.reduceEq, Int.reduceNeg, reduceCtorEq, resV, resAll, ARes.ev, LV.flat, ite_true, ite_false, exists_eq_left', exists_eq_left, keyOf, implies_true, fillC]
      have : k = (x * y).toNat := by omega
      subst this
      exact cmp_pre hpre rfl
  · rw [if_neg hH]
    simp (disch := omega) only [hH, ↓SXd, SXu, slBounds, ↓sop, ↓aop, ↓reduceIte, LV.cells, AOp.dst, LV.I, LV.B, LV.U, LV.S, LV.nil, Nat.reduceEqDiff, Nat.reduceAdd, Nat.reduceMul, Nat.reduceSub, Nat.reduceLeDiff, Nat.reduceBEq, Nat.reduceDiv, Nat.reduceMod, Int.reduceToNat, Int.reduceLT, Int.reduceLE, Int.reduceAdd, Int.reduceSub, Int.reduceMul, Int.reduceEq, Int.reduceNeg, reduceCtorEq, resV, resAll, ARes.ev, LV.flat, ite_true, ite_false, exists_eq_left', exists_eq_left, keyOf, implies_true, fillC]
    exact cmp_drop rfl
end Go.Ab

/- Contracts: TopRegion, both sides, as lists that are one's own. -/
namespace Go.Ab
open Go
set_option linter.unusedVariables false
theorem topRegionOf_len {x y z : Int} {cs : List Cell} {p s : Int} : ((topRegionOf x y z cs p s).getD []).length ≤ 1000000000 := by
  unfold topRegionOf
  split
  · rename_i h
    have := regionOf_len (cs := cs) (p := p) (s := s) (mul_bound h.1.1.1 h.1.1.2.1).2
    simp only [Option.getD_some]; omega
  · simp
theorem h_sTopRegionR {x y z p s : Int} {t o : Nat} {cs : List Cell} {M : Mem} (h : Tri M t o cs) (hn : cs.length ≤ 1000000000) :
    CallsR PG F.spec_TopRegion [.agg [.I x, .I y, .I z, .ref t o cs.length], .I p, .I s] M (IntsRes M (topRegionOf x y z cs p s)) :=
  (h_sTopRegion (x := x) (y := y) (z := z) (p := p) (s := s) h hn).mono fun v N e => by
    rw [e.1, e.2]; exact ⟨_, rfl, SlI.of Live.new, Newer.of (Nat.le_refl _), Pre.app _ _⟩
theorem g_TopRegionR {x y z p s : Int} {t o : Nat} {cs : List Cell} {M : Mem} (h : Tri M t o cs) (hn : cs.length ≤ 1000000000) :
    CallsR PG F.impl_TopRegion [.agg [.I x, .I y, .I z, .ref t o cs.length], .I p, .I s] M (IntsRes M (topRegionOf x y z cs p s)) := by
  unfold topRegionOf
  split
  · rename_i hV
    exact CallsTo.ints1 (ex := []) (by simpa using g_TopRegion_ok h hn hV.1 hV.2.1 hV.2.2)
  · rename_i hV
    exact CallsTo.intsN (g_TopRegion_no h hn hV)
end Go.Ab
