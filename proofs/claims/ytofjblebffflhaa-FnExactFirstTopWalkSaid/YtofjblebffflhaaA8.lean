/- Parts of the proof of FnExactFirstTopWalkSaid: Ce Ke Ec2 Mg Ei LFirstTopWalk Ra Rb. -/
import Derived.Test.YtofjblebffflhaaA3
import Derived.Test.YtofjblebffflhaaA4
import Derived.Test.YtofjblebffflhaaProg
import Derived.KernelRfl
import Derived.Test.YtofjblebffflhaaA7
import Derived.Test.YtofjblebffflhaaA6
import Derived.Test.YtofjblebffflhaaA5
import Derived.Below
import Derived.Lib.SmallJoins
import Derived.Deep.Slices
import Derived.Laws.IdiomArrays
set_option linter.all false
/- The abstract code of some functions (written by a program of mine from the translation, by way of prepF). -/
namespace Go.Ab.C
open Go.Ab
/-- spec.l10Both -/
def spec_l10Both : AFn :=
  ⟨4, 21, [.tmp 8],
    .seq (.ops [(none, .box 4 (.t 0)),
       (none, .mv 8 (.c (.B false)))])
    (.seq (.ops [(none, .loadN 9 4 (.t 4)),
        (none, .mv 10 (.t 1)),
        (none, .call (some 11) F.spec_l10Column [(.t 9), (.t 10)]),
        (none, .mv 12 (.t 11)),
        (some (12, true), .loadN 13 4 (.t 4)),
        (some (12, true), .mv 14 (.t 2)),
        (some (12, true), .call (some 15) F.spec_l10Column [(.t 13), (.t 14)]),
        (none, .pick 16 (.t 12) (.t 15) (.c (.B false))),
        (none, .mv 17 (.t 16)),
        (some (17, true), .mv 18 (.t 3)),
        (some (17, true), .bin 19 .geq (.t 18) (.c (.I 0))),
        (none, .pick 20 (.t 17) (.t 19) (.c (.B false))),
        (none, .mv 8 (.t 20))])
     (.ret))⟩
/-- spec.TopDistance -/
def spec_TopDistance : AFn :=
  ⟨4, 28, [.tmp 8, .tmp 9],
    .seq (.ops [(none, .box 4 (.t 0)),
       (none, .mv 8 (.c (.I 0))),
       (none, .mv 9 (.c (.B false)))])
    (.seq (.seq (.ops [(none, .loadN 11 4 (.t 4)),
         (none, .mv 12 (.t 1)),
         (none, .mv 13 (.t 2)),
         (none, .mv 14 (.t 3)),
         (none, .call (some 15) F.spec_l10Both [(.t 11), (.t 12), (.t 13), (.t 14)]),
         (none, .un 16 .not (.t 15))])
      (.cond (.t 16) (.seq (.ops [(none, .mv 8 (.c (.I 0))),
           (none, .mv 9 (.c (.B false)))])
        (.ret))
       (.skip)))
     (.seq (.ops [(none, .loadN 17 4 (.t 4)),
         (none, .mv 18 (.t 1)),
         (none, .mv 19 (.t 3)),
         (none, .call (some 20) F.spec_l10Spread [(.t 17), (.t 18), (.t 19)]),
         (none, .mv 21 (.t 2)),
         (none, .idxS 22 1 (.t 20) (.t 21)),
         (none, .load1 23 (.t 22)),
         (none, .mv 10 (.t 23))])
      (.seq (.ops [(none, .mv 24 (.t 10)),
          (none, .call (some 25) F.spec_l1Most [(.t 24), (.c (.I 0))]),
          (none, .mv 26 (.t 10)),
          (none, .bin 27 .geq (.t 26) (.c (.I 0))),
          (none, .mv 8 (.t 25)),
          (none, .mv 9 (.t 27))])
       (.ret))))⟩
/-- spec.LeastReach -/
def spec_LeastReach : AFn :=
  ⟨3, 25, [.tmp 6, .tmp 7],
    .seq (.ops [(none, .box 3 (.t 0)),
       (none, .mv 6 (.c (.I 0))),
       (none, .mv 7 (.c (.B false)))])
    (.seq (.seq (.ops [(none, .loadN 9 4 (.t 3)),
         (none, .mv 10 (.t 1)),
         (none, .mv 11 (.t 2)),
         (none, .call (some 12) F.spec_l10Both [(.t 9), (.t 10), (.t 11), (.c (.I 0))]),
         (none, .un 13 .not (.t 12))])
      (.cond (.t 13) (.seq (.ops [(none, .mv 6 (.c (.I 0))),
           (none, .mv 7 (.c (.B false)))])
        (.ret))
       (.skip)))
     (.seq (.ops [(none, .mv 8 (.c (.I 0)))])
      (.seq (.block 0 (.loop (.seq (.seq (.ops [(none, .loadN 14 4 (.t 3)),
              (none, .mv 15 (.t 1)),
              (none, .mv 16 (.t 8)),
              (none, .call (some 17) F.spec_l10Spread [(.t 14), (.t 15), (.t 16)]),
              (none, .mv 18 (.t 2)),
              (none, .idxS 19 1 (.t 17) (.t 18)),
              (none, .load1 20 (.t 19)),
              (none, .bin 21 .lss (.t 20) (.c (.I 0)))])
           (.cond (.t 21) (.skip)
            (.exit 0)))
          (.block 1 (.ops [(none, .mv 22 (.t 8)),
              (none, .bin 23 .add (.t 22) (.c (.I 1))),
              (none, .mv 8 (.t 23))])))))
       (.seq (.ops [(none, .mv 24 (.t 8)),
           (none, .mv 6 (.t 24)),
           (none, .mv 7 (.c (.B true)))])
        (.ret)))))⟩
/-- spec.LeastClimb -/
def spec_LeastClimb : AFn :=
  ⟨4, 120, [.tmp 8, .tmp 9],
    .seq (.ops [(none, .box 4 (.t 0)),
       (none, .mv 8 (.c (.I 0))),
       (none, .mv 9 (.c (.B false)))])
    (.seq (.seq (.ops [(none, .loadN 19 4 (.t 4)),
         (none, .mv 20 (.t 1)),
         (none, .mv 21 (.t 2)),
         (none, .mv 22 (.t 3)),
         (none, .call (some 23) F.spec_l10Both [(.t 19), (.t 20), (.t 21), (.t 22)]),
         (none, .un 24 .not (.t 23)),
         (none, .mv 25 (.t 24)),
         (some (25, false), .loadN 26 4 (.t 4)),
         (some (25, false), .mv 27 (.t 1)),
         (some (25, false), .mv 28 (.t 3)),
         (some (25, false), .call (some 29) F.spec_l10Spread [(.t 26), (.t 27), (.t 28)]),
         (some (25, false), .mv 30 (.t 2)),
         (some (25, false), .idxS 31 1 (.t 29) (.t 30)),
         (some (25, false), .load1 32 (.t 31)),
         (some (25, false), .bin 33 .lss (.t 32) (.c (.I 0))),
         (none, .pick 34 (.t 25) (.c (.B true)) (.t 33))])
      (.cond (.t 34) (.seq (.ops [(none, .mv 8 (.c (.I 0))),
           (none, .mv 9 (.c (.B false)))])
        (.ret))
       (.skip)))
     (.seq (.draw [⟨(none, .fieldAddr 35 (.t 4) 0), [], []⟩,
         ⟨(none, .load1 36 (.t 35)), [], []⟩,
         ⟨(none, .fieldAddr 37 (.t 4) 1), [], []⟩,
         ⟨(none, .load1 38 (.t 37)), [], []⟩,
         ⟨(none, .bin 39 .mul (.t 36) (.t 38)), [], []⟩,
         ⟨(none, .loadN 41 4 (.t 4)), [], []⟩,
         ⟨(none, .mksl 40 1 8 [(.I 0)] (.t 39) (.t 39)), [], []⟩,
         ⟨(none, .call (some 42) F.spec_l2Tops [(.t 41)]), [6], [0, 1, 2, 3, 4]⟩,
         ⟨(none, .mv 10 (.t 40)), [], []⟩,
         ⟨(none, .mv 11 (.t 42)), [], []⟩])
      (.seq (.seq (.ops [(none, .mv 12 (.c (.I 0)))])
        (.block 0 (.loop (.seq (.seq (.ops [(none, .mv 43 (.t 12)),
               (none, .mv 44 (.t 10)),
               (none, .len 45 (.t 44)),
               (none, .bin 46 .lss (.t 43) (.t 45))])
            (.cond (.t 46) (.skip)
             (.exit 0)))
           (.seq (.block 1 (.ops [(none, .mv 49 (.t 10)),
                (none, .mv 50 (.t 12)),
                (none, .idxS 51 1 (.t 49) (.t 50)),
                (none, .store 1 (.t 51) (.c (.I (-1))))]))
            (.ops [(none, .mv 47 (.t 12)),
               (none, .bin 48 .add (.t 47) (.c (.I 1))),
               (none, .mv 12 (.t 48))]))))))
       (.seq (.ops [(none, .mv 52 (.t 10)),
           (none, .mv 53 (.t 1)),
           (none, .idxS 54 1 (.t 52) (.t 53)),
           (none, .store 1 (.t 54) (.c (.I 0)))])
        (.seq (.seq (.ops [(none, .mv 13 (.c (.B true)))])
          (.block 2 (.loop (.seq (.seq (.ops [(none, .mv 55 (.t 13))])
              (.cond (.t 55) (.skip)
               (.exit 2)))
             (.block 3 (.seq (.ops [(none, .mv 13 (.c (.B false)))])
               (.seq (.ops [(none, .mv 14 (.c (.I 0)))])
                (.block 4 (.loop (.seq (.seq (.ops [(none, .mv 56 (.t 14)),
                       (none, .mv 57 (.t 10)),
                       (none, .len 58 (.t 57)),
                       (none, .bin 59 .lss (.t 56) (.t 58))])
                    (.cond (.t 59) (.skip)
                     (.exit 4)))
                   (.seq (.block 5 (.seq (.ops [(none, .loadN 62 4 (.t 4)),
                         (none, .mv 63 (.t 11)),
                         (none, .mv 64 (.t 14)),
                         (none, .mv 65 (.t 3)),
                         (none, .call (some 66) F.spec_l10Steps [(.t 62), (.t 63), (.t 64), (.t 65)]),
                         (none, .mv 15 (.t 66))])
                      (.seq (.ops [(none, .mv 16 (.c (.I 0)))])
                       (.block 6 (.loop (.seq (.seq (.ops [(none, .mv 67 (.t 16)),
                              (none, .mv 68 (.t 15)),
                              (none, .len 69 (.t 68)),
                              (none, .bin 70 .lss (.t 67) (.t 69)),
                              (none, .mv 71 (.t 70)),
                              (some (71, true), .mv 72 (.t 10)),
                              (some (71, true), .mv 73 (.t 14)),
                              (some (71, true), .idxS 74 1 (.t 72) (.t 73)),
                              (some (71, true), .load1 75 (.t 74)),
                              (some (71, true), .bin 76 .geq (.t 75) (.c (.I 0))),
                              (none, .pick 77 (.t 71) (.t 76) (.c (.B false)))])
                           (.cond (.t 77) (.skip)
                            (.exit 6)))
                          (.seq (.block 7 (.seq (.ops [(none, .mv 80 (.t 15)),
                                (none, .mv 81 (.t 16)),
                                (none, .idxS 82 1 (.t 80) (.t 81)),
                                (none, .load1 83 (.t 82)),
                                (none, .mv 17 (.t 83))])
                             (.seq (.draw [⟨(none, .mv 84 (.t 10)), [], []⟩,
                                 ⟨(none, .mv 85 (.t 14)), [], []⟩,
                                 ⟨(none, .idxS 86 1 (.t 84) (.t 85)), [], []⟩,
                                 ⟨(none, .load1 87 (.t 86)), [], []⟩,
                                 ⟨(none, .mv 88 (.t 11)), [], []⟩,
                                 ⟨(none, .mv 89 (.t 17)), [], []⟩,
                                 ⟨(none, .idxS 90 1 (.t 88) (.t 89)), [], []⟩,
                                 ⟨(none, .load1 91 (.t 90)), [], []⟩,
                                 ⟨(none, .mv 92 (.t 11)), [], []⟩,
                                 ⟨(none, .mv 93 (.t 14)), [], []⟩,
                                 ⟨(none, .idxS 94 1 (.t 92) (.t 93)), [], []⟩,
                                 ⟨(none, .load1 95 (.t 94)), [], []⟩,
                                 ⟨(none, .bin 96 .sub (.t 91) (.t 95)), [], []⟩,
                                 ⟨(none, .call (some 97) F.spec_l1Most [(.t 96), (.c (.I 0))]), [], [0, 1, 2, 3]⟩,
                                 ⟨(none, .bin 98 .add (.t 87) (.t 97)), [], []⟩,
                                 ⟨(none, .mv 18 (.t 98)), [], []⟩])
                              (.seq (.ops [(none, .mv 99 (.t 10)),
                                  (none, .mv 100 (.t 17)),
                                  (none, .idxS 101 1 (.t 99) (.t 100)),
                                  (none, .load1 102 (.t 101)),
                                  (none, .bin 103 .lss (.t 102) (.c (.I 0))),
                                  (none, .mv 104 (.t 103)),
                                  (some (104, false), .mv 105 (.t 18)),
                                  (some (104, false), .mv 106 (.t 10)),
                                  (some (104, false), .mv 107 (.t 17)),
                                  (some (104, false), .idxS 108 1 (.t 106) (.t 107)),
                                  (some (104, false), .load1 109 (.t 108)),
                                  (some (104, false), .bin 110 .lss (.t 105) (.t 109)),
                                  (none, .pick 111 (.t 104) (.c (.B true)) (.t 110))])
                               (.cond (.t 111) (.seq (.ops [(none, .mv 112 (.t 10)),
                                    (none, .mv 113 (.t 17)),
                                    (none, .mv 114 (.t 18)),
                                    (none, .idxS 115 1 (.t 112) (.t 113)),
                                    (none, .store 1 (.t 115) (.t 114))])
                                 (.ops [(none, .mv 13 (.c (.B true)))]))
                                (.skip))))))
                           (.ops [(none, .mv 78 (.t 16)),
                              (none, .bin 79 .add (.t 78) (.c (.I 1))),
                              (none, .mv 16 (.t 79))]))))))))
                    (.ops [(none, .mv 60 (.t 14)),
                       (none, .bin 61 .add (.t 60) (.c (.I 1))),
                       (none, .mv 14 (.t 61))]))))))))))))
         (.seq (.ops [(none, .mv 116 (.t 10)),
             (none, .mv 117 (.t 2)),
             (none, .idxS 118 1 (.t 116) (.t 117)),
             (none, .load1 119 (.t 118)),
             (none, .mv 8 (.t 119)),
             (none, .mv 9 (.c (.B true)))])
          (.ret)))))))⟩
/-- spec.FirstTopWalk -/
def spec_FirstTopWalk : AFn :=
  ⟨4, 70, [.tmp 8, .tmp 9],
    .seq (.ops [(none, .box 4 (.t 0)),
       (none, .mv 8 (.c .nil)),
       (none, .mv 9 (.c (.B false)))])
    (.seq (.seq (.ops [(none, .loadN 16 4 (.t 4)),
         (none, .mv 17 (.t 1)),
         (none, .mv 18 (.t 2)),
         (none, .mv 19 (.t 3)),
         (none, .call (some 20) F.spec_l10Both [(.t 16), (.t 17), (.t 18), (.t 19)]),
         (none, .un 21 .not (.t 20))])
      (.cond (.t 21) (.seq (.ops [(none, .buildSl 22 0 1 [] []),
           (none, .mv 8 (.t 22)),
           (none, .mv 9 (.c (.B false)))])
        (.ret))
       (.skip)))
     (.seq (.ops [(none, .loadN 23 4 (.t 4)),
         (none, .mv 24 (.t 2)),
         (none, .mv 25 (.t 3)),
         (none, .call (some 26) F.spec_l10Spread [(.t 23), (.t 24), (.t 25)]),
         (none, .mv 10 (.t 26))])
      (.seq (.seq (.ops [(none, .mv 27 (.t 10)),
           (none, .mv 28 (.t 1)),
           (none, .idxS 29 1 (.t 27) (.t 28)),
           (none, .load1 30 (.t 29)),
           (none, .bin 31 .lss (.t 30) (.c (.I 0)))])
        (.cond (.t 31) (.seq (.ops [(none, .buildSl 32 0 1 [] []),
             (none, .mv 8 (.t 32)),
             (none, .mv 9 (.c (.B false)))])
          (.ret))
         (.skip)))
       (.seq (.ops [(none, .mv 33 (.t 1)),
           (none, .buildSl 34 1 1 [(.I 0)] [(0, 1, (.t 33))]),
           (none, .mv 35 (.t 1)),
           (none, .loadN 36 4 (.t 4)),
           (none, .call (some 37) F.spec_l2Tops [(.t 36)]),
           (none, .mv 11 (.t 34)),
           (none, .mv 12 (.t 35)),
           (none, .mv 13 (.t 37))])
        (.seq (.block 0 (.loop (.seq (.seq (.ops [(none, .mv 38 (.t 12)),
                (none, .mv 39 (.t 2)),
                (none, .bin 40 .neq (.t 38) (.t 39))])
             (.cond (.t 40) (.skip)
              (.exit 0)))
            (.block 1 (.seq (.ops [(none, .loadN 41 4 (.t 4)),
                 (none, .mv 42 (.t 13)),
                 (none, .mv 43 (.t 12)),
                 (none, .mv 44 (.t 3)),
                 (none, .call (some 45) F.spec_l10Steps [(.t 41), (.t 42), (.t 43), (.t 44)]),
                 (none, .mv 14 (.t 45)),
                 (none, .mv 15 (.c (.I 0)))])
              (.seq (.block 2 (.loop (.seq (.seq (.draw [⟨(none, .mv 46 (.t 10)), [], []⟩,
                      ⟨(none, .mv 47 (.t 14)), [], []⟩,
                      ⟨(none, .mv 48 (.t 15)), [], []⟩,
                      ⟨(none, .idxS 49 1 (.t 47) (.t 48)), [], []⟩,
                      ⟨(none, .load1 50 (.t 49)), [], []⟩,
                      ⟨(none, .idxS 51 1 (.t 46) (.t 50)), [], []⟩,
                      ⟨(none, .load1 52 (.t 51)), [], []⟩,
                      ⟨(none, .mv 53 (.t 10)), [], []⟩,
                      ⟨(none, .mv 54 (.t 12)), [], []⟩,
                      ⟨(none, .idxS 55 1 (.t 53) (.t 54)), [], []⟩,
                      ⟨(none, .load1 56 (.t 55)), [], []⟩,
                      ⟨(none, .bin 57 .sub (.t 56) (.c (.I 1))), [], []⟩,
                      ⟨(none, .bin 58 .neq (.t 52) (.t 57)), [], []⟩])
                   (.cond (.t 58) (.skip)
                    (.exit 2)))
                  (.block 3 (.ops [(none, .mv 59 (.t 15)),
                      (none, .bin 60 .add (.t 59) (.c (.I 1))),
                      (none, .mv 15 (.t 60))])))))
               (.seq (.ops [(none, .mv 61 (.t 14)),
                   (none, .mv 62 (.t 15)),
                   (none, .idxS 63 1 (.t 61) (.t 62)),
                   (none, .load1 64 (.t 63)),
                   (none, .mv 12 (.t 64))])
                (.ops [(none, .mv 65 (.t 11)),
                   (none, .mv 66 (.t 12)),
                   (none, .buildSl 67 1 1 [(.I 0)] [(0, 1, (.t 66))]),
                   (none, .append 68 1 8 (.t 65) (.t 67)),
                   (none, .mv 11 (.t 68))]))))))))
         (.seq (.ops [(none, .mv 69 (.t 11)),
             (none, .mv 8 (.t 69)),
             (none, .mv 9 (.c (.B true)))])
          (.ret)))))))⟩
/-- impl.found -/
def impl_found : AFn :=
  ⟨1, 8, [.tmp 2, .tmp 3],
    .seq (.ops [(none, .mv 2 (.c (.I 0))),
       (none, .mv 3 (.c (.B false)))])
    (.seq (.ops [(none, .mv 4 (.t 0)),
        (none, .mm 5 true [(.c (.I 0)), (.t 4)]),
        (none, .mv 6 (.t 0)),
        (none, .bin 7 .geq (.t 6) (.c (.I 0))),
        (none, .mv 2 (.t 5)),
        (none, .mv 3 (.t 7))])
     (.ret))⟩
/-- impl.TopDistance -/
def impl_TopDistance : AFn :=
  ⟨4, 28, [.tmp 8, .tmp 9],
    .seq (.ops [(none, .box 4 (.t 0)),
       (none, .mv 8 (.c (.I 0))),
       (none, .mv 9 (.c (.B false)))])
    (.seq (.seq (.ops [(none, .loadN 10 4 (.t 4)),
         (none, .mv 11 (.t 3)),
         (none, .mv 12 (.t 1)),
         (none, .mv 13 (.t 2)),
         (none, .buildSl 14 2 1 [(.I 0), (.I 0)] [(0, 1, (.t 12)), (1, 1, (.t 13))]),
         (none, .call (some 15) F.impl_isTop [(.t 10), (.t 11), (.t 14)]),
         (none, .un 16 .not (.t 15))])
      (.cond (.t 16) (.seq (.ops [(none, .mv 8 (.c (.I 0))),
           (none, .mv 9 (.c (.B false)))])
        (.ret))
       (.skip)))
     (.seq (.ops [(none, .loadN 17 4 (.t 4)),
         (none, .call (some 18) F.impl_Heap_top [(.t 17)]),
         (none, .mv 19 (.t 2)),
         (none, .mv 20 (.t 3)),
         (none, .call (some 21) F.impl_top_distances [(.t 18), (.t 19), (.t 20)]),
         (none, .mv 22 (.t 1)),
         (none, .idxS 23 1 (.t 21) (.t 22)),
         (none, .load1 24 (.t 23)),
         (none, .call (some 25) F.impl_found [(.t 24)]),
         (none, .extract 26 (.t 25) 0),
         (none, .extract 27 (.t 25) 1),
         (none, .mv 8 (.t 26)),
         (none, .mv 9 (.t 27))])
      (.ret)))⟩
/-- impl.LeastReach -/
def impl_LeastReach : AFn :=
  ⟨3, 27, [.tmp 6, .tmp 7],
    .seq (.ops [(none, .box 3 (.t 0)),
       (none, .mv 6 (.c (.I 0))),
       (none, .mv 7 (.c (.B false)))])
    (.seq (.seq (.ops [(none, .loadN 9 4 (.t 3)),
         (none, .mv 10 (.t 1)),
         (none, .mv 11 (.t 2)),
         (none, .buildSl 12 2 1 [(.I 0), (.I 0)] [(0, 1, (.t 10)), (1, 1, (.t 11))]),
         (none, .call (some 13) F.impl_isTop [(.t 9), (.c (.I 0)), (.t 12)]),
         (none, .un 14 .not (.t 13))])
      (.cond (.t 14) (.seq (.ops [(none, .mv 6 (.c (.I 0))),
           (none, .mv 7 (.c (.B false)))])
        (.ret))
       (.skip)))
     (.seq (.ops [(none, .mv 8 (.c (.I 0)))])
      (.seq (.block 0 (.loop (.seq (.seq (.ops [(none, .loadN 15 4 (.t 3)),
              (none, .call (some 16) F.impl_Heap_top [(.t 15)]),
              (none, .mv 17 (.t 2)),
              (none, .mv 18 (.t 8)),
              (none, .call (some 19) F.impl_top_distances [(.t 16), (.t 17), (.t 18)]),
              (none, .mv 20 (.t 1)),
              (none, .idxS 21 1 (.t 19) (.t 20)),
              (none, .load1 22 (.t 21)),
              (none, .bin 23 .lss (.t 22) (.c (.I 0)))])
           (.cond (.t 23) (.skip)
            (.exit 0)))
          (.block 1 (.ops [(none, .mv 24 (.t 8)),
              (none, .bin 25 .add (.t 24) (.c (.I 1))),
              (none, .mv 8 (.t 25))])))))
       (.seq (.ops [(none, .mv 26 (.t 8)),
           (none, .mv 6 (.t 26)),
           (none, .mv 7 (.c (.B true)))])
        (.ret)))))⟩
/-- impl.LeastClimb -/
def impl_LeastClimb : AFn :=
  ⟨4, 94, [.tmp 8, .tmp 9],
    .seq (.ops [(none, .box 4 (.t 0)),
       (none, .mv 8 (.c (.I 0))),
       (none, .mv 9 (.c (.B false)))])
    (.seq (.seq (.ops [(none, .loadN 18 4 (.t 4)),
         (none, .mv 19 (.t 3)),
         (none, .mv 20 (.t 1)),
         (none, .mv 21 (.t 2)),
         (none, .buildSl 22 2 1 [(.I 0), (.I 0)] [(0, 1, (.t 20)), (1, 1, (.t 21))]),
         (none, .call (some 23) F.impl_isTop [(.t 18), (.t 19), (.t 22)]),
         (none, .un 24 .not (.t 23))])
      (.cond (.t 24) (.seq (.ops [(none, .mv 8 (.c (.I 0))),
           (none, .mv 9 (.c (.B false)))])
        (.ret))
       (.skip)))
     (.seq (.ops [(none, .loadN 25 4 (.t 4)),
         (none, .call (some 26) F.impl_Heap_top [(.t 25)]),
         (none, .alloc 10 [.nil, (.I 0)]),
         (none, .store 2 (.t 10) (.t 26))])
      (.seq (.ops [(none, .buildSl 27 1 1 [(.I 0)] [(0, 1, (.c (.I (-1))))]),
          (none, .fieldAddr 28 (.t 10) 0),
          (none, .load1 29 (.t 28)),
          (none, .len 30 (.t 29)),
          (none, .call (some 31) F.slices_Repeat_Sint_int [(.t 27), (.t 30)]),
          (none, .mv 11 (.t 31))])
       (.seq (.ops [(none, .mv 32 (.t 11)),
           (none, .mv 33 (.t 1)),
           (none, .idxS 34 1 (.t 32) (.t 33)),
           (none, .store 1 (.t 34) (.c (.I 0)))])
        (.seq (.seq (.ops [(none, .mv 12 (.c (.B true)))])
          (.block 0 (.loop (.seq (.seq (.ops [(none, .mv 35 (.t 12))])
              (.cond (.t 35) (.skip)
               (.exit 0)))
             (.block 1 (.seq (.ops [(none, .mv 12 (.c (.B false)))])
               (.seq (.ops [(none, .mv 36 (.t 11)),
                   (none, .len 37 (.t 36)),
                   (none, .mv 38 (.c (.I 0)))])
                (.block 2 (.loop (.seq (.ops [(none, .bin 39 .lss (.t 38) (.t 37))])
                   (.seq (.cond (.t 39) (.skip)
                     (.exit 2))
                    (.seq (.block 3 (.seq (.ops [(none, .mv 40 (.t 38)),
                          (none, .idxS 41 1 (.t 36) (.t 38)),
                          (none, .load1 42 (.t 41)),
                          (none, .mv 13 (.t 40)),
                          (none, .mv 14 (.t 42))])
                       (.seq (.seq (.ops [(none, .mv 43 (.t 14)),
                            (none, .bin 44 .lss (.t 43) (.c (.I 0)))])
                         (.cond (.t 44) (.exit 3)
                          (.skip)))
                        (.seq (.ops [(none, .loadN 45 2 (.t 10)),
                            (none, .mv 46 (.t 13)),
                            (none, .mv 47 (.t 3)),
                            (none, .call (some 48) F.impl_top_steps [(.t 45), (.t 46), (.t 47)]),
                            (none, .len 49 (.t 48)),
                            (none, .mv 50 (.c (.I 0)))])
                         (.block 4 (.loop (.seq (.ops [(none, .bin 51 .lss (.t 50) (.t 49))])
                            (.seq (.cond (.t 51) (.skip)
                              (.exit 4))
                             (.seq (.block 5 (.seq (.ops [(none, .idxS 52 1 (.t 48) (.t 50)),
                                   (none, .load1 53 (.t 52)),
                                   (none, .mv 16 (.t 53))])
                                (.seq (.draw [⟨(none, .mv 54 (.t 14)), [], []⟩,
                                    ⟨(none, .fieldAddr 55 (.t 10) 0), [], []⟩,
                                    ⟨(none, .load1 56 (.t 55)), [], []⟩,
                                    ⟨(none, .mv 57 (.t 16)), [], []⟩,
                                    ⟨(none, .idxS 58 1 (.t 56) (.t 57)), [], []⟩,
                                    ⟨(none, .load1 59 (.t 58)), [], []⟩,
                                    ⟨(none, .fieldAddr 60 (.t 10) 0), [], []⟩,
                                    ⟨(none, .load1 61 (.t 60)), [], []⟩,
                                    ⟨(none, .mv 62 (.t 13)), [], []⟩,
                                    ⟨(none, .idxS 63 1 (.t 61) (.t 62)), [], []⟩,
                                    ⟨(none, .load1 64 (.t 63)), [], []⟩,
                                    ⟨(none, .bin 65 .sub (.t 59) (.t 64)), [], []⟩,
                                    ⟨(none, .mm 66 true [(.c (.I 0)), (.t 65)]), [], []⟩,
                                    ⟨(none, .bin 67 .add (.t 54) (.t 66)), [], []⟩,
                                    ⟨(none, .mv 17 (.t 67)), [], []⟩])
                                 (.seq (.ops [(none, .mv 68 (.t 11)),
                                     (none, .mv 69 (.t 16)),
                                     (none, .idxS 70 1 (.t 68) (.t 69)),
                                     (none, .load1 71 (.t 70)),
                                     (none, .bin 72 .lss (.t 71) (.c (.I 0))),
                                     (none, .mv 73 (.t 72)),
                                     (some (73, false), .mv 74 (.t 17)),
                                     (some (73, false), .mv 75 (.t 11)),
                                     (some (73, false), .mv 76 (.t 16)),
                                     (some (73, false), .idxS 77 1 (.t 75) (.t 76)),
                                     (some (73, false), .load1 78 (.t 77)),
                                     (some (73, false), .bin 79 .lss (.t 74) (.t 78)),
                                     (none, .pick 80 (.t 73) (.c (.B true)) (.t 79))])
                                  (.cond (.t 80) (.ops [(none, .mv 81 (.t 11)),
                                      (none, .mv 82 (.t 16)),
                                      (none, .mv 83 (.t 17)),
                                      (none, .idxS 84 1 (.t 81) (.t 82)),
                                      (none, .store 1 (.t 84) (.t 83)),
                                      (none, .mv 12 (.c (.B true)))])
                                   (.skip))))))
                              (.ops [(none, .bin 85 .add (.t 50) (.c (.I 1))),
                                 (none, .mv 50 (.t 85))]))))))))))
                     (.ops [(none, .bin 86 .add (.t 38) (.c (.I 1))),
                        (none, .mv 38 (.t 86))])))))))))))))
         (.seq (.ops [(none, .mv 87 (.t 11)),
             (none, .mv 88 (.t 2)),
             (none, .idxS 89 1 (.t 87) (.t 88)),
             (none, .load1 90 (.t 89)),
             (none, .call (some 91) F.impl_found [(.t 90)]),
             (none, .extract 92 (.t 91) 0),
             (none, .extract 93 (.t 91) 1),
             (none, .mv 8 (.t 92)),
             (none, .mv 9 (.t 93))])
          (.ret)))))))⟩
/-- impl.FirstTopWalk -/
def impl_FirstTopWalk : AFn :=
  ⟨4, 52, [.tmp 8, .tmp 9],
    .seq (.ops [(none, .box 4 (.t 0)),
       (none, .box 5 (.t 1)),
       (none, .mv 8 (.c .nil)),
       (none, .mv 9 (.c (.B false)))])
    (.seq (.seq (.ops [(none, .loadN 14 4 (.t 4)),
         (none, .mv 15 (.t 3)),
         (none, .load1 16 (.t 5)),
         (none, .mv 17 (.t 2)),
         (none, .buildSl 18 2 1 [(.I 0), (.I 0)] [(0, 1, (.t 16)), (1, 1, (.t 17))]),
         (none, .call (some 19) F.impl_isTop [(.t 14), (.t 15), (.t 18)]),
         (none, .un 20 .not (.t 19))])
      (.cond (.t 20) (.seq (.ops [(none, .mv 8 (.c .nil)),
           (none, .mv 9 (.c (.B false)))])
        (.ret))
       (.skip)))
     (.seq (.ops [(none, .loadN 21 4 (.t 4)),
         (none, .call (some 22) F.impl_Heap_top [(.t 21)]),
         (none, .alloc 10 [.nil, (.I 0)]),
         (none, .store 2 (.t 10) (.t 22))])
      (.seq (.ops [(none, .loadN 23 2 (.t 10)),
          (none, .mv 24 (.t 2)),
          (none, .mv 25 (.t 3)),
          (none, .call (some 26) F.impl_top_distances [(.t 23), (.t 24), (.t 25)]),
          (none, .alloc 11 [.nil]),
          (none, .store 1 (.t 11) (.t 26))])
       (.seq (.seq (.ops [(none, .load1 27 (.t 11)),
            (none, .load1 28 (.t 5)),
            (none, .idxS 29 1 (.t 27) (.t 28)),
            (none, .load1 30 (.t 29)),
            (none, .bin 31 .lss (.t 30) (.c (.I 0)))])
         (.cond (.t 31) (.seq (.ops [(none, .mv 8 (.c .nil)),
              (none, .mv 9 (.c (.B false)))])
           (.ret))
          (.skip)))
        (.seq (.ops [(none, .load1 32 (.t 5)),
            (none, .buildSl 33 1 1 [(.I 0)] [(0, 1, (.t 32))]),
            (none, .mv 12 (.t 33))])
         (.seq (.block 0 (.loop (.seq (.seq (.ops [(none, .load1 34 (.t 5)),
                 (none, .mv 35 (.t 2)),
                 (none, .bin 36 .neq (.t 34) (.t 35))])
              (.cond (.t 36) (.skip)
               (.exit 0)))
             (.block 1 (.seq (.ops [(none, .loadN 37 2 (.t 10)),
                  (none, .load1 38 (.t 5)),
                  (none, .mv 39 (.t 3)),
                  (none, .call (some 40) F.impl_top_steps [(.t 37), (.t 38), (.t 39)]),
                  (none, .mv 13 (.t 40))])
               (.seq (.ops [(none, .mv 41 (.t 13)),
                   (none, .mv 42 (.t 13)),
                   (none, .mkf 43 F.impl_FirstTopWalk_1 [(.t 11), (.t 5)]),
                   (none, .call (some 44) F.slices_IndexFunc_Sint_int [(.t 42), (.t 43)]),
                   (none, .idxS 45 1 (.t 41) (.t 44)),
                   (none, .load1 46 (.t 45)),
                   (none, .store 1 (.t 5) (.t 46))])
                (.ops [(none, .mv 47 (.t 12)),
                   (none, .load1 48 (.t 5)),
                   (none, .buildSl 49 1 1 [(.I 0)] [(0, 1, (.t 48))]),
                   (none, .append 50 1 8 (.t 47) (.t 49)),
                   (none, .mv 12 (.t 50))])))))))
          (.seq (.ops [(none, .mv 51 (.t 12)),
              (none, .mv 8 (.t 51)),
              (none, .mv 9 (.c (.B true)))])
           (.ret))))))))⟩
/-- impl.FirstTopWalk$1 -/
def impl_FirstTopWalk_1 : AFn :=
  ⟨3, 15, [.tmp 4],
    .seq (.ops [(none, .mv 4 (.c (.B false)))])
    (.seq (.draw [⟨(none, .load1 5 (.t 1)), [], []⟩,
        ⟨(none, .mv 6 (.t 0)), [], []⟩,
        ⟨(none, .idxS 7 1 (.t 5) (.t 6)), [], []⟩,
        ⟨(none, .load1 8 (.t 7)), [], []⟩,
        ⟨(none, .load1 9 (.t 1)), [], []⟩,
        ⟨(none, .load1 10 (.t 2)), [], []⟩,
        ⟨(none, .idxS 11 1 (.t 9) (.t 10)), [], []⟩,
        ⟨(none, .load1 12 (.t 11)), [], []⟩,
        ⟨(none, .bin 13 .sub (.t 12) (.c (.I 1))), [], []⟩,
        ⟨(none, .bin 14 .eql (.t 8) (.t 13)), [], []⟩,
        ⟨(none, .mv 4 (.t 14)), [], []⟩])
     (.ret))⟩
/-- laws.FnExactTopDistance -/
def laws_FnExactTopDistance : AFn :=
  ⟨4, 52, [.tmp 8],
    .seq (.ops [(none, .box 4 (.t 0)),
       (none, .mv 8 (.c (.B false)))])
    (.seq (.ops [(none, .mv 9 (.c (.I 1048576)))])
     (.seq (.ops [(none, .loadN 15 4 (.t 4)),
         (none, .mv 16 (.t 9)),
         (none, .call (some 17) F.laws_szHeap [(.t 15), (.t 16)]),
         (none, .mv 9 (.t 17))])
      (.seq (.seq (.ops [(none, .mv 18 (.t 9)),
           (none, .bin 19 .lss (.t 18) (.c (.I 0)))])
        (.cond (.t 19) (.seq (.ops [(none, .mv 8 (.c (.B true)))])
          (.ret))
         (.skip)))
       (.seq (.ops [(none, .loadN 21 4 (.t 4)),
           (none, .call (some 22) F.laws_toHeap [(.t 21)]),
           (none, .mv 23 (.t 1)),
           (none, .mv 24 (.t 2)),
           (none, .mv 25 (.t 3)),
           (none, .call (some 26) F.spec_TopDistance [(.t 22), (.t 23), (.t 24), (.t 25)]),
           (none, .mv 20 (.t 26)),
           (none, .extract 27 (.t 20) 0),
           (none, .extract 28 (.t 20) 1),
           (none, .mv 10 (.t 27)),
           (none, .mv 11 (.t 28))])
        (.seq (.ops [(none, .loadN 29 4 (.t 4)),
            (none, .call (some 30) F.laws_toHeap [(.t 29)]),
            (none, .alloc 12 [(.I 0), (.I 0), (.I 0), .nil]),
            (none, .store 4 (.t 12) (.t 30))])
         (.seq (.ops [(none, .loadN 32 4 (.t 12)),
             (none, .mv 33 (.t 1)),
             (none, .mv 34 (.t 2)),
             (none, .mv 35 (.t 3)),
             (none, .call (some 36) F.impl_TopDistance [(.t 32), (.t 33), (.t 34), (.t 35)]),
             (none, .mv 31 (.t 36)),
             (none, .extract 37 (.t 31) 0),
             (none, .extract 38 (.t 31) 1),
             (none, .mv 13 (.t 37)),
             (none, .mv 14 (.t 38))])
          (.seq (.seq (.ops [(none, .mv 39 (.t 13)),
               (none, .mv 40 (.t 10)),
               (none, .bin 41 .neq (.t 39) (.t 40)),
               (none, .mv 42 (.t 41)),
               (some (42, false), .mv 43 (.t 14)),
               (some (42, false), .mv 44 (.t 11)),
               (some (42, false), .eqb 45 true (.t 43) (.t 44)),
               (none, .pick 46 (.t 42) (.c (.B true)) (.t 45))])
            (.cond (.t 46) (.seq (.ops [(none, .mv 8 (.c (.B false)))])
              (.ret))
             (.skip)))
           (.seq (.seq (.draw [⟨(none, .loadN 47 4 (.t 12)), [], []⟩,
                ⟨(none, .loadN 48 4 (.t 4)), [], []⟩,
                ⟨(none, .call (some 49) F.laws_toHeap [(.t 48)]), [], [0]⟩,
                ⟨(none, .call (some 50) F.laws_eqHeap [(.t 47), (.t 49)]), [], []⟩,
                ⟨(none, .un 51 .not (.t 50)), [], []⟩])
             (.cond (.t 51) (.seq (.ops [(none, .mv 8 (.c (.B false)))])
               (.ret))
              (.skip)))
            (.seq (.ops [(none, .mv 8 (.c (.B true)))])
             (.ret))))))))))⟩
/-- laws.FnExactLeastReach -/
def laws_FnExactLeastReach : AFn :=
  ⟨3, 48, [.tmp 6],
    .seq (.ops [(none, .box 3 (.t 0)),
       (none, .mv 6 (.c (.B false)))])
    (.seq (.ops [(none, .mv 7 (.c (.I 1048576)))])
     (.seq (.ops [(none, .loadN 13 4 (.t 3)),
         (none, .mv 14 (.t 7)),
         (none, .call (some 15) F.laws_szHeap [(.t 13), (.t 14)]),
         (none, .mv 7 (.t 15))])
      (.seq (.seq (.ops [(none, .mv 16 (.t 7)),
           (none, .bin 17 .lss (.t 16) (.c (.I 0)))])
        (.cond (.t 17) (.seq (.ops [(none, .mv 6 (.c (.B true)))])
          (.ret))
         (.skip)))
       (.seq (.ops [(none, .loadN 19 4 (.t 3)),
           (none, .call (some 20) F.laws_toHeap [(.t 19)]),
           (none, .mv 21 (.t 1)),
           (none, .mv 22 (.t 2)),
           (none, .call (some 23) F.spec_LeastReach [(.t 20), (.t 21), (.t 22)]),
           (none, .mv 18 (.t 23)),
           (none, .extract 24 (.t 18) 0),
           (none, .extract 25 (.t 18) 1),
           (none, .mv 8 (.t 24)),
           (none, .mv 9 (.t 25))])
        (.seq (.ops [(none, .loadN 26 4 (.t 3)),
            (none, .call (some 27) F.laws_toHeap [(.t 26)]),
            (none, .alloc 10 [(.I 0), (.I 0), (.I 0), .nil]),
            (none, .store 4 (.t 10) (.t 27))])
         (.seq (.ops [(none, .loadN 29 4 (.t 10)),
             (none, .mv 30 (.t 1)),
             (none, .mv 31 (.t 2)),
             (none, .call (some 32) F.impl_LeastReach [(.t 29), (.t 30), (.t 31)]),
             (none, .mv 28 (.t 32)),
             (none, .extract 33 (.t 28) 0),
             (none, .extract 34 (.t 28) 1),
             (none, .mv 11 (.t 33)),
             (none, .mv 12 (.t 34))])
          (.seq (.seq (.ops [(none, .mv 35 (.t 11)),
               (none, .mv 36 (.t 8)),
               (none, .bin 37 .neq (.t 35) (.t 36)),
               (none, .mv 38 (.t 37)),
               (some (38, false), .mv 39 (.t 12)),
               (some (38, false), .mv 40 (.t 9)),
               (some (38, false), .eqb 41 true (.t 39) (.t 40)),
               (none, .pick 42 (.t 38) (.c (.B true)) (.t 41))])
            (.cond (.t 42) (.seq (.ops [(none, .mv 6 (.c (.B false)))])
              (.ret))
             (.skip)))
           (.seq (.seq (.draw [⟨(none, .loadN 43 4 (.t 10)), [], []⟩,
                ⟨(none, .loadN 44 4 (.t 3)), [], []⟩,
                ⟨(none, .call (some 45) F.laws_toHeap [(.t 44)]), [], [0]⟩,
                ⟨(none, .call (some 46) F.laws_eqHeap [(.t 43), (.t 45)]), [], []⟩,
                ⟨(none, .un 47 .not (.t 46)), [], []⟩])
             (.cond (.t 47) (.seq (.ops [(none, .mv 6 (.c (.B false)))])
               (.ret))
              (.skip)))
            (.seq (.ops [(none, .mv 6 (.c (.B true)))])
             (.ret))))))))))⟩
/-- laws.FnExactLeastClimb -/
def laws_FnExactLeastClimb : AFn :=
  ⟨4, 52, [.tmp 8],
    .seq (.ops [(none, .box 4 (.t 0)),
       (none, .mv 8 (.c (.B false)))])
    (.seq (.ops [(none, .mv 9 (.c (.I 1048576)))])
     (.seq (.ops [(none, .loadN 15 4 (.t 4)),
         (none, .mv 16 (.t 9)),
         (none, .call (some 17) F.laws_szHeap [(.t 15), (.t 16)]),
         (none, .mv 9 (.t 17))])
      (.seq (.seq (.ops [(none, .mv 18 (.t 9)),
           (none, .bin 19 .lss (.t 18) (.c (.I 0)))])
        (.cond (.t 19) (.seq (.ops [(none, .mv 8 (.c (.B true)))])
          (.ret))
         (.skip)))
       (.seq (.ops [(none, .loadN 21 4 (.t 4)),
           (none, .call (some 22) F.laws_toHeap [(.t 21)]),
           (none, .mv 23 (.t 1)),
           (none, .mv 24 (.t 2)),
           (none, .mv 25 (.t 3)),
           (none, .call (some 26) F.spec_LeastClimb [(.t 22), (.t 23), (.t 24), (.t 25)]),
           (none, .mv 20 (.t 26)),
           (none, .extract 27 (.t 20) 0),
           (none, .extract 28 (.t 20) 1),
           (none, .mv 10 (.t 27)),
           (none, .mv 11 (.t 28))])
        (.seq (.ops [(none, .loadN 29 4 (.t 4)),
            (none, .call (some 30) F.laws_toHeap [(.t 29)]),
            (none, .alloc 12 [(.I 0), (.I 0), (.I 0), .nil]),
            (none, .store 4 (.t 12) (.t 30))])
         (.seq (.ops [(none, .loadN 32 4 (.t 12)),
             (none, .mv 33 (.t 1)),
             (none, .mv 34 (.t 2)),
             (none, .mv 35 (.t 3)),
             (none, .call (some 36) F.impl_LeastClimb [(.t 32), (.t 33), (.t 34), (.t 35)]),
             (none, .mv 31 (.t 36)),
             (none, .extract 37 (.t 31) 0),
             (none, .extract 38 (.t 31) 1),
             (none, .mv 13 (.t 37)),
             (none, .mv 14 (.t 38))])
          (.seq (.seq (.ops [(none, .mv 39 (.t 13)),
               (none, .mv 40 (.t 10)),
               (none, .bin 41 .neq (.t 39) (.t 40)),
               (none, .mv 42 (.t 41)),
               (some (42, false), .mv 43 (.t 14)),
               (some (42, false), .mv 44 (.t 11)),
               (some (42, false), .eqb 45 true (.t 43) (.t 44)),
               (none, .pick 46 (.t 42) (.c (.B true)) (.t 45))])
            (.cond (.t 46) (.seq (.ops [(none, .mv 8 (.c (.B false)))])
              (.ret))
             (.skip)))
           (.seq (.seq (.draw [⟨(none, .loadN 47 4 (.t 12)), [], []⟩,
                ⟨(none, .loadN 48 4 (.t 4)), [], []⟩,
                ⟨(none, .call (some 49) F.laws_toHeap [(.t 48)]), [], [0]⟩,
                ⟨(none, .call (some 50) F.laws_eqHeap [(.t 47), (.t 49)]), [], []⟩,
                ⟨(none, .un 51 .not (.t 50)), [], []⟩])
             (.cond (.t 51) (.seq (.ops [(none, .mv 8 (.c (.B false)))])
               (.ret))
              (.skip)))
            (.seq (.ops [(none, .mv 8 (.c (.B true)))])
             (.ret))))))))))⟩
/-- laws.FnExactFirstTopWalk -/
def laws_FnExactFirstTopWalk : AFn :=
  ⟨4, 111, [.tmp 8],
    .seq (.ops [(none, .box 4 (.t 0)),
       (none, .mv 8 (.c (.B false)))])
    (.seq (.ops [(none, .mv 9 (.c (.I 1048576)))])
     (.seq (.ops [(none, .loadN 20 4 (.t 4)),
         (none, .mv 21 (.t 9)),
         (none, .call (some 22) F.laws_szHeap [(.t 20), (.t 21)]),
         (none, .mv 9 (.t 22))])
      (.seq (.seq (.ops [(none, .mv 23 (.t 9)),
           (none, .bin 24 .lss (.t 23) (.c (.I 0)))])
        (.cond (.t 24) (.seq (.ops [(none, .mv 8 (.c (.B true)))])
          (.ret))
         (.skip)))
       (.seq (.ops [(none, .loadN 26 4 (.t 4)),
           (none, .call (some 27) F.laws_toHeap [(.t 26)]),
           (none, .mv 28 (.t 1)),
           (none, .mv 29 (.t 2)),
           (none, .mv 30 (.t 3)),
           (none, .call (some 31) F.spec_FirstTopWalk [(.t 27), (.t 28), (.t 29), (.t 30)]),
           (none, .mv 25 (.t 31)),
           (none, .extract 32 (.t 25) 0),
           (none, .extract 33 (.t 25) 1),
           (none, .mv 10 (.t 32)),
           (none, .mv 11 (.t 33))])
        (.seq (.ops [(none, .loadN 34 4 (.t 4)),
            (none, .call (some 35) F.laws_toHeap [(.t 34)]),
            (none, .alloc 12 [(.I 0), (.I 0), (.I 0), .nil]),
            (none, .store 4 (.t 12) (.t 35))])
         (.seq (.ops [(none, .loadN 37 4 (.t 12)),
             (none, .mv 38 (.t 1)),
             (none, .mv 39 (.t 2)),
             (none, .mv 40 (.t 3)),
             (none, .call (some 41) F.impl_FirstTopWalk [(.t 37), (.t 38), (.t 39), (.t 40)]),
             (none, .mv 36 (.t 41)),
             (none, .extract 42 (.t 36) 0),
             (none, .extract 43 (.t 36) 1),
             (none, .mv 13 (.t 42)),
             (none, .mv 14 (.t 43))])
          (.seq (.seq (.ops [(none, .mv 44 (.t 13)),
               (none, .mv 45 (.t 10)),
               (none, .call (some 46) F.laws_eqIntS [(.t 44), (.t 45)]),
               (none, .un 47 .not (.t 46)),
               (none, .mv 48 (.t 47)),
               (some (48, false), .mv 49 (.t 14)),
               (some (48, false), .mv 50 (.t 11)),
               (some (48, false), .eqb 51 true (.t 49) (.t 50)),
               (none, .pick 52 (.t 48) (.c (.B true)) (.t 51))])
            (.cond (.t 52) (.seq (.ops [(none, .mv 8 (.c (.B false)))])
              (.ret))
             (.skip)))
           (.seq (.seq (.draw [⟨(none, .loadN 53 4 (.t 12)), [], []⟩,
                ⟨(none, .loadN 54 4 (.t 4)), [], []⟩,
                ⟨(none, .call (some 55) F.laws_toHeap [(.t 54)]), [], [0]⟩,
                ⟨(none, .call (some 56) F.laws_eqHeap [(.t 53), (.t 55)]), [], []⟩,
                ⟨(none, .un 57 .not (.t 56)), [], []⟩])
             (.cond (.t 57) (.seq (.ops [(none, .mv 8 (.c (.B false)))])
               (.ret))
              (.skip)))
            (.seq (.ops [(none, .mv 15 (.c (.I 1)))])
             (.seq (.ops [(none, .loadN 58 4 (.t 12)),
                 (none, .mv 59 (.t 15)),
                 (none, .call (some 60) F.laws_markHeap [(.t 58), (.t 59)]),
                 (none, .mv 15 (.t 60))])
              (.seq (.seq (.ops [(none, .mv 61 (.t 15)),
                   (none, .bin 62 .lss (.t 61) (.c (.I 0))),
                   (none, .mv 63 (.t 62)),
                   (some (63, false), .mv 64 (.t 13)),
                   (some (63, false), .mv 65 (.t 10)),
                   (some (63, false), .call (some 66) F.laws_eqIntS [(.t 64), (.t 65)]),
                   (some (63, false), .un 67 .not (.t 66)),
                   (none, .pick 68 (.t 63) (.c (.B true)) (.t 67)),
                   (none, .mv 69 (.t 68)),
                   (some (69, false), .mv 70 (.t 14)),
                   (some (69, false), .mv 71 (.t 11)),
                   (some (69, false), .eqb 72 true (.t 70) (.t 71)),
                   (none, .pick 73 (.t 69) (.c (.B true)) (.t 72))])
                (.cond (.t 73) (.seq (.ops [(none, .mv 8 (.c (.B false)))])
                  (.ret))
                 (.skip)))
               (.seq (.ops [(none, .mv 16 (.c (.I 1)))])
                (.seq (.ops [(none, .mv 74 (.t 13)),
                    (none, .mv 75 (.t 16)),
                    (none, .call (some 76) F.laws_markIntS [(.t 74), (.t 75)]),
                    (none, .mv 16 (.t 76))])
                 (.seq (.ops [(none, .mv 17 (.c (.I 1)))])
                  (.seq (.ops [(none, .mv 77 (.t 13)),
                      (none, .mv 78 (.t 17)),
                      (none, .call (some 79) F.laws_heldIntS [(.t 77), (.t 78)]),
                      (none, .mv 17 (.t 79))])
                   (.seq (.seq (.ops [(none, .mv 80 (.t 17)),
                        (none, .bin 81 .lss (.t 80) (.c (.I 0)))])
                     (.cond (.t 81) (.seq (.ops [(none, .mv 8 (.c (.B false)))])
                       (.ret))
                      (.skip)))
                    (.seq (.seq (.ops [(none, .mv 82 (.t 17)),
                         (none, .mv 83 (.t 16)),
                         (none, .bin 84 .neq (.t 82) (.t 83))])
                      (.cond (.t 84) (.seq (.ops [(none, .mv 8 (.c (.B false)))])
                        (.ret))
                       (.skip)))
                     (.seq (.ops [(none, .loadN 86 4 (.t 4)),
                         (none, .call (some 87) F.laws_toHeap [(.t 86)]),
                         (none, .mv 88 (.t 1)),
                         (none, .mv 89 (.t 2)),
                         (none, .mv 90 (.t 3)),
                         (none, .call (some 91) F.impl_FirstTopWalk [(.t 87), (.t 88), (.t 89), (.t 90)]),
                         (none, .mv 85 (.t 91)),
                         (none, .extract 92 (.t 85) 0),
                         (none, .extract 93 (.t 85) 1),
                         (none, .mv 18 (.t 92)),
                         (none, .mv 19 (.t 93))])
                      (.seq (.seq (.ops [(none, .mv 94 (.t 18)),
                           (none, .mv 95 (.t 10)),
                           (none, .call (some 96) F.laws_eqIntS [(.t 94), (.t 95)]),
                           (none, .un 97 .not (.t 96)),
                           (none, .mv 98 (.t 97)),
                           (some (98, false), .mv 99 (.t 19)),
                           (some (98, false), .mv 100 (.t 11)),
                           (some (98, false), .eqb 101 true (.t 99) (.t 100)),
                           (none, .pick 102 (.t 98) (.c (.B true)) (.t 101))])
                        (.cond (.t 102) (.seq (.ops [(none, .mv 8 (.c (.B false)))])
                          (.ret))
                         (.skip)))
                       (.seq (.ops [(none, .mv 17 (.c (.I 1)))])
                        (.seq (.ops [(none, .mv 103 (.t 13)),
                            (none, .mv 104 (.t 17)),
                            (none, .call (some 105) F.laws_heldIntS [(.t 103), (.t 104)]),
                            (none, .mv 17 (.t 105))])
                         (.seq (.seq (.ops [(none, .mv 106 (.t 17)),
                              (none, .bin 107 .lss (.t 106) (.c (.I 0)))])
                           (.cond (.t 107) (.seq (.ops [(none, .mv 8 (.c (.B false)))])
                             (.ret))
                            (.skip)))
                          (.seq (.seq (.ops [(none, .mv 108 (.t 17)),
                               (none, .mv 109 (.t 16)),
                               (none, .bin 110 .neq (.t 108) (.t 109))])
                            (.cond (.t 110) (.seq (.ops [(none, .mv 8 (.c (.B false)))])
                              (.ret))
                             (.skip)))
                           (.seq (.ops [(none, .mv 8 (.c (.B true)))])
                            (.ret)))))))))))))))))))))))))⟩
end Go.Ab.C

/- That the program has this code. -/
namespace Go.Ab.K
open Go Go.Ab
theorem spec_l10Both : prepF Go.Proofs.Try.prog F.spec_l10Both = some C.spec_l10Both := by kernel_rfl
theorem spec_TopDistance : prepF Go.Proofs.Try.prog F.spec_TopDistance = some C.spec_TopDistance := by kernel_rfl
theorem spec_LeastReach : prepF Go.Proofs.Try.prog F.spec_LeastReach = some C.spec_LeastReach := by kernel_rfl
theorem spec_LeastClimb : prepF Go.Proofs.Try.prog F.spec_LeastClimb = some C.spec_LeastClimb := by kernel_rfl
theorem spec_FirstTopWalk : prepF Go.Proofs.Try.prog F.spec_FirstTopWalk = some C.spec_FirstTopWalk := by kernel_rfl
theorem impl_found : prepF Go.Proofs.Try.prog F.impl_found = some C.impl_found := by kernel_rfl
theorem impl_TopDistance : prepF Go.Proofs.Try.prog F.impl_TopDistance = some C.impl_TopDistance := by kernel_rfl
theorem impl_LeastReach : prepF Go.Proofs.Try.prog F.impl_LeastReach = some C.impl_LeastReach := by kernel_rfl
theorem impl_LeastClimb : prepF Go.Proofs.Try.prog F.impl_LeastClimb = some C.impl_LeastClimb := by kernel_rfl
theorem impl_FirstTopWalk : prepF Go.Proofs.Try.prog F.impl_FirstTopWalk = some C.impl_FirstTopWalk := by kernel_rfl
theorem impl_FirstTopWalk_1 : prepF Go.Proofs.Try.prog F.impl_FirstTopWalk_1 = some C.impl_FirstTopWalk_1 := by kernel_rfl
theorem laws_FnExactTopDistance : prepF Go.Proofs.Try.prog F.laws_FnExactTopDistance = some C.laws_FnExactTopDistance := by kernel_rfl
theorem laws_FnExactLeastReach : prepF Go.Proofs.Try.prog F.laws_FnExactLeastReach = some C.laws_FnExactLeastReach := by kernel_rfl
theorem laws_FnExactLeastClimb : prepF Go.Proofs.Try.prog F.laws_FnExactLeastClimb = some C.laws_FnExactLeastClimb := by kernel_rfl
theorem laws_FnExactFirstTopWalk : prepF Go.Proofs.Try.prog F.laws_FnExactFirstTopWalk = some C.laws_FnExactFirstTopWalk := by kernel_rfl
end Go.Ab.K

/- Contracts: distances and least reaches, both sides. -/
namespace Go.Ab
open Go
set_option linter.unusedSimpArgs false
set_option linter.unusedVariables false

theorem h_l10Both {x y z p q s : Int} {t o : Nat} {cs : List Cell} {M : Mem} (h : Tri M t o cs) (hn : cs.length ≤ 1000000000) :
    CallsTo PG F.spec_l10Both [.agg [.I x, .I y, .I z, .ref t o cs.length], .I p, .I q, .I s] M (.B (decide ((HeapOK x y z cs ∧ (0 ≤ p ∧ p ≤ x * y - 1)) ∧ (0 ≤ q ∧ q ≤ x * y - 1) ∧ 0 ≤ s))) M := by
  refine calls_run K.spec_l10Both rfl ?_
  simp (disch := omega) only [C.spec_l10Both, ↓SXd, SXu, slBounds, ↓sop, ↓aop, ↓reduceIte, LV.cells, AOp.dst, LV.I, LV.B, LV.U, LV.S, LV.nil, Nat.reduceEqDiff, Nat.reduceAdd, Nat.reduceMul, Nat.reduceSub, Nat.reduceLeDiff, Nat.reduceBEq, Nat.reduceDiv, Nat.reduceMod, Int.reduceToNat, Int.reduceLT, Int.reduceLE, Int.reduceAdd, Int.reduceSub, Int.reduceMul, Int.reduceEq, Int.reduceNeg, reduceCtorEq, resV, resAll, ARes.ev, LV.flat, ite_true, ite_false, exists_eq_left', exists_eq_left, keyOf, implies_true, fillC, capOf]
  refine callK_of (h_l10Column h.app hn) ?_
  simp (disch := omega) only [↓SXd, SXu, slBounds, ↓sop, ↓aop, ↓reduceIte, LV.cells, AOp.dst, LV.I, LV.B, LV.U, LV.S, LV.nil, Nat.reduceEqDiff, Nat.reduceAdd, Nat.reduceMul, Nat.reduceSub, Nat.reduceLeDiff, Nat.reduceBEq, Nat.reduceDiv, Nat.reduceMod, Int.reduceToNat, Int.reduceLT, Int.reduceLE, Int.reduceAdd, Int.reduceSub, Int.reduceMul, Int.reduceEq, Int.reduceNeg, reduceCtorEq, resV, resAll, ARes.ev, LV.flat, ite_true, ite_false, exists_eq_left', exists_eq_left, keyOf, implies_true, fillC, capOf]
  by_cases h1 : HeapOK x y z cs ∧ (0 ≤ p ∧ p ≤ x * y - 1)
  · simp (disch := omega) only [h1, ↓SXd, SXu, slBounds, ↓sop, ↓aop, ↓reduceIte, LV.cells, AOp.dst, LV.I, LV.B, LV.U, LV.S, LV.nil, Nat.reduceEqDiff, Nat.reduceAdd, Nat.reduceMul, Nat.reduceSub, Nat.reduceLeDiff, Nat.reduceBEq, Nat.reduceDiv, Nat.reduceMod, Int.reduceToNat, Int.reduceLT, Int.reduceLE, Int.reduceAdd, Int.reduceSub, Int.reduceMul, Int.reduceEq, Int.reduceNeg, reduceCtorEq, resV, resAll, ARes.ev, LV.flat, ite_true, ite_false, exists_eq_left', exists_eq_left, keyOf, implies_true, fillC, capOf]
    refine callK_of (h_l10Column h.app hn) ?_
    simp (disch := omega) only [h1, ↓SXd, SXu, slBounds, ↓sop, ↓aop, ↓reduceIte, LV.cells, AOp.dst, LV.I, LV.B, LV.U, LV.S, LV.nil, Nat.reduceEqDiff, Nat.reduceAdd, Nat.reduceMul, Nat.reduceSub, Nat.reduceLeDiff, Nat.reduceBEq, Nat.reduceDiv, Nat.reduceMod, Int.reduceToNat, Int.reduceLT, Int.reduceLE, Int.reduceAdd, Int.reduceSub, Int.reduceMul, Int.reduceEq, Int.reduceNeg, reduceCtorEq, resV, resAll, ARes.ev, LV.flat, ite_true, ite_false, exists_eq_left', exists_eq_left, keyOf, implies_true, fillC, capOf]
    by_cases h2 : 0 ≤ q ∧ q ≤ x * y - 1
    · by_cases h3 : 0 ≤ s
      · have h3' : s ≥ 0 := h3
        simp (disch := omega) only [h1, h2, h3, h3', ↓SXd, SXu, slBounds, ↓sop, ↓aop, ↓reduceIte, LV.cells, AOp.dst, LV.I, LV.B, LV.U, LV.S, LV.nil, Nat.reduceEqDiff, Nat.reduceAdd, Nat.reduceMul, Nat.reduceSub, Nat.reduceLeDiff, Nat.reduceBEq, Nat.reduceDiv, Nat.reduceMod, Int.reduceToNat, Int.reduceLT, Int.reduceLE, Int.reduceAdd, Int.reduceSub, Int.reduceMul, Int.reduceEq, Int.reduceNeg, reduceCtorEq, resV, resAll, ARes.ev, LV.flat, ite_true, ite_false, exists_eq_left', exists_eq_left, keyOf, implies_true, fillC, capOf]
        exact cmp_drop rfl
      · have h3' : ¬ s ≥ 0 := h3
        simp (disch := omega) only [h1, h2, h3, h3', and_false, ↓SXd, SXu, slBounds, ↓sop, ↓aop, ↓reduceIte, LV.cells, AOp.dst, LV.I, LV.B, LV.U, LV.S, LV.nil, Nat.reduceEqDiff, Nat.reduceAdd, Nat.reduceMul, Nat.reduceSub, Nat.reduceLeDiff, Nat.reduceBEq, Nat.reduceDiv, Nat.reduceMod, Int.reduceToNat, Int.reduceLT, Int.reduceLE, Int.reduceAdd, Int.reduceSub, Int.reduceMul, Int.reduceEq, Int.reduceNeg, reduceCtorEq, resV, resAll, ARes.ev, LV.flat, ite_true, ite_false, exists_eq_left', exists_eq_left, keyOf, implies_true, fillC, capOf]
        exact cmp_drop rfl
    · simp (disch := omega) only [h1, h2, false_and, and_false, ↓SXd, SXu, slBounds, ↓sop, ↓aop, ↓reduceIte, LV.cells, AOp.dst, LV.I, LV.B, LV.U, LV.S, LV.nil, Nat.reduceEqDiff, Nat.reduceAdd, Nat.reduceMul, Nat.reduceSub, Nat.reduceLeDiff, Nat.reduceBEq, Nat.reduceDiv, Nat.reduceMod, Int.reduceToNat, Int.reduceLT, Int.reduceLE, Int.reduceAdd, Int.reduceSub, Int.reduceMul, Int.reduceEq, Int.reduceNeg, reduceCtorEq, resV, resAll, ARes.ev, LV.flat, ite_true, ite_false, exists_eq_left', exists_eq_left, keyOf, implies_true, fillC, capOf]
      exact cmp_drop rfl
  · simp (disch := omega) only [h1, false_and, ↓SXd, SXu, slBounds, ↓sop, ↓aop, ↓reduceIte, LV.cells, AOp.dst, LV.I, LV.B, LV.U, LV.S, LV.nil, Nat.reduceEqDiff, Nat.reduceAdd, Nat.reduceMul, Nat.reduceSub, Nat.reduceLeDiff, Nat.reduceBEq, Nat.reduceDiv, Nat.reduceMod, Int.reduceToNat, Int.reduceLT, Int.reduceLE, Int.reduceAdd, Int.reduceSub, Int.reduceMul, Int.reduceEq, Int.reduceNeg, reduceCtorEq, resV, resAll, ARes.ev, LV.flat, ite_true, ite_false, exists_eq_left', exists_eq_left, keyOf, implies_true, fillC, capOf]
    exact cmp_drop rfl

/-- The distance of two columns, or -1. -/
noncomputable def tdOf (x y z : Int) (cs : List Cell) (p q s : Int) : Int := by
  classical
  exact if (HeapOK x y z cs ∧ (0 ≤ p ∧ p ≤ x * y - 1)) ∧ (0 ≤ q ∧ q ≤ x * y - 1) ∧ 0 ≤ s then (spreadOf x y cs p s).getD q.toNat 0 else -1

theorem h_sTopDistance {x y z p q s : Int} {t o : Nat} {cs : List Cell} {M : Mem} (h : Tri M t o cs) (hn : cs.length ≤ 1000000000) :
    CallsTo PG F.spec_TopDistance [.agg [.I x, .I y, .I z, .ref t o cs.length], .I p, .I q, .I s] M (.tup [.I (max (tdOf x y z cs p q s) 0), .B (decide (0 ≤ tdOf x y z cs p q s))]) M := by
  refine calls_run K.spec_TopDistance rfl ?_
  simp (disch := omega) only [C.spec_TopDistance, ↓SXd, SXu, slBounds, ↓sop, ↓aop, ↓reduceIte, LV.cells, AOp.dst, LV.I, LV.B, LV.U, LV.S, LV.nil, Nat.reduceEqDiff, Nat.reduceAdd, Nat.reduceMul, Nat.reduceSub, Nat.reduceLeDiff, Nat.reduceBEq, Nat.reduceDiv, Nat.reduceMod, Int.reduceToNat, Int.reduceLT, Int.reduceLE, Int.reduceAdd, Int.reduceSub, Int.reduceMul, Int.reduceEq, Int.reduceNeg, reduceCtorEq, resV, resAll, ARes.ev, LV.flat, ite_true, ite_false, exists_eq_left', exists_eq_left, keyOf, implies_true, fillC, capOf]
  refine callK_of (h_l10Both h.app hn) ?_
  simp (disch := omega) only [↓SXd, SXu, slBounds, ↓sop, ↓aop, ↓reduceIte, LV.cells, AOp.dst, LV.I, LV.B, LV.U, LV.S, LV.nil, Nat.reduceEqDiff, Nat.reduceAdd, Nat.reduceMul, Nat.reduceSub, Nat.reduceLeDiff, Nat.reduceBEq, Nat.reduceDiv, Nat.reduceMod, Int.reduceToNat, Int.reduceLT, Int.reduceLE, Int.reduceAdd, Int.reduceSub, Int.reduceMul, Int.reduceEq, Int.reduceNeg, reduceCtorEq, resV, resAll, ARes.ev, LV.flat, ite_true, ite_false, exists_eq_left', exists_eq_left, keyOf, implies_true, fillC, capOf]
  unfold tdOf
  by_cases hV : (HeapOK x y z cs ∧ (0 ≤ p ∧ p ≤ x * y - 1)) ∧ (0 ≤ q ∧ q ≤ x * y - 1) ∧ 0 ≤ s
  · obtain ⟨⟨hH, hp⟩, hq, hs⟩ := id hV
    have hb := mul_bound hH.1.1 hH.1.2.1
    have hsl := spreadOf_len (cs := cs) (s := s) hp
    rw [if_pos hV]
    simp (disch := omega) only [hV, ↓SXd, SXu, slBounds, ↓sop, ↓aop, ↓reduceIte, LV.cells, AOp.dst, LV.I, LV.B, LV.U, LV.S, LV.nil, Nat.reduceEqDiff, Nat.reduceAdd, Nat.reduceMul, Nat.reduceSub, Nat.reduceLeDiff, Nat.reduceBEq, Nat.reduceDiv, Nat.reduceMod, Int.reduceToNat, Int.reduceLT, Int.reduceLE, Int.reduceAdd, Int.reduceSub, Int.reduceMul, Int.reduceEq, Int.reduceNeg, reduceCtorEq, resV, resAll, ARes.ev, LV.flat, ite_true, ite_false, exists_eq_left', exists_eq_left, keyOf, implies_true, fillC, capOf]
    refine callK_of (h_l10Spread h.app hn hH hp) ?_
    simp (disch := omega) only [intL_get, ↓SXd, SXu, slBounds, ↓sop, ↓aop, ↓reduceIte, LV.cells, AOp.dst, LV.I, LV.B, LV.U, LV.S, LV.nil, Nat.reduceEqDiff, Nat.reduceAdd, Nat.reduceMul, Nat.reduceSub, Nat.reduceLeDiff, Nat.reduceBEq, Nat.reduceDiv, Nat.reduceMod, Int.reduceToNat, Int.reduceLT, Int.reduceLE, Int.reduceAdd, Int.reduceSub, Int.reduceMul, Int.reduceEq, Int.reduceNeg, reduceCtorEq, resV, resAll, ARes.ev, LV.flat, ite_true, ite_false, exists_eq_left', exists_eq_left, keyOf, implies_true, fillC, capOf]
    refine callK_of (h_l1Most) ?_
    simp (disch := omega) only [↓SXd, SXu, slBounds, ↓sop, ↓aop, ↓reduceIte, LV.cells, AOp.dst, LV.I, LV.B, LV.U, LV.S, LV.nil, Nat.reduceEqDiff, Nat.reduceAdd, Nat.reduceMul, Nat.reduceSub, Nat.reduceLeDiff, Nat.reduceBEq, Nat.reduceDiv, Nat.reduceMod, Int.reduceToNat, Int.reduceLT, Int.reduceLE, Int.reduceAdd, Int.reduceSub, Int.reduceMul, Int.reduceEq, Int.reduceNeg, reduceCtorEq, resV, resAll, ARes.ev, LV.flat, ite_true, ite_false, exists_eq_left', exists_eq_left, keyOf, implies_true, fillC, capOf]
    exact cmp_drop rfl
  · rw [if_neg hV]
    simp (disch := omega) only [hV, ↓SXd, SXu, slBounds, ↓sop, ↓aop, ↓reduceIte, LV.cells, AOp.dst, LV.I, LV.B, LV.U, LV.S, LV.nil, Nat.reduceEqDiff, Nat.reduceAdd, Nat.reduceMul, Nat.reduceSub, Nat.reduceLeDiff, Nat.reduceBEq, Nat.reduceDiv, Nat.reduceMod, Int.reduceToNat, Int.reduceLT, Int.reduceLE, Int.reduceAdd, Int.reduceSub, Int.reduceMul, Int.reduceEq, Int.reduceNeg, reduceCtorEq, resV, resAll, ARes.ev, LV.flat, ite_true, ite_false, exists_eq_left', exists_eq_left, keyOf, implies_true, fillC, capOf]
    exact cmp_drop rfl

theorem g_found {n : Int} {M : Mem} : CallsTo PG F.impl_found [.I n] M (.tup [.I (max n 0), .B (decide (0 ≤ n))]) M := by
  refine calls_run K.impl_found rfl ?_
  simp (disch := omega) only [C.impl_found, maxV, ite_true, if_true, ↓SXd, SXu, slBounds, ↓sop, ↓aop, ↓reduceIte, LV.cells, AOp.dst, LV.I, LV.B, LV.U, LV.S, LV.nil, Nat.reduceEqDiff, Nat.reduceAdd, Nat.reduceMul, Nat.reduceSub, Nat.reduceLeDiff, Nat.reduceBEq, Nat.reduceDiv, Nat.reduceMod, Int.reduceToNat, Int.reduceLT, Int.reduceLE, Int.reduceAdd, Int.reduceSub, Int.reduceMul, Int.reduceEq, Int.reduceNeg, reduceCtorEq, resV, resAll, ARes.ev, LV.flat, ite_true, ite_false, exists_eq_left', exists_eq_left, keyOf, implies_true, fillC, capOf]
  rw [show max 0 n = max n 0 by omega]
  exact cmp_drop0 rfl

theorem all2_iff {p q lo hi : Int} : (∀ k, k < [p, q].length → lo ≤ [p, q].getD k 0 ∧ [p, q].getD k 0 ≤ hi) ↔ (lo ≤ p ∧ p ≤ hi) ∧ (lo ≤ q ∧ q ≤ hi) := by
  constructor
  · intro h; exact ⟨h 0 (by simp), h 1 (by simp)⟩
  · intro h k hk
    match k with
    | 0 => exact h.1
    | 1 => exact h.2
    | k + 2 => simp at hk; omega

theorem g_isTop2 {x y z p q s : Int} {t o t' : Nat} {cs : List Cell} {M : Mem} (h : Tri M t o cs) (hn : cs.length ≤ 1000000000) (h' : Live M t' (.row [.I p, .I q] true 1)) :
    CallsTo PG F.impl_isTop [.agg [.I x, .I y, .I z, .ref t o cs.length], .I s, .ref t' 0 2] M (.B (decide ((HeapOK x y z cs ∧ (0 ≤ p ∧ p ≤ x * y - 1)) ∧ (0 ≤ q ∧ q ≤ x * y - 1) ∧ 0 ≤ s))) M := by
  have := g_isTop (x := x) (y := y) (z := z) (s := s) (xs := [p, q]) h hn (h'.has) (by simp)
  rw [show decide (HeapOK x y z cs ∧ 0 ≤ s ∧ ∀ k, k < [p, q].length → 0 ≤ [p, q].getD k 0 ∧ [p, q].getD k 0 ≤ x * y - 1) = decide ((HeapOK x y z cs ∧ (0 ≤ p ∧ p ≤ x * y - 1)) ∧ (0 ≤ q ∧ q ≤ x * y - 1) ∧ 0 ≤ s) from decide_eq_decide.2 (by
    rw [all2_iff]
    exact ⟨fun h => ⟨⟨h.1, h.2.2.1⟩, h.2.2.2, h.2.1⟩, fun h => ⟨h.1.1, h.2.2, h.1.2, h.2.1⟩⟩)] at this
  exact this

theorem g_TopDistance {x y z p q s : Int} {t o : Nat} {cs : List Cell} {M : Mem} (h : Tri M t o cs) (hn : cs.length ≤ 1000000000) :
    CallsTo PG F.impl_TopDistance [.agg [.I x, .I y, .I z, .ref t o cs.length], .I p, .I q, .I s] M (.tup [.I (max (tdOf x y z cs p q s) 0), .B (decide (0 ≤ tdOf x y z cs p q s))]) M := by
  refine calls_run K.impl_TopDistance rfl ?_
  simp (disch := omega) only [C.impl_TopDistance, splice, ↓SXd, SXu, slBounds, ↓sop, ↓aop, ↓reduceIte, LV.cells, AOp.dst, LV.I, LV.B, LV.U, LV.S, LV.nil, Nat.reduceEqDiff, Nat.reduceAdd, Nat.reduceMul, Nat.reduceSub, Nat.reduceLeDiff, Nat.reduceBEq, Nat.reduceDiv, Nat.reduceMod, Int.reduceToNat, Int.reduceLT, Int.reduceLE, Int.reduceAdd, Int.reduceSub, Int.reduceMul, Int.reduceEq, Int.reduceNeg, reduceCtorEq, resV, resAll, ARes.ev, LV.flat, ite_true, ite_false, exists_eq_left', exists_eq_left, keyOf, implies_true, fillC, capOf]
  refine callK_of (g_isTop2 h.app hn (Live.newj (j := 1) rfl)) ?_
  simp (disch := omega) only [↓SXd, SXu, slBounds, ↓sop, ↓aop, ↓reduceIte, LV.cells, AOp.dst, LV.I, LV.B, LV.U, LV.S, LV.nil, Nat.reduceEqDiff, Nat.reduceAdd, Nat.reduceMul, Nat.reduceSub, Nat.reduceLeDiff, Nat.reduceBEq, Nat.reduceDiv, Nat.reduceMod, Int.reduceToNat, Int.reduceLT, Int.reduceLE, Int.reduceAdd, Int.reduceSub, Int.reduceMul, Int.reduceEq, Int.reduceNeg, reduceCtorEq, resV, resAll, ARes.ev, LV.flat, ite_true, ite_false, exists_eq_left', exists_eq_left, keyOf, implies_true, fillC, capOf]
  unfold tdOf
  by_cases hV : (HeapOK x y z cs ∧ (0 ≤ p ∧ p ≤ x * y - 1)) ∧ (0 ≤ q ∧ q ≤ x * y - 1) ∧ 0 ≤ s
  · obtain ⟨⟨hH, hp⟩, hq, hs⟩ := id hV
    have hb := mul_bound hH.1.1 hH.1.2.1
    have htl := topsOf_len x y cs
    have hsl := spreadOf_len (cs := cs) (s := s) hq
    rw [if_pos hV, spread_comm hp hq]
    simp (disch := omega) only [hV, ↓SXd, SXu, slBounds, ↓sop, ↓aop, ↓reduceIte, LV.cells, AOp.dst, LV.I, LV.B, LV.U, LV.S, LV.nil, Nat.reduceEqDiff, Nat.reduceAdd, Nat.reduceMul, Nat.reduceSub, Nat.reduceLeDiff, Nat.reduceBEq, Nat.reduceDiv, Nat.reduceMod, Int.reduceToNat, Int.reduceLT, Int.reduceLE, Int.reduceAdd, Int.reduceSub, Int.reduceMul, Int.reduceEq, Int.reduceNeg, reduceCtorEq, resV, resAll, ARes.ev, LV.flat, ite_true, ite_false, exists_eq_left', exists_eq_left, keyOf, implies_true, fillC, capOf]
    refine callK_of (g_top h.app hn hH) ?_
    simp (disch := omega) only [↓SXd, SXu, slBounds, ↓sop, ↓aop, ↓reduceIte, LV.cells, AOp.dst, LV.I, LV.B, LV.U, LV.S, LV.nil, Nat.reduceEqDiff, Nat.reduceAdd, Nat.reduceMul, Nat.reduceSub, Nat.reduceLeDiff, Nat.reduceBEq, Nat.reduceDiv, Nat.reduceMod, Int.reduceToNat, Int.reduceLT, Int.reduceLE, Int.reduceAdd, Int.reduceSub, Int.reduceMul, Int.reduceEq, Int.reduceNeg, reduceCtorEq, resV, resAll, ARes.ev, LV.flat, ite_true, ite_false, exists_eq_left', exists_eq_left, keyOf, implies_true, fillC, capOf]
    refine callK_of (g_distances hH.1.1 hH.1.2.1 hq (Live.newj (j := 2) rfl).has htl (topsOf_low hH)) ?_
    simp (disch := omega) only [↓SXd, SXu, slBounds, ↓sop, ↓aop, ↓reduceIte, LV.cells, AOp.dst, LV.I, LV.B, LV.U, LV.S, LV.nil, Nat.reduceEqDiff, Nat.reduceAdd, Nat.reduceMul, Nat.reduceSub, Nat.reduceLeDiff, Nat.reduceBEq, Nat.reduceDiv, Nat.reduceMod, Int.reduceToNat, Int.reduceLT, Int.reduceLE, Int.reduceAdd, Int.reduceSub, Int.reduceMul, Int.reduceEq, Int.reduceNeg, reduceCtorEq, resV, resAll, ARes.ev, LV.flat, ite_true, ite_false, exists_eq_left', exists_eq_left, keyOf, implies_true, fillC, capOf]
    rw [show farFrom (x * y).toNat (fun r => stepsOf x y (topsOf x y cs) r s) q = spreadOf x y cs q s from rfl]
    simp (disch := omega) only [intL_get, ↓SXd, SXu, slBounds, ↓sop, ↓aop, ↓reduceIte, LV.cells, AOp.dst, LV.I, LV.B, LV.U, LV.S, LV.nil, Nat.reduceEqDiff, Nat.reduceAdd, Nat.reduceMul, Nat.reduceSub, Nat.reduceLeDiff, Nat.reduceBEq, Nat.reduceDiv, Nat.reduceMod, Int.reduceToNat, Int.reduceLT, Int.reduceLE, Int.reduceAdd, Int.reduceSub, Int.reduceMul, Int.reduceEq, Int.reduceNeg, reduceCtorEq, resV, resAll, ARes.ev, LV.flat, ite_true, ite_false, exists_eq_left', exists_eq_left, keyOf, implies_true, fillC, capOf]
    refine callK_of (g_found) ?_
    simp (disch := omega) only [↓SXd, SXu, slBounds, ↓sop, ↓aop, ↓reduceIte, LV.cells, AOp.dst, LV.I, LV.B, LV.U, LV.S, LV.nil, Nat.reduceEqDiff, Nat.reduceAdd, Nat.reduceMul, Nat.reduceSub, Nat.reduceLeDiff, Nat.reduceBEq, Nat.reduceDiv, Nat.reduceMod, Int.reduceToNat, Int.reduceLT, Int.reduceLE, Int.reduceAdd, Int.reduceSub, Int.reduceMul, Int.reduceEq, Int.reduceNeg, reduceCtorEq, resV, resAll, ARes.ev, LV.flat, ite_true, ite_false, exists_eq_left', exists_eq_left, keyOf, implies_true, fillC, capOf]
    exact cmp_drop rfl
  · rw [if_neg hV]
    simp (disch := omega) only [hV, ↓SXd, SXu, slBounds, ↓sop, ↓aop, ↓reduceIte, LV.cells, AOp.dst, LV.I, LV.B, LV.U, LV.S, LV.nil, Nat.reduceEqDiff, Nat.reduceAdd, Nat.reduceMul, Nat.reduceSub, Nat.reduceLeDiff, Nat.reduceBEq, Nat.reduceDiv, Nat.reduceMod, Int.reduceToNat, Int.reduceLT, Int.reduceLE, Int.reduceAdd, Int.reduceSub, Int.reduceMul, Int.reduceEq, Int.reduceNeg, reduceCtorEq, resV, resAll, ARes.ev, LV.flat, ite_true, ite_false, exists_eq_left', exists_eq_left, keyOf, implies_true, fillC, capOf]
    exact cmp_drop rfl
end Go.Ab

/- Plain words: the first walk. -/
namespace Go.Ab

def nextOf (D : List Int) (d : Int) (l : List Int) : Int := l.getD (idxF (fun r => decide (D.getD r.toNat 0 = d)) l).toNat 0
/-- The walk from a column on, that many steps long. -/
def walkW (D : List Int) (St : Int → List Int) : Nat → Int → List Int
  | 0, now => [now]
  | f + 1, now => now :: walkW D St f (nextOf D f (St now))
theorem walkW_len (D : List Int) (St : Int → List Int) : ∀ (f : Nat) (now : Int), (walkW D St f now).length = f + 1
  | 0, _ => rfl
  | f + 1, now => by simp only [walkW, List.length_cons, walkW_len D St f]
theorem walkW_head (D : List Int) (St : Int → List Int) (f : Nat) (now : Int) : walkW D St f now = now :: (walkW D St f now).tail := by
  cases f <;> rfl

section
variable {x y s q : Int} {cs : List Cell} (hq : 0 ≤ q ∧ q ≤ x * y - 1)
include hq
theorem spread_zero {v : Int} (hv : 0 ≤ v ∧ v ≤ x * y - 1) : (spreadOf x y cs q s).getD v.toNat 0 = 0 ↔ v = q := by
  constructor
  · intro h
    have := far_way (N := fun r => stepsOf x y (topsOf x y cs) r s) (c := (x * y).toNat) steps_in (by omega) (q := v) (by omega) (n := 0) h
    cases this; rfl
  · rintro rfl
    have h1 := farFrom_self (N := fun r => stepsOf x y (topsOf x y cs) r s) (c := (x * y).toNat) steps_in (p := v) (by omega)
    have h2 := far_le (N := fun r => stepsOf x y (topsOf x y cs) r s) (c := (x * y).toNat) steps_in (p := v) (by omega) (.nil)
    unfold spreadOf; omega
/-- The next column is there, one step nearer. -/
theorem spread_next {v : Int} (hv : 0 ≤ v ∧ v ≤ x * y - 1) {f : Nat} (h : (spreadOf x y cs q s).getD v.toNat 0 = ((f + 1 : Nat) : Int)) :
    ∃ k, k < (stepsOf x y (topsOf x y cs) v s).length ∧ idxF (fun r => decide ((spreadOf x y cs q s).getD r.toNat 0 = (f : Int))) (stepsOf x y (topsOf x y cs) v s) = k ∧
      (∀ j, j < k → (spreadOf x y cs q s).getD ((stepsOf x y (topsOf x y cs) v s).getD j 0).toNat 0 ≠ (f : Int)) ∧ (spreadOf x y cs q s).getD ((stepsOf x y (topsOf x y cs) v s).getD k 0).toNat 0 = (f : Int) ∧
      nextOf (spreadOf x y cs q s) f (stepsOf x y (topsOf x y cs) v s) = (stepsOf x y (topsOf x y cs) v s).getD k 0 ∧ (0 ≤ (stepsOf x y (topsOf x y cs) v s).getD k 0 ∧ (stepsOf x y (topsOf x y cs) v s).getD k 0 ≤ x * y - 1) := by
  obtain ⟨a, ha, hva, he⟩ := far_nearer (N := fun r => stepsOf x y (topsOf x y cs) r s) (c := (x * y).toNat) steps_in (p := q) (by omega) (q := v) (by omega) (by unfold spreadOf at h; omega)
  have hav := steps_comm (by omega) hva
  rcases idxF_cases (fun r => decide ((spreadOf x y cs q s).getD r.toNat 0 = (f : Int))) (stepsOf x y (topsOf x y cs) v s) with ⟨_, hall⟩ | ⟨k, hk, hi, hbef, hat⟩
  · exfalso
    obtain ⟨j, hj, hje⟩ := List.getElem_of_mem hav
    have := hall j hj
    simp only [decide_eq_false_iff_not] at this
    apply this
    rw [show (stepsOf x y (topsOf x y cs) v s).getD j 0 = a by simp [hj, hje]]
    unfold spreadOf at h ⊢
    omega
  · have hm := stepsOf_mem (getD_mem (d := 0) hk)
    refine ⟨k, hk, hi, fun j hj => by have := hbef j hj; simpa using this, by simpa using hat, ?_, by omega⟩
    unfold nextOf
    rw [hi]; simp
end

/-- What FirstTopWalk answers. -/
noncomputable def walkOf (x y z : Int) (cs : List Cell) (p q s : Int) : Option (List Int) := by
  classical
  exact if ((HeapOK x y z cs ∧ (0 ≤ p ∧ p ≤ x * y - 1)) ∧ (0 ≤ q ∧ q ≤ x * y - 1) ∧ 0 ≤ s) ∧ 0 ≤ (spreadOf x y cs q s).getD p.toNat 0 then
    some (walkW (spreadOf x y cs q s) (fun r => stepsOf x y (topsOf x y cs) r s) ((spreadOf x y cs q s).getD p.toNat 0).toNat p) else none
theorem walkOf_len {x y z : Int} {cs : List Cell} {p q s : Int} : ((walkOf x y z cs p q s).getD []).length ≤ 1000000000 := by
  unfold walkOf
  split
  · rename_i h
    have hb := mul_bound h.1.1.1.1.1 h.1.1.1.1.2.1
    have := (spreadOf_val (cs := cs) (s := s) h.1.2.1 (k := p.toNat) (by omega)).2
    simp only [Option.getD_some, walkW_len]; omega
  · simp
end Go.Ab

/- Contracts: first walks, both sides. -/
namespace Go.Ab
open Go
set_option linter.unusedSimpArgs false
set_option linter.unusedVariables false

theorem h_sFirstTopWalk {x y z p q s : Int} {t o : Nat} {cs : List Cell} {M : Mem} (h : Tri M t o cs) (hn : cs.length ≤ 1000000000) :
    CallsR PG F.spec_FirstTopWalk [.agg [.I x, .I y, .I z, .ref t o cs.length], .I p, .I q, .I s] M (IntsRes M (walkOf x y z cs p q s)) := by
  refine callsR_run K.spec_FirstTopWalk rfl ?_
  simp (disch := omega) only [C.spec_FirstTopWalk, ↓SXd, SXu, slBounds, ↓sop, ↓aop, ↓reduceIte, LV.cells, AOp.dst, LV.I, LV.B, LV.U, LV.S, LV.nil, Nat.reduceEqDiff, Nat.reduceAdd, Nat.reduceMul, Nat.reduceSub, Nat.reduceLeDiff, Nat.reduceBEq, Nat.reduceDiv, Nat.reduceMod, Int.reduceToNat, Int.reduceLT, Int.reduceLE, Int.reduceAdd, Int.reduceSub, Int.reduceMul, Int.reduceEq, Int.reduceNeg, reduceCtorEq, resV, resAll, ARes.ev, LV.flat, ite_true, ite_false, exists_eq_left', exists_eq_left, keyOf, implies_true, fillC, capOf]
  refine callK_of (h_l10Both h.app hn) ?_
  simp (disch := omega) only [↓SXd, SXu, slBounds, ↓sop, ↓aop, ↓reduceIte, LV.cells, AOp.dst, LV.I, LV.B, LV.U, LV.S, LV.nil, Nat.reduceEqDiff, Nat.reduceAdd, Nat.reduceMul, Nat.reduceSub, Nat.reduceLeDiff, Nat.reduceBEq, Nat.reduceDiv, Nat.reduceMod, Int.reduceToNat, Int.reduceLT, Int.reduceLE, Int.reduceAdd, Int.reduceSub, Int.reduceMul, Int.reduceEq, Int.reduceNeg, reduceCtorEq, resV, resAll, ARes.ev, LV.flat, ite_true, ite_false, exists_eq_left', exists_eq_left, keyOf, implies_true, fillC, capOf]
  unfold walkOf
  by_cases hV : (HeapOK x y z cs ∧ (0 ≤ p ∧ p ≤ x * y - 1)) ∧ (0 ≤ q ∧ q ≤ x * y - 1) ∧ 0 ≤ s
  · obtain ⟨⟨hH, hp⟩, hq, hs⟩ := id hV
    have hb := mul_bound hH.1.1 hH.1.2.1
    have hsl := spreadOf_len (cs := cs) (s := s) hq
    have htl := topsOf_len x y cs
    have hval := spreadOf_val (cs := cs) (s := s) hq (k := p.toNat) (by omega)
    simp (disch := omega) only [hV, ↓SXd, SXu, slBounds, ↓sop, ↓aop, ↓reduceIte, LV.cells, AOp.dst, LV.I, LV.B, LV.U, LV.S, LV.nil, Nat.reduceEqDiff, Nat.reduceAdd, Nat.reduceMul, Nat.reduceSub, Nat.reduceLeDiff, Nat.reduceBEq, Nat.reduceDiv, Nat.reduceMod, Int.reduceToNat, Int.reduceLT, Int.reduceLE, Int.reduceAdd, Int.reduceSub, Int.reduceMul, Int.reduceEq, Int.reduceNeg, reduceCtorEq, resV, resAll, ARes.ev, LV.flat, ite_true, ite_false, exists_eq_left', exists_eq_left, keyOf, implies_true, fillC, capOf]
    refine callK_of (h_l10Spread h.app hn hH hq) ?_
    simp (disch := omega) only [intL_get, ↓SXd, SXu, slBounds, ↓sop, ↓aop, ↓reduceIte, LV.cells, AOp.dst, LV.I, LV.B, LV.U, LV.S, LV.nil, Nat.reduceEqDiff, Nat.reduceAdd, Nat.reduceMul, Nat.reduceSub, Nat.reduceLeDiff, Nat.reduceBEq, Nat.reduceDiv, Nat.reduceMod, Int.reduceToNat, Int.reduceLT, Int.reduceLE, Int.reduceAdd, Int.reduceSub, Int.reduceMul, Int.reduceEq, Int.reduceNeg, reduceCtorEq, resV, resAll, ARes.ev, LV.flat, ite_true, ite_false, exists_eq_left', exists_eq_left, keyOf, implies_true, fillC, capOf]
    refine condC_dec (fun hneg => ?_) (fun hneg => ?_)
    · rw [if_neg (fun e => by omega)]
      simp (disch := omega) only [↓SXd, SXu, slBounds, ↓sop, ↓aop, ↓reduceIte, LV.cells, AOp.dst, LV.I, LV.B, LV.U, LV.S, LV.nil, Nat.reduceEqDiff, Nat.reduceAdd, Nat.reduceMul, Nat.reduceSub, Nat.reduceLeDiff, Nat.reduceBEq, Nat.reduceDiv, Nat.reduceMod, Int.reduceToNat, Int.reduceLT, Int.reduceLE, Int.reduceAdd, Int.reduceSub, Int.reduceMul, Int.reduceEq, Int.reduceNeg, reduceCtorEq, resV, resAll, ARes.ev, LV.flat, ite_true, ite_false, exists_eq_left', exists_eq_left, keyOf, implies_true, fillC, capOf]
      exact ⟨_, rfl, SlI.of (l := []) (Live.newj (j := 2) rfl), Newer.of (by omega), Pre.app _ _⟩
    · rw [if_pos (show 0 ≤ (spreadOf x y cs q s).getD p.toNat 0 by omega)]
      simp (disch := omega) only [↓SXd, SXu, slBounds, ↓sop, ↓aop, ↓reduceIte, LV.cells, AOp.dst, LV.I, LV.B, LV.U, LV.S, LV.nil, Nat.reduceEqDiff, Nat.reduceAdd, Nat.reduceMul, Nat.reduceSub, Nat.reduceLeDiff, Nat.reduceBEq, Nat.reduceDiv, Nat.reduceMod, Int.reduceToNat, Int.reduceLT, Int.reduceLE, Int.reduceAdd, Int.reduceSub, Int.reduceMul, Int.reduceEq, Int.reduceNeg, reduceCtorEq, resV, resAll, ARes.ev, LV.flat, ite_true, ite_false, exists_eq_left', exists_eq_left, keyOf, implies_true, fillC, capOf]
      refine callK_of (h_l2Tops h.app hn hH) ?_
      simp (disch := omega) only [↓SXd, SXu, slBounds, ↓sop, ↓aop, ↓reduceIte, LV.cells, AOp.dst, LV.I, LV.B, LV.U, LV.S, LV.nil, Nat.reduceEqDiff, Nat.reduceAdd, Nat.reduceMul, Nat.reduceSub, Nat.reduceLeDiff, Nat.reduceBEq, Nat.reduceDiv, Nat.reduceMod, Int.reduceToNat, Int.reduceLT, Int.reduceLE, Int.reduceAdd, Int.reduceSub, Int.reduceMul, Int.reduceEq, Int.reduceNeg, reduceCtorEq, resV, resAll, ARes.ev, LV.flat, ite_true, ite_false, exists_eq_left', exists_eq_left, keyOf, implies_true, fillC, capOf]
      generalize hD : spreadOf x y cs q s = D at hsl hval hneg ⊢
      generalize hT : topsOf x y cs = ts at htl ⊢
      obtain ⟨n, hn0⟩ : ∃ n : Nat, D.getD p.toNat 0 = n := ⟨(D.getD p.toNat 0).toNat, by omega⟩
      refine ev_loop (fun m fr M' => ∃ (now : Int) (u : Nat) (acc : List Int), (0 ≤ now ∧ now ≤ x * y - 1) ∧ D.getD now.toNat 0 = m ∧ acc.length + m = n + 1 ∧ acc ++ (walkW D (fun r => stepsOf x y ts r s) m now).tail = walkW D (fun r => stepsOf x y ts r s) n p ∧
        Pre M M' ∧ Live M' M.length (.row [.I x, .I y, .I z, .ref t o cs.length] true 0) ∧ Live M' (M.length + 1) (.row (intL D) true 1) ∧ Live M' (M.length + 3) (.row (intL ts) true 1) ∧ M.length + 2 ≤ u ∧ u ≠ M.length + 3 ∧ Live M' u (.row (intL acc) true 1) ∧
        fr 2 = .I q ∧ fr 3 = .I s ∧ fr 4 = .ptr M.length 0 ∧ fr 10 = .ref (M.length + 1) 0 (x * y).toNat ∧ fr 11 = .ref u 0 acc.length ∧ fr 12 = .I now ∧ fr 13 = .ref (M.length + 3) 0 (x * y).toNat) n
        ⟨p, M.length + 2, [p], hp, hn0, by simp; omega, by rw [walkW_head D _ n p]; rfl, Pre.app _ _, Live.new, Live.newj rfl, Live.newj rfl, by omega, by omega, Live.newj rfl, rfl, rfl, rfl, rfl, rfl, rfl, rfl⟩ ?_
      rintro m fr M' ⟨now, u, acc, hnow, hm, hal, hw, hpre, hbox, hleft, htop, hu, hu3, hout, f2, f3, f4, f10, f11, f12, f13⟩
      have hz := spread_zero (s := s) (cs := cs) hq hnow
      rw [hD, hm] at hz
      simp (disch := omega) only [f2, f3, f4, f10, f11, f12, f13, ↓SXd, SXu, slBounds, ↓sop, ↓aop, ↓reduceIte, LV.cells, AOp.dst, LV.I, LV.B, LV.U, LV.S, LV.nil, Nat.reduceEqDiff, Nat.reduceAdd, Nat.reduceMul, Nat.reduceSub, Nat.reduceLeDiff, Nat.reduceBEq, Nat.reduceDiv, Nat.reduceMod, Int.reduceToNat, Int.reduceLT, Int.reduceLE, Int.reduceAdd, Int.reduceSub, Int.reduceMul, Int.reduceEq, Int.reduceNeg, reduceCtorEq, resV, resAll, ARes.ev, LV.flat, ite_true, ite_false, exists_eq_left', exists_eq_left, keyOf, implies_true, fillC, capOf]
      refine condC_dec (fun he => ?_) (fun he => ?_)
      · simp (disch := omega) only [f2, f3, f4, f10, f11, f12, f13, ↓SXd, SXu, slBounds, ↓sop, ↓aop, ↓reduceIte, LV.cells, AOp.dst, LV.I, LV.B, LV.U, LV.S, LV.nil, Nat.reduceEqDiff, Nat.reduceAdd, Nat.reduceMul, Nat.reduceSub, Nat.reduceLeDiff, Nat.reduceBEq, Nat.reduceDiv, Nat.reduceMod, Int.reduceToNat, Int.reduceLT, Int.reduceLE, Int.reduceAdd, Int.reduceSub, Int.reduceMul, Int.reduceEq, Int.reduceNeg, reduceCtorEq, resV, resAll, ARes.ev, LV.flat, ite_true, ite_false, exists_eq_left', exists_eq_left, keyOf, implies_true, fillC, capOf]
        have hm0 := hz.2 he
        have : m = 0 := by omega
        subst this
        simp only [walkW, List.tail_cons, List.append_nil] at hw
        have hnn : (((D.getD p.toNat 0).toNat)) = n := by omega
        refine ⟨_, rfl, ?_, Newer.of (by omega), hpre⟩
        simp only [Option.getD_some, hnn, ← hw]
        exact SlI.of hout
      · obtain ⟨f, rfl⟩ : ∃ f, m = f + 1 := ⟨m - 1, by
          have : m ≠ 0 := fun e => he (hz.1 (by omega))
          omega⟩
        obtain ⟨k, hk, _, hbef, hat, hnx, hin⟩ := spread_next hq hnow (by rw [hD]; exact hm)
        rw [hD, hT] at hbef hat hnx
        rw [hT] at hk hin
        have hlow : Low ts := by rw [← hT]; exact topsOf_low hH
        simp (disch := omega) only [f2, f3, f4, f10, f11, f12, f13, hbox.cells, ↓SXd, SXu, slBounds, ↓sop, ↓aop, ↓reduceIte, LV.cells, AOp.dst, LV.I, LV.B, LV.U, LV.S, LV.nil, Nat.reduceEqDiff, Nat.reduceAdd, Nat.reduceMul, Nat.reduceSub, Nat.reduceLeDiff, Nat.reduceBEq, Nat.reduceDiv, Nat.reduceMod, Int.reduceToNat, Int.reduceLT, Int.reduceLE, Int.reduceAdd, Int.reduceSub, Int.reduceMul, Int.reduceEq, Int.reduceNeg, reduceCtorEq, resV, resAll, ARes.ev, LV.flat, ite_true, ite_false, exists_eq_left', exists_eq_left, keyOf, implies_true, fillC, capOf]
        refine callN_of (h_l10Steps hH.1 hnow htop.has htl hlow) ?_
        intro tn N0 htn hp0 hnx0
        simp (disch := omega) only [f2, f3, f4, f10, f11, f12, f13, ↓SXd, SXu, slBounds, ↓sop, ↓aop, ↓reduceIte, LV.cells, AOp.dst, LV.I, LV.B, LV.U, LV.S, LV.nil, Nat.reduceEqDiff, Nat.reduceAdd, Nat.reduceMul, Nat.reduceSub, Nat.reduceLeDiff, Nat.reduceBEq, Nat.reduceDiv, Nat.reduceMod, Int.reduceToNat, Int.reduceLT, Int.reduceLE, Int.reduceAdd, Int.reduceSub, Int.reduceMul, Int.reduceEq, Int.reduceNeg, reduceCtorEq, resV, resAll, ARes.ev, LV.flat, ite_true, ite_false, exists_eq_left', exists_eq_left, keyOf, implies_true, fillC, capOf]
        have hnl := stepsOf_len (p := now) (s := s) (ts := ts) hb.2
        have hmem : ∀ j, j < (stepsOf x y ts now s).length → 0 ≤ (stepsOf x y ts now s).getD j 0 ∧ (stepsOf x y ts now s).getD j 0 < x * y := fun j hj => stepsOf_mem (getD_mem hj)
        have hbox0 := hbox.pre hp0
        have hleft0 := hleft.pre hp0
        have htop0 := htop.pre hp0
        have hout0 := hout.pre hp0
        have hl1 := hout.lt
        have hl3 := htop.lt
        generalize hnxt : stepsOf x y ts now s = nx at hk hbef hat hnx hin hnl hmem hnx0 ⊢
        refine ev_loop (fun m2 fr N => ∃ j : Nat, j + m2 = k ∧ N = N0 ∧ fr 2 = .I q ∧ fr 3 = .I s ∧ fr 4 = .ptr M.length 0 ∧ fr 10 = .ref (M.length + 1) 0 (x * y).toNat ∧ fr 11 = .ref u 0 acc.length ∧ fr 12 = .I now ∧ fr 13 = .ref (M.length + 3) 0 (x * y).toNat ∧
          fr 14 = .ref tn 0 nx.length ∧ fr 15 = .I j) k ⟨0, by omega, rfl, f2, f3, f4, f10, f11, f12, f13, rfl, rfl⟩ ?_
        rintro m2 fr N ⟨j, hj, rfl, f2, f3, f4, f10, f11, f12, f13, f14, f15⟩
        have hmj := hmem j (by omega)
        simp (disch := omega) only [f2, f3, f4, f10, f11, f12, f13, f14, f15, intL_get, hleft0.cell, hnx0.cell, ↓SXd, SXu, slBounds, ↓sop, ↓aop, ↓reduceIte, LV.cells, AOp.dst, LV.I, LV.B, LV.U, LV.S, LV.nil, Nat.reduceEqDiff, Nat.reduceAdd, Nat.reduceMul, Nat.reduceSub, Nat.reduceLeDiff, Nat.reduceBEq, Nat.reduceDiv, Nat.reduceMod, Int.reduceToNat, Int.reduceLT, Int.reduceLE, Int.reduceAdd, Int.reduceSub, Int.reduceMul, Int.reduceEq, Int.reduceNeg, reduceCtorEq, resV, resAll, ARes.ev, LV.flat, ite_true, ite_false, exists_eq_left', exists_eq_left, keyOf, implies_true, fillC, capOf]
        refine condC_dec (fun hd => ?_) (fun hd => ?_)
        · have : j = k := by
            rcases Nat.lt_or_ge j k with h1 | h1
            · exact absurd (hd.trans (by omega)) (hbef j h1)
            · omega
          subst this
          simp (disch := omega) only [f2, f3, f4, f10, f11, f12, f13, f14, f15, intL_get, hnx0.cell, ↓SXd, SXu, slBounds, ↓sop, ↓aop, ↓reduceIte, LV.cells, AOp.dst, LV.I, LV.B, LV.U, LV.S, LV.nil, Nat.reduceEqDiff, Nat.reduceAdd, Nat.reduceMul, Nat.reduceSub, Nat.reduceLeDiff, Nat.reduceBEq, Nat.reduceDiv, Nat.reduceMod, Int.reduceToNat, Int.reduceLT, Int.reduceLE, Int.reduceAdd, Int.reduceSub, Int.reduceMul, Int.reduceEq, Int.reduceNeg, reduceCtorEq, resV, resAll, ARes.ev, LV.flat, ite_true, ite_false, exists_eq_left', exists_eq_left, keyOf, implies_true, fillC, capOf]
          refine appendK_int hout0 (by have := hval.2; omega) fun N' l1 l2 l3 => ?_
          simp (disch := omega) only [f2, f3, f4, f10, f11, f12, f13, f14, f15, ↓SXd, SXu, slBounds, ↓sop, ↓aop, ↓reduceIte, LV.cells, AOp.dst, LV.I, LV.B, LV.U, LV.S, LV.nil, Nat.reduceEqDiff, Nat.reduceAdd, Nat.reduceMul, Nat.reduceSub, Nat.reduceLeDiff, Nat.reduceBEq, Nat.reduceDiv, Nat.reduceMod, Int.reduceToNat, Int.reduceLT, Int.reduceLE, Int.reduceAdd, Int.reduceSub, Int.reduceMul, Int.reduceEq, Int.reduceNeg, reduceCtorEq, resV, resAll, ARes.ev, LV.flat, ite_true, ite_false, exists_eq_left', exists_eq_left, keyOf, implies_true, fillC, capOf]
          have hlN := hp0.1
          refine ⟨f, by omega, nx.getD j 0, _, acc ++ [nx.getD j 0], hin, hat, by simp; omega, ?_, pre_step (hpre.trans hp0) (by omega) l1 l3, live_step hbox0 (by omega) l3, live_step hleft0 (by omega) l3, live_step htop0 (by omega) l3, by omega, by omega, l2, f2, f3, f4, f10, rfl, rfl, f13⟩
          rw [← hw]
          simp only [walkW, List.tail_cons, hnxt, hnx]
          rw [walkW_head D _ f (nx.getD j 0), List.append_assoc]; rfl
        · simp (disch := omega) only [f2, f3, f4, f10, f11, f12, f13, f14, f15, ↓SXd, SXu, slBounds, ↓sop, ↓aop, ↓reduceIte, LV.cells, AOp.dst, LV.I, LV.B, LV.U, LV.S, LV.nil, Nat.reduceEqDiff, Nat.reduceAdd, Nat.reduceMul, Nat.reduceSub, Nat.reduceLeDiff, Nat.reduceBEq, Nat.reduceDiv, Nat.reduceMod, Int.reduceToNat, Int.reduceLT, Int.reduceLE, Int.reduceAdd, Int.reduceSub, Int.reduceMul, Int.reduceEq, Int.reduceNeg, reduceCtorEq, resV, resAll, ARes.ev, LV.flat, ite_true, ite_false, exists_eq_left', exists_eq_left, keyOf, implies_true, fillC, capOf]
          have hjk : j < k := by
            rcases Nat.lt_or_ge j k with h1 | h1
            · exact h1
            · have : j = k := by omega
              subst this
              exact absurd (hat.trans (by omega)) hd
          exact ⟨m2 - 1, by omega, j + 1, by omega, rfl, f2, f3, f4, f10, f11, f12, f13, f14, eqI (natI _)⟩
  · rw [if_neg (fun e => hV e.1)]
    simp (disch := omega) only [hV, ↓SXd, SXu, slBounds, ↓sop, ↓aop, ↓reduceIte, LV.cells, AOp.dst, LV.I, LV.B, LV.U, LV.S, LV.nil, Nat.reduceEqDiff, Nat.reduceAdd, Nat.reduceMul, Nat.reduceSub, Nat.reduceLeDiff, Nat.reduceBEq, Nat.reduceDiv, Nat.reduceMod, Int.reduceToNat, Int.reduceLT, Int.reduceLE, Int.reduceAdd, Int.reduceSub, Int.reduceMul, Int.reduceEq, Int.reduceNeg, reduceCtorEq, resV, resAll, ARes.ev, LV.flat, ite_true, ite_false, exists_eq_left', exists_eq_left, keyOf, implies_true, fillC, capOf]
    exact ⟨_, rfl, SlI.of (l := []) (Live.newj (j := 1) rfl), Newer.of (by omega), Pre.app _ _⟩

theorem g_FirstTopWalk_1 {q : Int} {b1 b2 t o : Nat} {D : List Int} {p : Int} {M : Mem} (h1 : getCell M b1 0 = some (.ref t o D.length)) (h2 : getCell M b2 0 = some (.I p)) (hD : Ints M t o D) (hq : 0 ≤ q ∧ q < (D.length : Int)) (hp : 0 ≤ p ∧ p < (D.length : Int))
    (hv : -1000 ≤ D.getD p.toNat 0 ∧ D.getD p.toNat 0 ≤ 1000) :
    CallsTo PG F.impl_FirstTopWalk_1 [.I q, .ptr b1 0, .ptr b2 0] M (.B (decide (D.getD q.toNat 0 = D.getD p.toNat 0 - 1))) M := by
  refine calls_run K.impl_FirstTopWalk_1 rfl ?_
  simp (disch := omega) only [C.impl_FirstTopWalk_1, h1, h2, Ints.get, hD, ↓SXd, SXu, slBounds, ↓sop, ↓aop, ↓reduceIte, LV.cells, AOp.dst, LV.I, LV.B, LV.U, LV.S, LV.nil, Nat.reduceEqDiff, Nat.reduceAdd, Nat.reduceMul, Nat.reduceSub, Nat.reduceLeDiff, Nat.reduceBEq, Nat.reduceDiv, Nat.reduceMod, Int.reduceToNat, Int.reduceLT, Int.reduceLE, Int.reduceAdd, Int.reduceSub, Int.reduceMul, Int.reduceEq, Int.reduceNeg, reduceCtorEq, resV, resAll, ARes.ev, LV.flat, ite_true, ite_false, exists_eq_left', exists_eq_left, keyOf, implies_true, fillC, capOf]
  exact cmp_drop0 rfl

theorem g_FirstTopWalk {x y z p q s : Int} {t o : Nat} {cs : List Cell} {M : Mem} (h : Tri M t o cs) (hn : cs.length ≤ 1000000000) :
    CallsR PG F.impl_FirstTopWalk [.agg [.I x, .I y, .I z, .ref t o cs.length], .I p, .I q, .I s] M (IntsRes M (walkOf x y z cs p q s)) := by
  refine callsR_run K.impl_FirstTopWalk rfl ?_
  simp (disch := omega) only [C.impl_FirstTopWalk, splice, ↓SXd, SXu, slBounds, ↓sop, ↓aop, ↓reduceIte, LV.cells, AOp.dst, LV.I, LV.B, LV.U, LV.S, LV.nil, Nat.reduceEqDiff, Nat.reduceAdd, Nat.reduceMul, Nat.reduceSub, Nat.reduceLeDiff, Nat.reduceBEq, Nat.reduceDiv, Nat.reduceMod, Int.reduceToNat, Int.reduceLT, Int.reduceLE, Int.reduceAdd, Int.reduceSub, Int.reduceMul, Int.reduceEq, Int.reduceNeg, reduceCtorEq, resV, resAll, ARes.ev, LV.flat, ite_true, ite_false, exists_eq_left', exists_eq_left, keyOf, implies_true, fillC, capOf]
  refine callK_of (g_isTop2 h.app hn (Live.newj (j := 2) rfl)) ?_
  simp (disch := omega) only [↓SXd, SXu, slBounds, ↓sop, ↓aop, ↓reduceIte, LV.cells, AOp.dst, LV.I, LV.B, LV.U, LV.S, LV.nil, Nat.reduceEqDiff, Nat.reduceAdd, Nat.reduceMul, Nat.reduceSub, Nat.reduceLeDiff, Nat.reduceBEq, Nat.reduceDiv, Nat.reduceMod, Int.reduceToNat, Int.reduceLT, Int.reduceLE, Int.reduceAdd, Int.reduceSub, Int.reduceMul, Int.reduceEq, Int.reduceNeg, reduceCtorEq, resV, resAll, ARes.ev, LV.flat, ite_true, ite_false, exists_eq_left', exists_eq_left, keyOf, implies_true, fillC, capOf]
  unfold walkOf
  by_cases hV : (HeapOK x y z cs ∧ (0 ≤ p ∧ p ≤ x * y - 1)) ∧ (0 ≤ q ∧ q ≤ x * y - 1) ∧ 0 ≤ s
  · obtain ⟨⟨hH, hp⟩, hq, hs⟩ := id hV
    have hb := mul_bound hH.1.1 hH.1.2.1
    have hsl := spreadOf_len (cs := cs) (s := s) hq
    have htl := topsOf_len x y cs
    have hval := fun k (hk : k < (x * y).toNat) => spreadOf_val (cs := cs) (s := s) hq hk
    have hvp := hval p.toNat (by omega)
    simp (disch := omega) only [hV, ↓SXd, SXu, slBounds, ↓sop, ↓aop, ↓reduceIte, LV.cells, AOp.dst, LV.I, LV.B, LV.U, LV.S, LV.nil, Nat.reduceEqDiff, Nat.reduceAdd, Nat.reduceMul, Nat.reduceSub, Nat.reduceLeDiff, Nat.reduceBEq, Nat.reduceDiv, Nat.reduceMod, Int.reduceToNat, Int.reduceLT, Int.reduceLE, Int.reduceAdd, Int.reduceSub, Int.reduceMul, Int.reduceEq, Int.reduceNeg, reduceCtorEq, resV, resAll, ARes.ev, LV.flat, ite_true, ite_false, exists_eq_left', exists_eq_left, keyOf, implies_true, fillC, capOf]
    refine callK_of (g_top h.app hn hH) ?_
    simp (disch := omega) only [↓SXd, SXu, slBounds, ↓sop, ↓aop, ↓reduceIte, LV.cells, AOp.dst, LV.I, LV.B, LV.U, LV.S, LV.nil, Nat.reduceEqDiff, Nat.reduceAdd, Nat.reduceMul, Nat.reduceSub, Nat.reduceLeDiff, Nat.reduceBEq, Nat.reduceDiv, Nat.reduceMod, Int.reduceToNat, Int.reduceLT, Int.reduceLE, Int.reduceAdd, Int.reduceSub, Int.reduceMul, Int.reduceEq, Int.reduceNeg, reduceCtorEq, resV, resAll, ARes.ev, LV.flat, ite_true, ite_false, exists_eq_left', exists_eq_left, keyOf, implies_true, fillC, capOf]
    refine callK_of (g_distances hH.1.1 hH.1.2.1 hq (Live.newj (j := 3) rfl).has htl (topsOf_low hH)) ?_
    simp (disch := omega) only [↓SXd, SXu, slBounds, ↓sop, ↓aop, ↓reduceIte, LV.cells, AOp.dst, LV.I, LV.B, LV.U, LV.S, LV.nil, Nat.reduceEqDiff, Nat.reduceAdd, Nat.reduceMul, Nat.reduceSub, Nat.reduceLeDiff, Nat.reduceBEq, Nat.reduceDiv, Nat.reduceMod, Int.reduceToNat, Int.reduceLT, Int.reduceLE, Int.reduceAdd, Int.reduceSub, Int.reduceMul, Int.reduceEq, Int.reduceNeg, reduceCtorEq, resV, resAll, ARes.ev, LV.flat, ite_true, ite_false, exists_eq_left', exists_eq_left, keyOf, implies_true, fillC, capOf]
    rw [show farFrom (x * y).toNat (fun r => stepsOf x y (topsOf x y cs) r s) q = spreadOf x y cs q s from rfl]
    simp (disch := omega) only [intL_get, ↓SXd, SXu, slBounds, ↓sop, ↓aop, ↓reduceIte, LV.cells, AOp.dst, LV.I, LV.B, LV.U, LV.S, LV.nil, Nat.reduceEqDiff, Nat.reduceAdd, Nat.reduceMul, Nat.reduceSub, Nat.reduceLeDiff, Nat.reduceBEq, Nat.reduceDiv, Nat.reduceMod, Int.reduceToNat, Int.reduceLT, Int.reduceLE, Int.reduceAdd, Int.reduceSub, Int.reduceMul, Int.reduceEq, Int.reduceNeg, reduceCtorEq, resV, resAll, ARes.ev, LV.flat, ite_true, ite_false, exists_eq_left', exists_eq_left, keyOf, implies_true, fillC, capOf]
    refine condC_dec (fun hneg => ?_) (fun hneg => ?_)
    · rw [if_neg (fun e => by omega)]
      simp (disch := omega) only [↓SXd, SXu, slBounds, ↓sop, ↓aop, ↓reduceIte, LV.cells, AOp.dst, LV.I, LV.B, LV.U, LV.S, LV.nil, Nat.reduceEqDiff, Nat.reduceAdd, Nat.reduceMul, Nat.reduceSub, Nat.reduceLeDiff, Nat.reduceBEq, Nat.reduceDiv, Nat.reduceMod, Int.reduceToNat, Int.reduceLT, Int.reduceLE, Int.reduceAdd, Int.reduceSub, Int.reduceMul, Int.reduceEq, Int.reduceNeg, reduceCtorEq, resV, resAll, ARes.ev, LV.flat, ite_true, ite_false, exists_eq_left', exists_eq_left, keyOf, implies_true, fillC, capOf]
      exact ⟨_, rfl, SlI.nil, Newer.nil, Pre.app _ _⟩
    · rw [if_pos (show 0 ≤ (spreadOf x y cs q s).getD p.toNat 0 by omega)]
      simp (disch := omega) only [↓SXd, SXu, slBounds, ↓sop, ↓aop, ↓reduceIte, LV.cells, AOp.dst, LV.I, LV.B, LV.U, LV.S, LV.nil, Nat.reduceEqDiff, Nat.reduceAdd, Nat.reduceMul, Nat.reduceSub, Nat.reduceLeDiff, Nat.reduceBEq, Nat.reduceDiv, Nat.reduceMod, Int.reduceToNat, Int.reduceLT, Int.reduceLE, Int.reduceAdd, Int.reduceSub, Int.reduceMul, Int.reduceEq, Int.reduceNeg, reduceCtorEq, resV, resAll, ARes.ev, LV.flat, ite_true, ite_false, exists_eq_left', exists_eq_left, keyOf, implies_true, fillC, capOf]
      generalize hD : spreadOf x y cs q s = D at hsl hval hvp hneg ⊢
      generalize hT : topsOf x y cs = ts at htl ⊢
      have hlow : Low ts := by rw [← hT]; exact topsOf_low hH
      obtain ⟨n, hn0⟩ : ∃ n : Nat, D.getD p.toNat 0 = n := ⟨(D.getD p.toNat 0).toNat, by omega⟩
      refine ev_loop (fun m fr M' => ∃ (now : Int) (u : Nat) (acc : List Int), (0 ≤ now ∧ now ≤ x * y - 1) ∧ D.getD now.toNat 0 = m ∧ acc.length + m = n + 1 ∧ acc ++ (walkW D (fun r => stepsOf x y ts r s) m now).tail = walkW D (fun r => stepsOf x y ts r s) n p ∧
        Pre M M' ∧ Live M' (M.length + 1) (.row [.I now] true 0) ∧ Live M' (M.length + 3) (.row (intL ts) true 1) ∧ Live M' (M.length + 4) (.row [.ref (M.length + 3) 0 (x * y).toNat, .I y] true 0) ∧ Live M' (M.length + 5) (.row (intL D) true 1) ∧ Live M' (M.length + 6) (.row [.ref (M.length + 5) 0 (x * y).toNat] true 0) ∧
        M.length + 7 ≤ u ∧ Live M' u (.row (intL acc) true 1) ∧
        fr 2 = .I q ∧ fr 3 = .I s ∧ fr 5 = .ptr (M.length + 1) 0 ∧ fr 10 = .ptr (M.length + 4) 0 ∧ fr 11 = .ptr (M.length + 6) 0 ∧ fr 12 = .ref u 0 acc.length) n
        ⟨p, M.length + 7, [p], hp, hn0, by simp; omega, by rw [walkW_head D _ n p]; rfl, Pre.app _ _, Live.newj rfl, Live.newj rfl, Live.newj rfl, Live.newj rfl, Live.newj rfl, by omega, Live.newj rfl, rfl, rfl, rfl, rfl, rfl, rfl⟩ ?_
      rintro m fr M' ⟨now, u, acc, hnow, hm, hal, hw, hpre, b1, b3, b4, b5, b6, hu, hout, f2, f3, f5, f10, f11, f12⟩
      have hz := spread_zero (s := s) (cs := cs) hq hnow
      rw [hD, hm] at hz
      simp (disch := omega) only [f2, f3, f5, f10, f11, f12, b1.cell, ↓SXd, SXu, slBounds, ↓sop, ↓aop, ↓reduceIte, LV.cells, AOp.dst, LV.I, LV.B, LV.U, LV.S, LV.nil, Nat.reduceEqDiff, Nat.reduceAdd, Nat.reduceMul, Nat.reduceSub, Nat.reduceLeDiff, Nat.reduceBEq, Nat.reduceDiv, Nat.reduceMod, Int.reduceToNat, Int.reduceLT, Int.reduceLE, Int.reduceAdd, Int.reduceSub, Int.reduceMul, Int.reduceEq, Int.reduceNeg, reduceCtorEq, resV, resAll, ARes.ev, LV.flat, ite_true, ite_false, exists_eq_left', exists_eq_left, keyOf, implies_true, fillC, capOf]
      refine condC_dec (fun he => ?_) (fun he => ?_)
      · simp (disch := omega) only [f2, f3, f5, f10, f11, f12, ↓SXd, SXu, slBounds, ↓sop, ↓aop, ↓reduceIte, LV.cells, AOp.dst, LV.I, LV.B, LV.U, LV.S, LV.nil, Nat.reduceEqDiff, Nat.reduceAdd, Nat.reduceMul, Nat.reduceSub, Nat.reduceLeDiff, Nat.reduceBEq, Nat.reduceDiv, Nat.reduceMod, Int.reduceToNat, Int.reduceLT, Int.reduceLE, Int.reduceAdd, Int.reduceSub, Int.reduceMul, Int.reduceEq, Int.reduceNeg, reduceCtorEq, resV, resAll, ARes.ev, LV.flat, ite_true, ite_false, exists_eq_left', exists_eq_left, keyOf, implies_true, fillC, capOf]
        have hm0 := hz.2 he
        have : m = 0 := by omega
        subst this
        simp only [walkW, List.tail_cons, List.append_nil] at hw
        have hnn : (((D.getD p.toNat 0).toNat)) = n := by omega
        refine ⟨_, rfl, ?_, Newer.of (by omega), hpre⟩
        simp only [Option.getD_some, hnn, ← hw]
        exact SlI.of hout
      · obtain ⟨f, rfl⟩ : ∃ f, m = f + 1 := ⟨m - 1, by
          have : m ≠ 0 := fun e => he (hz.1 (by omega))
          omega⟩
        obtain ⟨k, hk, hix, hbef, hat, hnx, hin⟩ := spread_next hq hnow (by rw [hD]; exact hm)
        rw [hD, hT] at hbef hat hnx hix
        rw [hT] at hk hin
        simp (disch := omega) only [f2, f3, f5, f10, f11, f12, b1.cell, b4.cells, ↓SXd, SXu, slBounds, ↓sop, ↓aop, ↓reduceIte, LV.cells, AOp.dst, LV.I, LV.B, LV.U, LV.S, LV.nil, Nat.reduceEqDiff, Nat.reduceAdd, Nat.reduceMul, Nat.reduceSub, Nat.reduceLeDiff, Nat.reduceBEq, Nat.reduceDiv, Nat.reduceMod, Int.reduceToNat, Int.reduceLT, Int.reduceLE, Int.reduceAdd, Int.reduceSub, Int.reduceMul, Int.reduceEq, Int.reduceNeg, reduceCtorEq, resV, resAll, ARes.ev, LV.flat, ite_true, ite_false, exists_eq_left', exists_eq_left, keyOf, implies_true, fillC, capOf]
        refine callN_of (g_steps hH.1.1 hH.1.2.1 hnow b3.has htl hlow) ?_
        intro tn N0 htn hp0 hnx0
        simp (disch := omega) only [f2, f3, f5, f10, f11, f12, ↓SXd, SXu, slBounds, ↓sop, ↓aop, ↓reduceIte, LV.cells, AOp.dst, LV.I, LV.B, LV.U, LV.S, LV.nil, Nat.reduceEqDiff, Nat.reduceAdd, Nat.reduceMul, Nat.reduceSub, Nat.reduceLeDiff, Nat.reduceBEq, Nat.reduceDiv, Nat.reduceMod, Int.reduceToNat, Int.reduceLT, Int.reduceLE, Int.reduceAdd, Int.reduceSub, Int.reduceMul, Int.reduceEq, Int.reduceNeg, reduceCtorEq, resV, resAll, ARes.ev, LV.flat, ite_true, ite_false, exists_eq_left', exists_eq_left, keyOf, implies_true, fillC, capOf]
        have hnl := stepsOf_len (p := now) (s := s) (ts := ts) hb.2
        have hmem : ∀ j, j < (stepsOf x y ts now s).length → 0 ≤ (stepsOf x y ts now s).getD j 0 ∧ (stepsOf x y ts now s).getD j 0 < x * y := fun j hj => stepsOf_mem (getD_mem hj)
        have c1 := b1.pre hp0
        have c5 := b5.pre hp0
        have c6 := b6.pre hp0
        have hnxI : Ints N0 tn 0 (stepsOf x y ts now s) := by
          have := hnx0.has
          unfold stepRow at hnx0
          rw [intL_append] at hnx0
          exact hnx0.hasL
        have hIF := g_IndexFunc (f := F.impl_FirstTopWalk_1) (caps := [(M.length + 6, 0), (M.length + 1, 0)]) (pr := fun r => decide (D.getD r.toNat 0 = (f : Int))) hnxI (by omega) (fun j hj => by
          have hmj := hmem j hj
          have := g_FirstTopWalk_1 (q := (stepsOf x y ts now s).getD j 0) (b1 := M.length + 6) (b2 := M.length + 1) (t := M.length + 5) (o := 0) (D := D) (p := now) (M := N0) (by rw [c6.cell, hsl]; rfl) (by rw [c1.cell]; rfl) c5.has (by omega) (by omega) (by omega)
          rw [show decide (D.getD ((stepsOf x y ts now s).getD j 0).toNat 0 = D.getD now.toNat 0 - 1) = decide (D.getD ((stepsOf x y ts now s).getD j 0).toNat 0 = (f : Int)) from decide_eq_decide.2 (by rw [hm]; omega)] at this
          exact this)
        rw [hix] at hIF
        refine callK_of hIF ?_
        have hgc := Ints.get hnxI hk
        rw [Nat.zero_add] at hgc
        simp (disch := omega) only [f2, f3, f5, f10, f11, f12, hgc, ↓SXd, SXu, slBounds, ↓sop, ↓aop, ↓reduceIte, LV.cells, AOp.dst, LV.I, LV.B, LV.U, LV.S, LV.nil, Nat.reduceEqDiff, Nat.reduceAdd, Nat.reduceMul, Nat.reduceSub, Nat.reduceLeDiff, Nat.reduceBEq, Nat.reduceDiv, Nat.reduceMod, Int.reduceToNat, Int.reduceLT, Int.reduceLE, Int.reduceAdd, Int.reduceSub, Int.reduceMul, Int.reduceEq, Int.reduceNeg, reduceCtorEq, resV, resAll, ARes.ev, LV.flat, ite_true, ite_false, exists_eq_left', exists_eq_left, keyOf, implies_true, fillC, capOf]
        rw [c1.setC, if_pos (by simp)]
        have hl3 := b6.lt
        have hlN := hp0.1
        have d1 : Live (N0.set (M.length + 1) (some (.row [.I ((stepsOf x y ts now s).getD k 0)] true 0))) (M.length + 1) _ := c1.set_eq
        have hou : Live (N0.set (M.length + 1) (some (.row [.I ((stepsOf x y ts now s).getD k 0)] true 0))) u (.row (intL acc) true 1) := (hout.pre hp0).set_ne (by omega)
        have hpN : Pre M (N0.set (M.length + 1) (some (.row [.I ((stepsOf x y ts now s).getD k 0)] true 0))) := (hpre.trans hp0).set (by omega)
        have d3 := (b3.pre hp0).set_ne (t := M.length + 1) (x := some (.row [.I ((stepsOf x y ts now s).getD k 0)] true 0)) (by omega)
        have d4 := (b4.pre hp0).set_ne (t := M.length + 1) (x := some (.row [.I ((stepsOf x y ts now s).getD k 0)] true 0)) (by omega)
        have d5 := c5.set_ne (t := M.length + 1) (x := some (.row [.I ((stepsOf x y ts now s).getD k 0)] true 0)) (by omega)
        have d6 := c6.set_ne (t := M.length + 1) (x := some (.row [.I ((stepsOf x y ts now s).getD k 0)] true 0)) (by omega)
        rw [show splice [LV.I now] 0 [LV.val (.int .i64 ((stepsOf x y ts now s).getD k 0))] = [.I ((stepsOf x y ts now s).getD k 0)] from rfl]
        have hNl : (N0.set (M.length + 1) (some (.row [.I ((stepsOf x y ts now s).getD k 0)] true 0))).length = N0.length := by simp
        generalize hNN : N0.set (M.length + 1) (some (.row [.I ((stepsOf x y ts now s).getD k 0)] true 0)) = NN at d1 hou hpN d3 d4 d5 d6 hNl ⊢
        simp (disch := omega) only [memK, f2, f3, f5, f10, f11, f12, d1.cell, ↓SXd, SXu, slBounds, ↓sop, ↓aop, ↓reduceIte, LV.cells, AOp.dst, LV.I, LV.B, LV.U, LV.S, LV.nil, Nat.reduceEqDiff, Nat.reduceAdd, Nat.reduceMul, Nat.reduceSub, Nat.reduceLeDiff, Nat.reduceBEq, Nat.reduceDiv, Nat.reduceMod, Int.reduceToNat, Int.reduceLT, Int.reduceLE, Int.reduceAdd, Int.reduceSub, Int.reduceMul, Int.reduceEq, Int.reduceNeg, reduceCtorEq, resV, resAll, ARes.ev, LV.flat, ite_true, ite_false, exists_eq_left', exists_eq_left, keyOf, implies_true, fillC, capOf]
        refine appendK_int hou (by omega) fun N' l1 l2 l3 => ?_
        simp (disch := omega) only [f2, f3, f5, f10, f11, f12, ↓SXd, SXu, slBounds, ↓sop, ↓aop, ↓reduceIte, LV.cells, AOp.dst, LV.I, LV.B, LV.U, LV.S, LV.nil, Nat.reduceEqDiff, Nat.reduceAdd, Nat.reduceMul, Nat.reduceSub, Nat.reduceLeDiff, Nat.reduceBEq, Nat.reduceDiv, Nat.reduceMod, Int.reduceToNat, Int.reduceLT, Int.reduceLE, Int.reduceAdd, Int.reduceSub, Int.reduceMul, Int.reduceEq, Int.reduceNeg, reduceCtorEq, resV, resAll, ARes.ev, LV.flat, ite_true, ite_false, exists_eq_left', exists_eq_left, keyOf, implies_true, fillC, capOf]
        refine ⟨f, by omega, (stepsOf x y ts now s).getD k 0, _, acc ++ [(stepsOf x y ts now s).getD k 0], hin, hat, by simp; omega, ?_, pre_step hpN (by omega) l1 l3, live_step d1 (by omega) l3, live_step d3 (by omega) l3, live_step d4 (by omega) l3, live_step d5 (by omega) l3, live_step d6 (by omega) l3, by omega, l2, f2, f3, f5, f10, f11, rfl⟩
        rw [← hw]
        simp only [walkW, List.tail_cons, hnx]
        rw [walkW_head D _ f ((stepsOf x y ts now s).getD k 0), List.append_assoc]; rfl
  · rw [if_neg (fun e => hV e.1)]
    simp (disch := omega) only [hV, ↓SXd, SXu, slBounds, ↓sop, ↓aop, ↓reduceIte, LV.cells, AOp.dst, LV.I, LV.B, LV.U, LV.S, LV.nil, Nat.reduceEqDiff, Nat.reduceAdd, Nat.reduceMul, Nat.reduceSub, Nat.reduceLeDiff, Nat.reduceBEq, Nat.reduceDiv, Nat.reduceMod, Int.reduceToNat, Int.reduceLT, Int.reduceLE, Int.reduceAdd, Int.reduceSub, Int.reduceMul, Int.reduceEq, Int.reduceNeg, reduceCtorEq, resV, resAll, ARes.ev, LV.flat, ite_true, ite_false, exists_eq_left', exists_eq_left, keyOf, implies_true, fillC, capOf]
    exact ⟨_, rfl, SlI.nil, Newer.nil, Pre.app _ _⟩
end Go.Ab

/- The law of FirstTopWalk. -/
namespace Go.Ab
open Go
set_option linter.unusedSimpArgs false
set_option linter.unusedVariables false
set_option maxRecDepth 20000

theorem l_FirstTopWalk {x y z p q s : Int} {t o : Nat} {cs : List Cell} {M : Mem} (h : Tri M t o cs) (hn0 : cs.length ≤ 9223372036854775807) :
    CallsR PG F.laws_FnExactFirstTopWalk [.agg [.I x, .I y, .I z, .ref t o cs.length], .I p, .I q, .I s] M fun v _ => v = .B true := by
  have ht := h.lt
  refine callsR_run K.laws_FnExactFirstTopWalk rfl ?_
  simp (disch := omega) only [C.laws_FnExactFirstTopWalk, ↓SXd, SXu, slBounds, ↓sop, ↓aop, ↓reduceIte, LV.cells, AOp.dst, LV.I, LV.B, LV.U, LV.S, LV.nil, Nat.reduceEqDiff, Nat.reduceAdd, Nat.reduceMul, Nat.reduceSub, Nat.reduceLeDiff, Nat.reduceBEq, Nat.reduceDiv, Nat.reduceMod, Int.reduceToNat, Int.reduceLT, Int.reduceLE, Int.reduceAdd, Int.reduceSub, Int.reduceMul, Int.reduceEq, Int.reduceNeg, reduceCtorEq, resV, resAll, ARes.ev, LV.flat, ite_true, ite_false, exists_eq_left', exists_eq_left, keyOf, implies_true, fillC, capOf]
  refine callK_of (h_szHeap (by omega) (by omega) (by omega)) ?_
  simp (disch := omega) only [↓SXd, SXu, slBounds, ↓sop, ↓aop, ↓reduceIte, LV.cells, AOp.dst, LV.I, LV.B, LV.U, LV.S, LV.nil, Nat.reduceEqDiff, Nat.reduceAdd, Nat.reduceMul, Nat.reduceSub, Nat.reduceLeDiff, Nat.reduceBEq, Nat.reduceDiv, Nat.reduceMod, Int.reduceToNat, Int.reduceLT, Int.reduceLE, Int.reduceAdd, Int.reduceSub, Int.reduceMul, Int.reduceEq, Int.reduceNeg, reduceCtorEq, resV, resAll, ARes.ev, LV.flat, ite_true, ite_false, exists_eq_left', exists_eq_left, keyOf, implies_true, fillC, capOf]
  by_cases hl : (1048576 : Int) < (cs.length : Nat)
  · rw [if_pos hl]
    simp (disch := omega) only [Int.reduceLT, ↓SXd, SXu, slBounds, ↓sop, ↓aop, ↓reduceIte, LV.cells, AOp.dst, LV.I, LV.B, LV.U, LV.S, LV.nil, Nat.reduceEqDiff, Nat.reduceAdd, Nat.reduceMul, Nat.reduceSub, Nat.reduceLeDiff, Nat.reduceBEq, Nat.reduceDiv, Nat.reduceMod, Int.reduceToNat, Int.reduceLT, Int.reduceLE, Int.reduceAdd, Int.reduceSub, Int.reduceMul, Int.reduceEq, Int.reduceNeg, reduceCtorEq, resV, resAll, ARes.ev, LV.flat, ite_true, ite_false, exists_eq_left', exists_eq_left, keyOf, implies_true, fillC, capOf]
    rfl
  · rw [if_neg hl]
    have hn : cs.length ≤ 1000000000 := by omega
    have hrl := walkOf_len (x := x) (y := y) (z := z) (cs := cs) (p := p) (q := q) (s := s)
    simp (disch := omega) only [↓SXd, SXu, slBounds, ↓sop, ↓aop, ↓reduceIte, LV.cells, AOp.dst, LV.I, LV.B, LV.U, LV.S, LV.nil, Nat.reduceEqDiff, Nat.reduceAdd, Nat.reduceMul, Nat.reduceSub, Nat.reduceLeDiff, Nat.reduceBEq, Nat.reduceDiv, Nat.reduceMod, Int.reduceToNat, Int.reduceLT, Int.reduceLE, Int.reduceAdd, Int.reduceSub, Int.reduceMul, Int.reduceEq, Int.reduceNeg, reduceCtorEq, resV, resAll, ARes.ev, LV.flat, ite_true, ite_false, exists_eq_left', exists_eq_left, keyOf, implies_true, fillC, capOf]
    refine callK_of (h_toHeap h.app hn) ?_
    simp (disch := omega) only [↓SXd, SXu, slBounds, ↓sop, ↓aop, ↓reduceIte, LV.cells, AOp.dst, LV.I, LV.B, LV.U, LV.S, LV.nil, Nat.reduceEqDiff, Nat.reduceAdd, Nat.reduceMul, Nat.reduceSub, Nat.reduceLeDiff, Nat.reduceBEq, Nat.reduceDiv, Nat.reduceMod, Int.reduceToNat, Int.reduceLT, Int.reduceLE, Int.reduceAdd, Int.reduceSub, Int.reduceMul, Int.reduceEq, Int.reduceNeg, reduceCtorEq, resV, resAll, ARes.ev, LV.flat, ite_true, ite_false, exists_eq_left', exists_eq_left, keyOf, implies_true, fillC, capOf]
    refine callR_of (h_sFirstTopWalk (Live.newj (j := 1) (b := .row (triL cs) true 3) rfl).has hn) ?_
    rintro _ N1 ⟨w, rfl, hw, hwn, hp1⟩
    have b1 : Live N1 M.length (.row [.I x, .I y, .I z, .ref t o cs.length] true 0) := Live.new.pre hp1
    have hl1 := b1.lt
    have hM1 : Pre M N1 := (Pre.app _ _).trans hp1
    simp (disch := omega) only [b1.cells, ↓SXd, SXu, slBounds, ↓sop, ↓aop, ↓reduceIte, LV.cells, AOp.dst, LV.I, LV.B, LV.U, LV.S, LV.nil, Nat.reduceEqDiff, Nat.reduceAdd, Nat.reduceMul, Nat.reduceSub, Nat.reduceLeDiff, Nat.reduceBEq, Nat.reduceDiv, Nat.reduceMod, Int.reduceToNat, Int.reduceLT, Int.reduceLE, Int.reduceAdd, Int.reduceSub, Int.reduceMul, Int.reduceEq, Int.reduceNeg, reduceCtorEq, resV, resAll, ARes.ev, LV.flat, ite_true, ite_false, exists_eq_left', exists_eq_left, keyOf, implies_true, fillC, capOf]
    refine callK_of (h_toHeap (h.pre hM1) hn) ?_
    simp (disch := omega) only [b1.cells, ↓SXd, SXu, slBounds, ↓sop, ↓aop, ↓reduceIte, LV.cells, AOp.dst, LV.I, LV.B, LV.U, LV.S, LV.nil, Nat.reduceEqDiff, Nat.reduceAdd, Nat.reduceMul, Nat.reduceSub, Nat.reduceLeDiff, Nat.reduceBEq, Nat.reduceDiv, Nat.reduceMod, Int.reduceToNat, Int.reduceLT, Int.reduceLE, Int.reduceAdd, Int.reduceSub, Int.reduceMul, Int.reduceEq, Int.reduceNeg, reduceCtorEq, resV, resAll, ARes.ev, LV.flat, ite_true, ite_false, exists_eq_left', exists_eq_left, keyOf, implies_true, fillC, capOf]
    refine callR_of (g_FirstTopWalk (Live.newj (j := 0) (b := .row (triL cs) true 3) rfl).has hn) ?_
    rintro _ N2 ⟨g, rfl, hg, hgn, hp2⟩
    have hp12 : Pre N1 N2 := (Pre.app _ _).trans hp2
    have b2 := b1.pre hp12
    have r2 : Live N2 N1.length (.row (triL cs) true 3) := (Live.newj (j := 0) rfl).pre hp2
    have x2 : Live N2 (N1.length + 1) (.row [.I x, .I y, .I z, .ref N1.length 0 cs.length] true 0) := (Live.newj (j := 1) rfl).pre hp2
    have hw2 := hw.pre hp12
    simp (disch := omega) only [↓SXd, SXu, slBounds, ↓sop, ↓aop, ↓reduceIte, LV.cells, AOp.dst, LV.I, LV.B, LV.U, LV.S, LV.nil, Nat.reduceEqDiff, Nat.reduceAdd, Nat.reduceMul, Nat.reduceSub, Nat.reduceLeDiff, Nat.reduceBEq, Nat.reduceDiv, Nat.reduceMod, Int.reduceToNat, Int.reduceLT, Int.reduceLE, Int.reduceAdd, Int.reduceSub, Int.reduceMul, Int.reduceEq, Int.reduceNeg, reduceCtorEq, resV, resAll, ARes.ev, LV.flat, ite_true, ite_false, exists_eq_left', exists_eq_left, keyOf, implies_true, fillC, capOf]
    refine callK_of (h_eqIntS hg.v hw2.v hrl hrl) ?_
    rw [decide_eq_true (rfl : (walkOf x y z cs p q s).getD [] = (walkOf x y z cs p q s).getD [])]
    simp (disch := omega) only [b2.cells, x2.cells, ↓SXd, SXu, slBounds, ↓sop, ↓aop, ↓reduceIte, LV.cells, AOp.dst, LV.I, LV.B, LV.U, LV.S, LV.nil, Nat.reduceEqDiff, Nat.reduceAdd, Nat.reduceMul, Nat.reduceSub, Nat.reduceLeDiff, Nat.reduceBEq, Nat.reduceDiv, Nat.reduceMod, Int.reduceToNat, Int.reduceLT, Int.reduceLE, Int.reduceAdd, Int.reduceSub, Int.reduceMul, Int.reduceEq, Int.reduceNeg, reduceCtorEq, resV, resAll, ARes.ev, LV.flat, ite_true, ite_false, exists_eq_left', exists_eq_left, keyOf, implies_true, fillC, capOf]
    refine callK_of (h_toHeap (h.pre (hM1.trans hp12)) hn) ?_
    simp (disch := omega) only [b2.cells, x2.cells, ↓SXd, SXu, slBounds, ↓sop, ↓aop, ↓reduceIte, LV.cells, AOp.dst, LV.I, LV.B, LV.U, LV.S, LV.nil, Nat.reduceEqDiff, Nat.reduceAdd, Nat.reduceMul, Nat.reduceSub, Nat.reduceLeDiff, Nat.reduceBEq, Nat.reduceDiv, Nat.reduceMod, Int.reduceToNat, Int.reduceLT, Int.reduceLE, Int.reduceAdd, Int.reduceSub, Int.reduceMul, Int.reduceEq, Int.reduceNeg, reduceCtorEq, resV, resAll, ARes.ev, LV.flat, ite_true, ite_false, exists_eq_left', exists_eq_left, keyOf, implies_true, fillC, capOf]
    have he := h_eqHeap (x := x) (y := y) (z := z) (x' := x) (y' := y) (z' := z) (M := N2 ++ [some (.row (triL cs) true 3)]) (Live.app r2).has (Live.newj (M := N2) (L := [some (.row (triL cs) true 3)]) (j := 0) rfl).has hn hn
    rw [decide_eq_true (by simp)] at he
    refine callK_of he ?_
    simp (disch := omega) only [x2.app.cells, ↓SXd, SXu, slBounds, ↓sop, ↓aop, ↓reduceIte, LV.cells, AOp.dst, LV.I, LV.B, LV.U, LV.S, LV.nil, Nat.reduceEqDiff, Nat.reduceAdd, Nat.reduceMul, Nat.reduceSub, Nat.reduceLeDiff, Nat.reduceBEq, Nat.reduceDiv, Nat.reduceMod, Int.reduceToNat, Int.reduceLT, Int.reduceLE, Int.reduceAdd, Int.reduceSub, Int.reduceMul, Int.reduceEq, Int.reduceNeg, reduceCtorEq, resV, resAll, ARes.ev, LV.flat, ite_true, ite_false, exists_eq_left', exists_eq_left, keyOf, implies_true, fillC, capOf]
    refine callR_of (h_markHeap (SlC.of r2.app) hn (by omega)) ?_
    rintro _ N4 ⟨rfl, _, hN4a, hN4b⟩
    have hp4 : PreV (.ref N1.length 0 cs.length) (N2 ++ [some (.row (triL cs) true 3)]) N4 := ⟨hN4a, hN4b⟩
    have hgo : Apart (.ref N1.length 0 cs.length) g := Apart.symm (Newer.apart (M := N1 ++ [some (.row (triL cs) true 3)]) (hgn.mono ((Pre.app _ _).trans (by rw [List.append_assoc]; exact Pre.refl _))) fun _ _ _ e => by cases e; simp)
    have hwo : Apart (.ref N1.length 0 cs.length) w := Newer.apart (M := N1) (Newer.of (Nat.le_refl _)) hw.older
    have hg4 := hp4.slI (hg.pre (Pre.app _ _)) hgo
    have hw4 := hp4.slI (hw2.pre (Pre.app _ _)) hwo
    have b4 := hp4.live b2.app (by show M.length ≠ N1.length; omega)
    have hM4 : Pre M N4 := hp4.pre ((hM1.trans hp12).trans (Pre.app _ _)) (Newer.of (M := M) (t := N1.length) (by omega))
    have hk : ¬ (1 + 3 * (cs.length : Int) < 0) := by omega
    simp (disch := omega) only [hk, ↓SXd, SXu, slBounds, ↓sop, ↓aop, ↓reduceIte, LV.cells, AOp.dst, LV.I, LV.B, LV.U, LV.S, LV.nil, Nat.reduceEqDiff, Nat.reduceAdd, Nat.reduceMul, Nat.reduceSub, Nat.reduceLeDiff, Nat.reduceBEq, Nat.reduceDiv, Nat.reduceMod, Int.reduceToNat, Int.reduceLT, Int.reduceLE, Int.reduceAdd, Int.reduceSub, Int.reduceMul, Int.reduceEq, Int.reduceNeg, reduceCtorEq, resV, resAll, ARes.ev, LV.flat, ite_true, ite_false, exists_eq_left', exists_eq_left, keyOf, implies_true, fillC, capOf]
    refine callK_of (h_eqIntS hg4.v hw4.v hrl hrl) ?_
    rw [decide_eq_true (rfl : (walkOf x y z cs p q s).getD [] = (walkOf x y z cs p q s).getD [])]
    simp (disch := omega) only [↓SXd, SXu, slBounds, ↓sop, ↓aop, ↓reduceIte, LV.cells, AOp.dst, LV.I, LV.B, LV.U, LV.S, LV.nil, Nat.reduceEqDiff, Nat.reduceAdd, Nat.reduceMul, Nat.reduceSub, Nat.reduceLeDiff, Nat.reduceBEq, Nat.reduceDiv, Nat.reduceMod, Int.reduceToNat, Int.reduceLT, Int.reduceLE, Int.reduceAdd, Int.reduceSub, Int.reduceMul, Int.reduceEq, Int.reduceNeg, reduceCtorEq, resV, resAll, ARes.ev, LV.flat, ite_true, ite_false, exists_eq_left', exists_eq_left, keyOf, implies_true, fillC, capOf]
    refine callR_of (h_markIntS hg4 hrl (by omega)) ?_
    rintro _ N5 hmk
    obtain ⟨rfl, hg5, _, _⟩ := id hmk
    have hp5 := hmk.pre
    have hgw : Apart g w := Newer.apart (hgn.mono (Pre.app _ _)) hw.older
    have hw5 := hp5.slI hw4 hgw
    have hgM : Newer M g := hgn.mono (hM1.trans (Pre.app _ _))
    have hM5 := hp5.pre hM4 hgM
    have b5 := hp5.live b4 (hgn.mono (Pre.app _ _) _ hl1)
    simp (disch := omega) only [↓SXd, SXu, slBounds, ↓sop, ↓aop, ↓reduceIte, LV.cells, AOp.dst, LV.I, LV.B, LV.U, LV.S, LV.nil, Nat.reduceEqDiff, Nat.reduceAdd, Nat.reduceMul, Nat.reduceSub, Nat.reduceLeDiff, Nat.reduceBEq, Nat.reduceDiv, Nat.reduceMod, Int.reduceToNat, Int.reduceLT, Int.reduceLE, Int.reduceAdd, Int.reduceSub, Int.reduceMul, Int.reduceEq, Int.reduceNeg, reduceCtorEq, resV, resAll, ARes.ev, LV.flat, ite_true, ite_false, exists_eq_left', exists_eq_left, keyOf, implies_true, fillC, capOf]
    refine callK_of (h_heldIntS hg5.v hrl (by omega)) ?_
    simp (disch := omega) only [b5.cells, ↓SXd, SXu, slBounds, ↓sop, ↓aop, ↓reduceIte, LV.cells, AOp.dst, LV.I, LV.B, LV.U, LV.S, LV.nil, Nat.reduceEqDiff, Nat.reduceAdd, Nat.reduceMul, Nat.reduceSub, Nat.reduceLeDiff, Nat.reduceBEq, Nat.reduceDiv, Nat.reduceMod, Int.reduceToNat, Int.reduceLT, Int.reduceLE, Int.reduceAdd, Int.reduceSub, Int.reduceMul, Int.reduceEq, Int.reduceNeg, reduceCtorEq, resV, resAll, ARes.ev, LV.flat, ite_true, ite_false, exists_eq_left', exists_eq_left, keyOf, implies_true, fillC, capOf]
    refine callK_of (h_toHeap (h.pre hM5) hn) ?_
    simp (disch := omega) only [↓SXd, SXu, slBounds, ↓sop, ↓aop, ↓reduceIte, LV.cells, AOp.dst, LV.I, LV.B, LV.U, LV.S, LV.nil, Nat.reduceEqDiff, Nat.reduceAdd, Nat.reduceMul, Nat.reduceSub, Nat.reduceLeDiff, Nat.reduceBEq, Nat.reduceDiv, Nat.reduceMod, Int.reduceToNat, Int.reduceLT, Int.reduceLE, Int.reduceAdd, Int.reduceSub, Int.reduceMul, Int.reduceEq, Int.reduceNeg, reduceCtorEq, resV, resAll, ARes.ev, LV.flat, ite_true, ite_false, exists_eq_left', exists_eq_left, keyOf, implies_true, fillC, capOf]
    refine callR_of (g_FirstTopWalk (Live.newj (M := N5) (j := 0) (b := .row (triL cs) true 3) rfl).has hn) ?_
    rintro _ N6 ⟨g6, rfl, hg6, hgn6, hp6⟩
    have hp56 : Pre N5 N6 := (Pre.app _ _).trans hp6
    simp (disch := omega) only [↓SXd, SXu, slBounds, ↓sop, ↓aop, ↓reduceIte, LV.cells, AOp.dst, LV.I, LV.B, LV.U, LV.S, LV.nil, Nat.reduceEqDiff, Nat.reduceAdd, Nat.reduceMul, Nat.reduceSub, Nat.reduceLeDiff, Nat.reduceBEq, Nat.reduceDiv, Nat.reduceMod, Int.reduceToNat, Int.reduceLT, Int.reduceLE, Int.reduceAdd, Int.reduceSub, Int.reduceMul, Int.reduceEq, Int.reduceNeg, reduceCtorEq, resV, resAll, ARes.ev, LV.flat, ite_true, ite_false, exists_eq_left', exists_eq_left, keyOf, implies_true, fillC, capOf]
    refine callK_of (h_eqIntS hg6.v (hw5.pre hp56).v hrl hrl) ?_
    rw [decide_eq_true (rfl : (walkOf x y z cs p q s).getD [] = (walkOf x y z cs p q s).getD [])]
    simp (disch := omega) only [↓SXd, SXu, slBounds, ↓sop, ↓aop, ↓reduceIte, LV.cells, AOp.dst, LV.I, LV.B, LV.U, LV.S, LV.nil, Nat.reduceEqDiff, Nat.reduceAdd, Nat.reduceMul, Nat.reduceSub, Nat.reduceLeDiff, Nat.reduceBEq, Nat.reduceDiv, Nat.reduceMod, Int.reduceToNat, Int.reduceLT, Int.reduceLE, Int.reduceAdd, Int.reduceSub, Int.reduceMul, Int.reduceEq, Int.reduceNeg, reduceCtorEq, resV, resAll, ARes.ev, LV.flat, ite_true, ite_false, exists_eq_left', exists_eq_left, keyOf, implies_true, fillC, capOf]
    refine callK_of (h_heldIntS (hg5.pre hp56).v hrl (by omega)) ?_
    simp (disch := omega) only [↓SXd, SXu, slBounds, ↓sop, ↓aop, ↓reduceIte, LV.cells, AOp.dst, LV.I, LV.B, LV.U, LV.S, LV.nil, Nat.reduceEqDiff, Nat.reduceAdd, Nat.reduceMul, Nat.reduceSub, Nat.reduceLeDiff, Nat.reduceBEq, Nat.reduceDiv, Nat.reduceMod, Int.reduceToNat, Int.reduceLT, Int.reduceLE, Int.reduceAdd, Int.reduceSub, Int.reduceMul, Int.reduceEq, Int.reduceNeg, reduceCtorEq, resV, resAll, ARes.ev, LV.flat, ite_true, ite_false, exists_eq_left', exists_eq_left, keyOf, implies_true, fillC, capOf]
    rfl
end Go.Ab

/- From the abstract machine to a row: a law that is called with what came in. -/
namespace Go.Ab
open Go Go.RowKit

/-- A memory of which nothing is ours. -/
def NoOwn (M : Mem) : Prop := ∀ t b, Live M t b → b.isOwn = false

theorem law_calls {P : Program} {f : FuncId} {args : List LV} {M N : Mem} {b : Bool} {G : Gh} {w : World} {xs : List Value} (hc : CallsTo P f args M (.B b) N) (hi : Inv G M w) (hn : NoOwn M) (hx : All2 (VR G) args xs) :
    Calls P f xs.toArray w fun e w' => e = .returned (.bool b) ∧ Below w.heap.size w w' := by
  refine (hc.2 G w xs hi hx).mono ?_
  rintro e w' ⟨v, N, x, G', ⟨rfl, rfl⟩, rfl, h1, h2, h3⟩
  refine ⟨by rw [(vr_val h1).1], h3.os, h3.tape, h3.output, h3.size, fun k hk => h3.keep k hk ?_⟩
  rintro ⟨t, blk, β, hl, ho, _⟩
  rw [hn t blk hl] at ho; cases ho

theorem law_callsR {P : Program} {f : FuncId} {args : List LV} {M : Mem} {b : Bool} {G : Gh} {w : World} {xs : List Value} (hc : CallsR P f args M fun v _ => v = .B b) (hi : Inv G M w) (hn : NoOwn M) (hx : All2 (VR G) args xs) :
    Calls P f xs.toArray w fun e w' => e = .returned (.bool b) ∧ Below w.heap.size w w' := by
  refine (hc.2 G w xs hi hx).mono ?_
  rintro e w' ⟨v, N, x, G', rfl, rfl, h1, h2, h3⟩
  refine ⟨by rw [(vr_val h1).1], h3.os, h3.tape, h3.output, h3.size, fun k hk => h3.keep k hk ?_⟩
  rintro ⟨t, blk, β, hl, ho, _⟩
  rw [hn t blk hl] at ho; cases ho
end Go.Ab

/- A heap that came in, opened. -/
namespace Go.Ab
open Go Go.RowKit

section
variable {H : Type} {enc : TypeId × Value → H} {P : Program} {w : World} {held : Bool}

/-- What the abstract machine is told of a slice of cells that came in. -/
def RowOf (w : World) (a : Option Addr) (len cap : Nat) (cs : List Cell) : Prop :=
  cs.length = len ∧ len ≤ cap ∧ cap ≤ maxLen ∧ (cap = 0 ∨ ∃ b o c e fz, a = some ⟨b, o, none⟩ ∧ w.heap[b]? = some (.cells c e fz) ∧ ∀ i, i < len → ∀ j v, (cs.getD i default).row[j]? = some (.I v) → c[o + (i * 3 + j)]? = some (.int .i64 v))

theorem cell_heap {a : Addr} {v : Value} (h : w.cell? a = some v) : ∃ b o c e fz, a = ⟨b, o, none⟩ ∧ w.heap[b]? = some (.cells c e fz) ∧ c[o]? = some v := by
  unfold World.cell? at h
  split at h
  · rename_i c e fz hh
    split at h
    · cases h
    · rename_i hs
      obtain ⟨b, o, s⟩ := a
      cases s with
      | some s => simp at hs
      | none => exact ⟨b, o, c, e, fz, rfl, hh, h⟩
  · cases h

theorem open_cells {ts ta ti : TypeId} {fuel : Nat} {cs : List Value} {x : DataW H × List MemPlace} (hts : P.underlying ts = some (.slice ta)) (hta : P.underlying ta = some (.array 3 ti)) (hti : P.underlying ti = some (.int .i64)) (hca : P.cellsOf ta = 3) (hci : P.cellsOf ti = 1)
    (h : DataW.trod enc P w 0 (fun _ => true) held fuel ts cs = some x) : ∃ a len cap ds, cs = [.slice a len cap] ∧ RowOf w a len cap ds := by
  rcases Go.Deep.open_slice hts h with ⟨rfl, _⟩ | ⟨a, len, cap, m, n, D, Pl, rfl, _, hl, hm, hme, _, hel⟩
  · exact ⟨none, 0, 0, [], rfl, rfl, Nat.le_refl _, Nat.zero_le _, .inl rfl⟩
  · have hmc : m = cap := by simpa using hme
    subst hmc
    have hel' : ∀ i, i < m → ∃ z : Cell, ∀ j v, z.row[j]? = some (.I v) → w.cell? (a.add (i * 3 + j)) = some (.int .i64 v) := fun i hi => by
      obtain ⟨cs', h1, h2⟩ := hel i hi
      rw [hca] at h1
      have r3 : List.range 3 = [0, 1, 2] := rfl
      simp only [World.cells?, Nat.zero_le, if_true, r3, List.mapM_cons, List.mapM_nil, Option.bind_eq_bind, Option.bind_eq_some_iff, Option.pure_def, Option.some.injEq] at h1
      obtain ⟨c0, e0, r, ⟨c1, e1, r', ⟨c2, e2, r'', rfl, rfl⟩, rfl⟩, rfl⟩ := h1
      obtain ⟨y0, y1, y2, n', _, k0, k1, k2⟩ := Go.ChangeShapes.trod_array3 hta hci h2
      obtain ⟨z0, q0, _, _⟩ := DataW.trod_int hti k0
      obtain ⟨z1, q1, _, _⟩ := DataW.trod_int hti k1
      obtain ⟨z2, q2, _, _⟩ := DataW.trod_int hti k2
      simp only [List.cons.injEq, and_true] at q0 q1 q2
      subst q0; subst q1; subst q2
      simp only [Go.Deep.add_add] at e0 e1 e2
      refine ⟨⟨z0, z1, z2⟩, fun j v hj => ?_⟩
      match j with
      | 0 => cases hj; exact e0
      | 1 => cases hj; exact e1
      | 2 => cases hj; exact e2
      | j + 3 => cases hj
    obtain ⟨f, hf⟩ : ∃ f : Nat → Cell, ∀ i, i < m → ∀ j v, (f i).row[j]? = some (.I v) → w.cell? (a.add (i * 3 + j)) = some (.int .i64 v) :=
      ⟨fun i => if h : i < m then Classical.choose (hel' i h) else default, fun i hi => by simp only [hi, dif_pos]; exact Classical.choose_spec (hel' i hi)⟩
    refine ⟨some a, len, m, (List.range len).map f, rfl, by simp, hl, hm, ?_⟩
    rcases Nat.eq_zero_or_pos m with h0 | h0
    · exact .inl h0
    · refine .inr ?_
      have hc0 := hf 0 h0 0 (f 0).a rfl
      obtain ⟨b, o, c, e, fz, ha, hh, _⟩ := cell_heap hc0
      have ha' : a = ⟨b, o, none⟩ := by simpa [Addr.add] using ha
      subst ha'
      refine ⟨b, o, c, e, fz, rfl, hh, fun i hi j v hj => ?_⟩
      have hg : ((List.range len).map f).getD i default = f i := by simp [hi]
      rw [hg] at hj
      have hcell := hf i (by omega) j v hj
      have hadd : (⟨b, o, none⟩ : Addr).add (i * 3 + j) = ⟨b, o + (i * 3 + j), none⟩ := addr_add _ _ _
      rw [hadd] at hcell
      unfold World.cell? at hcell
      simp only [hh] at hcell
      simpa using hcell
end

/-- A row that came in is laid into the abstract memory, to be read. -/
theorem Inv.addRow {G : Gh} {M : Mem} {w : World} (hi : Inv G M w) (hno : NoOwn M) {a : Option Addr} {len cap esz : Nat} {ls : List LV} (hl : len ≤ cap) (hll : ls.length ≤ cap * esz)
    (h : (cap = 0 ∧ ls = []) ∨ ∃ b o c e fz, a = some ⟨b, o, none⟩ ∧ w.heap[b]? = some (.cells c e fz) ∧ ∀ j l, ls[j]? = some l → ∃ x, c[o + j]? = some x ∧ VR1 G l x) :
    ∃ G', Ext G G' ∧ Inv G' (M ++ [some (.row ls false esz)]) w ∧ NoOwn (M ++ [some (.row ls false esz)]) ∧ VR1 G' (.ref M.length 0 len) (.slice a len cap) := by
  obtain ⟨β, hβ, hv⟩ : ∃ β : Base, (∀ G' : Gh, Ext G G' → EmbB G' w (.row ls false esz) β) ∧ (∀ G' : Gh, G' M.length = some β → VR1 G' (.ref M.length 0 len) (.slice a len cap)) := by
    rcases h with ⟨rfl, rfl⟩ | ⟨b, o, c, e, fz, rfl, hh, hc⟩
    · refine ⟨⟨0, 0, esz, 0, true⟩, fun G' _ => ⟨rfl, .inl ⟨rfl, rfl⟩⟩, fun G' hg => ⟨_, hg, a, 0, rfl, .inl ⟨by omega, rfl⟩⟩⟩
    · refine ⟨⟨b, o, esz, cap * esz, false⟩, fun G' hx => ⟨rfl, .inr ⟨rfl, c, e, fz, hh, (fun h => by cases h), hll, fun j l hj => ?_⟩⟩, fun G' hg => ⟨_, hg, _, cap, rfl, .inr ⟨rfl, rfl, hl, by simp⟩⟩⟩
      obtain ⟨x, h1, h2⟩ := hc j l hj
      exact ⟨x, h1, h2.ext hx⟩
  have hx : Ext G (G.put M.length β) := Gh.put_ext (hi.top _ (Nat.le_refl _))
  have hat : (G.put M.length β) M.length = some β := by simp [Gh.put]
  have hno' : NoOwn (M ++ [some (.row ls false esz)]) := fun t b hb => by
    rcases live_push hb with ⟨_, h1⟩ | ⟨_, rfl⟩
    · exact hno t b h1
    · rfl
  refine ⟨G.put M.length β, hx, ⟨fun t b hb => ?_, fun t t' b b' γ γ' _ hb _ ho => ?_, fun t ht => ?_⟩, hno', hv _ hat⟩
  · rcases live_push hb with ⟨hlt, h1⟩ | ⟨rfl, rfl⟩
    · obtain ⟨γ, hg, he⟩ := hi.emb t b h1
      exact ⟨γ, hx _ _ hg, he.ext hx fun _ => rfl⟩
    · exact ⟨β, hat, hβ _ hx⟩
  · rw [hno' t b hb] at ho; cases ho
  · simp at ht
    unfold Gh.put
    rw [if_neg (by omega)]
    exact hi.top t (by omega)

theorem Inv.none (w : World) : Inv (fun _ => Option.none) [] w := ⟨fun t b h => by unfold Live at h; simp at h, fun t t' b b' _ _ _ h => by unfold Live at h; simp at h, fun _ _ => rfl⟩
theorem NoOwn.none : NoOwn [] := fun t b h => by unfold Live at h; simp at h

theorem Inv.addCells {G : Gh} {M : Mem} {w : World} (hi : Inv G M w) (hno : NoOwn M) {a : Option Addr} {len cap : Nat} {cs : List Cell} (h : RowOf w a len cap cs) :
    ∃ G', Ext G G' ∧ Inv G' (M ++ [some (.row (triL cs) false 3)]) w ∧ NoOwn (M ++ [some (.row (triL cs) false 3)]) ∧ VR1 G' (.ref M.length 0 len) (.slice a len cap) := by
  obtain ⟨h1, h2, h3, h4⟩ := h
  refine hi.addRow hno h2 (by rw [triL_len]; omega) ?_
  rcases h4 with h0 | ⟨b, o, c, e, fz, ha, hh, hc⟩
  · refine .inl ⟨h0, ?_⟩
    have : cs = [] := List.eq_nil_of_length_eq_zero (by omega)
    rw [this]; rfl
  · refine .inr ⟨b, o, c, e, fz, ha, hh, fun j l hj => ?_⟩
    have hjl : j < cs.length * 3 := by
      rw [← triL_len]
      rcases Nat.lt_or_ge j (triL cs).length with h | h
      · exact h
      · rw [List.getElem?_eq_none h] at hj; cases hj
    have hat := triL_at (cs := cs) (k := j / 3) (by omega)
    have hrow : (cs.getD (j / 3) default).row[j % 3]? = some l := by
      rw [← hat, List.getElem?_take, if_pos (Nat.mod_lt _ (by omega)), List.getElem?_drop]
      rw [show j / 3 * 3 + j % 3 = j by omega]; exact hj
    have hI : ∃ v, l = .I v := by
      have hm : j % 3 < 3 := Nat.mod_lt _ (by omega)
      generalize j % 3 = r at hrow hm
      match r with
      | 0 => cases hrow; exact ⟨_, rfl⟩
      | 1 => cases hrow; exact ⟨_, rfl⟩
      | 2 => cases hrow; exact ⟨_, rfl⟩
    obtain ⟨v, rfl⟩ := hI
    refine ⟨.int .i64 v, ?_, rfl, rfl⟩
    have := hc (j / 3) (by omega) (j % 3) v hrow
    rwa [show j / 3 * 3 + j % 3 = j by omega] at this
end Go.Ab
