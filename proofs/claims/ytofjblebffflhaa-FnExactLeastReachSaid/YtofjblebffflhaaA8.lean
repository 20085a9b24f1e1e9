/- Parts of the proof of FnExactLeastReachSaid: Ce Ke Ec2 Ed2 LLeastReach Ra Rb. -/
import Derived.Test.YtofjblebffflhaaA3
import Derived.Test.YtofjblebffflhaaA4
import Derived.Test.YtofjblebffflhaaProg
import Derived.KernelRfl
import Derived.Test.YtofjblebffflhaaA7
import Derived.Test.YtofjblebffflhaaA5
import Derived.Below
import Derived.Lib.SmallJoins
import Derived.Deep.Slices
import Derived.Laws.IdiomArrays
set_option linter.all false
/- The abstract code of some functions (written by a program of mine from the translation, by way of prepF). -/
namespace Go.Ab.C
open Go.Ab
/-- spec.l10Both -/
def spec_l10Both : AFn :=
  ⟨4, 21, [.tmp 8],
    .seq (.ops [(none, .box 4 (.t 0)),
       (none, .mv 8 (.c (.B false)))])
    (.seq (.ops [(none, .loadN 9 4 (.t 4)),
        (none, .mv 10 (.t 1)),
        (none, .call (some 11) F.spec_l10Column [(.t 9), (.t 10)]),
        (none, .mv 12 (.t 11)),
        (some (12, true), .loadN 13 4 (.t 4)),
        (some (12, true), .mv 14 (.t 2)),
        (some (12, true), .call (some 15) F.spec_l10Column [(.t 13), (.t 14)]),
        (none, .pick 16 (.t 12) (.t 15) (.c (.B false))),
        (none, .mv 17 (.t 16)),
        (some (17, true), .mv 18 (.t 3)),
        (some (17, true), .bin 19 .geq (.t 18) (.c (.I 0))),
        (none, .pick 20 (.t 17) (.t 19) (.c (.B false))),
        (none, .mv 8 (.t 20))])
     (.ret))⟩
/-- spec.TopDistance -/
def spec_TopDistance : AFn :=
  ⟨4, 28, [.tmp 8, .tmp 9],
    .seq (.ops [(none, .box 4 (.t 0)),
       (none, .mv 8 (.c (.I 0))),
       (none, .mv 9 (.c (.B false)))])
    (.seq (.seq (.ops [(none, .loadN 11 4 (.t 4)),
         (none, .mv 12 (.t 1)),
         (none, .mv 13 (.t 2)),
         (none, .mv 14 (.t 3)),
         (none, .call (some 15) F.spec_l10Both [(.t 11), (.t 12), (.t 13), (.t 14)]),
         (none, .un 16 .not (.t 15))])
      (.cond (.t 16) (.seq (.ops [(none, .mv 8 (.c (.I 0))),
           (none, .mv 9 (.c (.B false)))])
        (.ret))
       (.skip)))
     (.seq (.ops [(none, .loadN 17 4 (.t 4)),
         (none, .mv 18 (.t 1)),
         (none, .mv 19 (.t 3)),
         (none, .call (some 20) F.spec_l10Spread [(.t 17), (.t 18), (.t 19)]),
         (none, .mv 21 (.t 2)),
         (none, .idxS 22 1 (.t 20) (.t 21)),
         (none, .load1 23 (.t 22)),
         (none, .mv 10 (.t 23))])
      (.seq (.ops [(none, .mv 24 (.t 10)),
          (none, .call (some 25) F.spec_l1Most [(.t 24), (.c (.I 0))]),
          (none, .mv 26 (.t 10)),
          (none, .bin 27 .geq (.t 26) (.c (.I 0))),
          (none, .mv 8 (.t 25)),
          (none, .mv 9 (.t 27))])
       (.ret))))⟩
/-- spec.LeastReach -/
def spec_LeastReach : AFn :=
  ⟨3, 25, [.tmp 6, .tmp 7],
    .seq (.ops [(none, .box 3 (.t 0)),
       (none, .mv 6 (.c (.I 0))),
       (none, .mv 7 (.c (.B false)))])
    (.seq (.seq (.ops [(none, .loadN 9 4 (.t 3)),
         (none, .mv 10 (.t 1)),
         (none, .mv 11 (.t 2)),
         (none, .call (some 12) F.spec_l10Both [(.t 9), (.t 10), (.t 11), (.c (.I 0))]),
         (none, .un 13 .not (.t 12))])
      (.cond (.t 13) (.seq (.ops [(none, .mv 6 (.c (.I 0))),
           (none, .mv 7 (.c (.B false)))])
        (.ret))
       (.skip)))
     (.seq (.ops [(none, .mv 8 (.c (.I 0)))])
      (.seq (.block 0 (.loop (.seq (.seq (.ops [(none, .loadN 14 4 (.t 3)),
              (none, .mv 15 (.t 1)),
              (none, .mv 16 (.t 8)),
              (none, .call (some 17) F.spec_l10Spread [(.t 14), (.t 15), (.t 16)]),
              (none, .mv 18 (.t 2)),
              (none, .idxS 19 1 (.t 17) (.t 18)),
              (none, .load1 20 (.t 19)),
              (none, .bin 21 .lss (.t 20) (.c (.I 0)))])
           (.cond (.t 21) (.skip)
            (.exit 0)))
          (.block 1 (.ops [(none, .mv 22 (.t 8)),
              (none, .bin 23 .add (.t 22) (.c (.I 1))),
              (none, .mv 8 (.t 23))])))))
       (.seq (.ops [(none, .mv 24 (.t 8)),
           (none, .mv 6 (.t 24)),
           (none, .mv 7 (.c (.B true)))])
        (.ret)))))⟩
/-- spec.LeastClimb -/
def spec_LeastClimb : AFn :=
  ⟨4, 120, [.tmp 8, .tmp 9],
    .seq (.ops [(none, .box 4 (.t 0)),
       (none, .mv 8 (.c (.I 0))),
       (none, .mv 9 (.c (.B false)))])
    (.seq (.seq (.ops [(none, .loadN 19 4 (.t 4)),
         (none, .mv 20 (.t 1)),
         (none, .mv 21 (.t 2)),
         (none, .mv 22 (.t 3)),
         (none, .call (some 23) F.spec_l10Both [(.t 19), (.t 20), (.t 21), (.t 22)]),
         (none, .un 24 .not (.t 23)),
         (none, .mv 25 (.t 24)),
         (some (25, false), .loadN 26 4 (.t 4)),
         (some (25, false), .mv 27 (.t 1)),
         (some (25, false), .mv 28 (.t 3)),
         (some (25, false), .call (some 29) F.spec_l10Spread [(.t 26), (.t 27), (.t 28)]),
         (some (25, false), .mv 30 (.t 2)),
         (some (25, false), .idxS 31 1 (.t 29) (.t 30)),
         (some (25, false), .load1 32 (.t 31)),
         (some (25, false), .bin 33 .lss (.t 32) (.c (.I 0))),
         (none, .pick 34 (.t 25) (.c (.B true)) (.t 33))])
      (.cond (.t 34) (.seq (.ops [(none, .mv 8 (.c (.I 0))),
           (none, .mv 9 (.c (.B false)))])
        (.ret))
       (.skip)))
     (.seq (.draw [⟨(none, .fieldAddr 35 (.t 4) 0), [], []⟩,
         ⟨(none, .load1 36 (.t 35)), [], []⟩,
         ⟨(none, .fieldAddr 37 (.t 4) 1), [], []⟩,
         ⟨(none, .load1 38 (.t 37)), [], []⟩,
         ⟨(none, .bin 39 .mul (.t 36) (.t 38)), [], []⟩,
         ⟨(none, .loadN 41 4 (.t 4)), [], []⟩,
         ⟨(none, .mksl 40 1 8 [(.I 0)] (.t 39) (.t 39)), [], []⟩,
         ⟨(none, .call (some 42) F.spec_l2Tops [(.t 41)]), [6], [0, 1, 2, 3, 4]⟩,
         ⟨(none, .mv 10 (.t 40)), [], []⟩,
         ⟨(none, .mv 11 (.t 42)), [], []⟩])
      (.seq (.seq (.ops [(none, .mv 12 (.c (.I 0)))])
        (.block 0 (.loop (.seq (.seq (.ops [(none, .mv 43 (.t 12)),
               (none, .mv 44 (.t 10)),
               (none, .len 45 (.t 44)),
               (none, .bin 46 .lss (.t 43) (.t 45))])
            (.cond (.t 46) (.skip)
             (.exit 0)))
           (.seq (.block 1 (.ops [(none, .mv 49 (.t 10)),
                (none, .mv 50 (.t 12)),
                (none, .idxS 51 1 (.t 49) (.t 50)),
                (none, .store 1 (.t 51) (.c (.I (-1))))]))
            (.ops [(none, .mv 47 (.t 12)),
               (none, .bin 48 .add (.t 47) (.c (.I 1))),
               (none, .mv 12 (.t 48))]))))))
       (.seq (.ops [(none, .mv 52 (.t 10)),
           (none, .mv 53 (.t 1)),
           (none, .idxS 54 1 (.t 52) (.t 53)),
           (none, .store 1 (.t 54) (.c (.I 0)))])
        (.seq (.seq (.ops [(none, .mv 13 (.c (.B true)))])
          (.block 2 (.loop (.seq (.seq (.ops [(none, .mv 55 (.t 13))])
              (.cond (.t 55) (.skip)
               (.exit 2)))
             (.block 3 (.seq (.ops [(none, .mv 13 (.c (.B false)))])
               (.seq (.ops [(none, .mv 14 (.c (.I 0)))])
                (.block 4 (.loop (.seq (.seq (.ops [(none, .mv 56 (.t 14)),
                       (none, .mv 57 (.t 10)),
                       (none, .len 58 (.t 57)),
                       (none, .bin 59 .lss (.t 56) (.t 58))])
                    (.cond (.t 59) (.skip)
                     (.exit 4)))
                   (.seq (.block 5 (.seq (.ops [(none, .loadN 62 4 (.t 4)),
                         (none, .mv 63 (.t 11)),
                         (none, .mv 64 (.t 14)),
                         (none, .mv 65 (.t 3)),
                         (none, .call (some 66) F.spec_l10Steps [(.t 62), (.t 63), (.t 64), (.t 65)]),
                         (none, .mv 15 (.t 66))])
                      (.seq (.ops [(none, .mv 16 (.c (.I 0)))])
                       (.block 6 (.loop (.seq (.seq (.ops [(none, .mv 67 (.t 16)),
                              (none, .mv 68 (.t 15)),
                              (none, .len 69 (.t 68)),
                              (none, .bin 70 .lss (.t 67) (.t 69)),
                              (none, .mv 71 (.t 70)),
                              (some (71, true), .mv 72 (.t 10)),
                              (some (71, true), .mv 73 (.t 14)),
                              (some (71, true), .idxS 74 1 (.t 72) (.t 73)),
                              (some (71, true), .load1 75 (.t 74)),
                              (some (71, true), .bin 76 .geq (.t 75) (.c (.I 0))),
                              (none, .pick 77 (.t 71) (.t 76) (.c (.B false)))])
                           (.cond (.t 77) (.skip)
                            (.exit 6)))
                          (.seq (.block 7 (.seq (.ops [(none, .mv 80 (.t 15)),
                                (none, .mv 81 (.t 16)),
                                (none, .idxS 82 1 (.t 80) (.t 81)),
                                (none, .load1 83 (.t 82)),
                                (none, .mv 17 (.t 83))])
                             (.seq (.draw [⟨(none, .mv 84 (.t 10)), [], []⟩,
                                 ⟨(none, .mv 85 (.t 14)), [], []⟩,
                                 ⟨(none, .idxS 86 1 (.t 84) (.t 85)), [], []⟩,
                                 ⟨(none, .load1 87 (.t 86)), [], []⟩,
                                 ⟨(none, .mv 88 (.t 11)), [], []⟩,
                                 ⟨(none, .mv 89 (.t 17)), [], []⟩,
                                 ⟨(none, .idxS 90 1 (.t 88) (.t 89)), [], []⟩,
                                 ⟨(none, .load1 91 (.t 90)), [], []⟩,
                                 ⟨(none, .mv 92 (.t 11)), [], []⟩,
                                 ⟨(none, .mv 93 (.t 14)), [], []⟩,
                                 ⟨(none, .idxS 94 1 (.t 92) (.t 93)), [], []⟩,
                                 ⟨(none, .load1 95 (.t 94)), [], []⟩,
                                 ⟨(none, .bin 96 .sub (.t 91) (.t 95)), [], []⟩,
                                 ⟨(none, .call (some 97) F.spec_l1Most [(.t 96), (.c (.I 0))]), [], [0, 1, 2, 3]⟩,
                                 ⟨(none, .bin 98 .add (.t 87) (.t 97)), [], []⟩,
                                 ⟨(none, .mv 18 (.t 98)), [], []⟩])
                              (.seq (.ops [(none, .mv 99 (.t 10)),
                                  (none, .mv 100 (.t 17)),
                                  (none, .idxS 101 1 (.t 99) (.t 100)),
                                  (none, .load1 102 (.t 101)),
                                  (none, .bin 103 .lss (.t 102) (.c (.I 0))),
                                  (none, .mv 104 (.t 103)),
                                  (some (104, false), .mv 105 (.t 18)),
                                  (some (104, false), .mv 106 (.t 10)),
                                  (some (104, false), .mv 107 (.t 17)),
                                  (some (104, false), .idxS 108 1 (.t 106) (.t 107)),
                                  (some (104, false), .load1 109 (.t 108)),
                                  (some (104, false), .bin 110 .lss (.t 105) (.t 109)),
                                  (none, .pick 111 (.t 104) (.c (.B true)) (.t 110))])
                               (.cond (.t 111) (.seq (.ops [(none, .mv 112 (.t 10)),
                                    (none, .mv 113 (.t 17)),
                                    (none, .mv 114 (.t 18)),
                                    (none, .idxS 115 1 (.t 112) (.t 113)),
                                    (none, .store 1 (.t 115) (.t 114))])
                                 (.ops [(none, .mv 13 (.c (.B true)))]))
                                (.skip))))))
                           (.ops [(none, .mv 78 (.t 16)),
                              (none, .bin 79 .add (.t 78) (.c (.I 1))),
                              (none, .mv 16 (.t 79))]))))))))
                    (.ops [(none, .mv 60 (.t 14)),
                       (none, .bin 61 .add (.t 60) (.c (.I 1))),
                       (none, .mv 14 (.t 61))]))))))))))))
         (.seq (.ops [(none, .mv 116 (.t 10)),
             (none, .mv 117 (.t 2)),
             (none, .idxS 118 1 (.t 116) (.t 117)),
             (none, .load1 119 (.t 118)),
             (none, .mv 8 (.t 119)),
             (none, .mv 9 (.c (.B true)))])
          (.ret)))))))⟩
/-- spec.FirstTopWalk -/
def spec_FirstTopWalk : AFn :=
  ⟨4, 70, [.tmp 8, .tmp 9],
    .seq (.ops [(none, .box 4 (.t 0)),
       (none, .mv 8 (.c .nil)),
       (none, .mv 9 (.c (.B false)))])
    (.seq (.seq (.ops [(none, .loadN 16 4 (.t 4)),
         (none, .mv 17 (.t 1)),
         (none, .mv 18 (.t 2)),
         (none, .mv 19 (.t 3)),
         (none, .call (some 20) F.spec_l10Both [(.t 16), (.t 17), (.t 18), (.t 19)]),
         (none, .un 21 .not (.t 20))])
      (.cond (.t 21) (.seq (.ops [(none, .buildSl 22 0 1 [] []),
           (none, .mv 8 (.t 22)),
           (none, .mv 9 (.c (.B false)))])
        (.ret))
       (.skip)))
     (.seq (.ops [(none, .loadN 23 4 (.t 4)),
         (none, .mv 24 (.t 2)),
         (none, .mv 25 (.t 3)),
         (none, .call (some 26) F.spec_l10Spread [(.t 23), (.t 24), (.t 25)]),
         (none, .mv 10 (.t 26))])
      (.seq (.seq (.ops [(none, .mv 27 (.t 10)),
           (none, .mv 28 (.t 1)),
           (none, .idxS 29 1 (.t 27) (.t 28)),
           (none, .load1 30 (.t 29)),
           (none, .bin 31 .lss (.t 30) (.c (.I 0)))])
        (.cond (.t 31) (.seq (.ops [(none, .buildSl 32 0 1 [] []),
             (none, .mv 8 (.t 32)),
             (none, .mv 9 (.c (.B false)))])
          (.ret))
         (.skip)))
       (.seq (.ops [(none, .mv 33 (.t 1)),
           (none, .buildSl 34 1 1 [(.I 0)] [(0, 1, (.t 33))]),
           (none, .mv 35 (.t 1)),
           (none, .loadN 36 4 (.t 4)),
           (none, .call (some 37) F.spec_l2Tops [(.t 36)]),
           (none, .mv 11 (.t 34)),
           (none, .mv 12 (.t 35)),
           (none, .mv 13 (.t 37))])
        (.seq (.block 0 (.loop (.seq (.seq (.ops [(none, .mv 38 (.t 12)),
                (none, .mv 39 (.t 2)),
                (none, .bin 40 .neq (.t 38) (.t 39))])
             (.cond (.t 40) (.skip)
              (.exit 0)))
            (.block 1 (.seq (.ops [(none, .loadN 41 4 (.t 4)),
                 (none, .mv 42 (.t 13)),
                 (none, .mv 43 (.t 12)),
                 (none, .mv 44 (.t 3)),
                 (none, .call (some 45) F.spec_l10Steps [(.t 41), (.t 42), (.t 43), (.t 44)]),
                 (none, .mv 14 (.t 45)),
                 (none, .mv 15 (.c (.I 0)))])
              (.seq (.block 2 (.loop (.seq (.seq (.draw [⟨(none, .mv 46 (.t 10)), [], []⟩,
                      ⟨(none, .mv 47 (.t 14)), [], []⟩,
                      ⟨(none, .mv 48 (.t 15)), [], []⟩,
                      ⟨(none, .idxS 49 1 (.t 47) (.t 48)), [], []⟩,
                      ⟨(none, .load1 50 (.t 49)), [], []⟩,
                      ⟨(none, .idxS 51 1 (.t 46) (.t 50)), [], []⟩,
                      ⟨(none, .load1 52 (.t 51)), [], []⟩,
                      ⟨(none, .mv 53 (.t 10)), [], []⟩,
                      ⟨(none, .mv 54 (.t 12)), [], []⟩,
                      ⟨(none, .idxS 55 1 (.t 53) (.t 54)), [], []⟩,
                      ⟨(none, .load1 56 (.t 55)), [], []⟩,
                      ⟨(none, .bin 57 .sub (.t 56) (.c (.I 1))), [], []⟩,
                      ⟨(none, .bin 58 .neq (.t 52) (.t 57)), [], []⟩])
                   (.cond (.t 58) (.skip)
                    (.exit 2)))
                  (.block 3 (.ops [(none, .mv 59 (.t 15)),
                      (none, .bin 60 .add (.t 59) (.c (.I 1))),
                      (none, .mv 15 (.t 60))])))))
               (.seq (.ops [(none, .mv 61 (.t 14)),
                   (none, .mv 62 (.t 15)),
                   (none, .idxS 63 1 (.t 61) (.t 62)),
                   (none, .load1 64 (.t 63)),
                   (none, .mv 12 (.t 64))])
                (.ops [(none, .mv 65 (.t 11)),
                   (none, .mv 66 (.t 12)),
                   (none, .buildSl 67 1 1 [(.I 0)] [(0, 1, (.t 66))]),
                   (none, .append 68 1 8 (.t 65) (.t 67)),
                   (none, .mv 11 (.t 68))]))))))))
         (.seq (.ops [(none, .mv 69 (.t 11)),
             (none, .mv 8 (.t 69)),
             (none, .mv 9 (.c (.B true)))])
          (.ret)))))))⟩
/-- impl.found -/
def impl_found : AFn :=
  ⟨1, 8, [.tmp 2, .tmp 3],
    .seq (.ops [(none, .mv 2 (.c (.I 0))),
       (none, .mv 3 (.c (.B false)))])
    (.seq (.ops [(none, .mv 4 (.t 0)),
        (none, .mm 5 true [(.c (.I 0)), (.t 4)]),
        (none, .mv 6 (.t 0)),
        (none, .bin 7 .geq (.t 6) (.c (.I 0))),
        (none, .mv 2 (.t 5)),
        (none, .mv 3 (.t 7))])
     (.ret))⟩
/-- impl.TopDistance -/
def impl_TopDistance : AFn :=
  ⟨4, 28, [.tmp 8, .tmp 9],
    .seq (.ops [(none, .box 4 (.t 0)),
       (none, .mv 8 (.c (.I 0))),
       (none, .mv 9 (.c (.B false)))])
    (.seq (.seq (.ops [(none, .loadN 10 4 (.t 4)),
         (none, .mv 11 (.t 3)),
         (none, .mv 12 (.t 1)),
         (none, .mv 13 (.t 2)),
         (none, .buildSl 14 2 1 [(.I 0), (.I 0)] [(0, 1, (.t 12)), (1, 1, (.t 13))]),
         (none, .call (some 15) F.impl_isTop [(.t 10), (.t 11), (.t 14)]),
         (none, .un 16 .not (.t 15))])
      (.cond (.t 16) (.seq (.ops [(none, .mv 8 (.c (.I 0))),
           (none, .mv 9 (.c (.B false)))])
        (.ret))
       (.skip)))
     (.seq (.ops [(none, .loadN 17 4 (.t 4)),
         (none, .call (some 18) F.impl_Heap_top [(.t 17)]),
         (none, .mv 19 (.t 2)),
         (none, .mv 20 (.t 3)),
         (none, .call (some 21) F.impl_top_distances [(.t 18), (.t 19), (.t 20)]),
         (none, .mv 22 (.t 1)),
         (none, .idxS 23 1 (.t 21) (.t 22)),
         (none, .load1 24 (.t 23)),
         (none, .call (some 25) F.impl_found [(.t 24)]),
         (none, .extract 26 (.t 25) 0),
         (none, .extract 27 (.t 25) 1),
         (none, .mv 8 (.t 26)),
         (none, .mv 9 (.t 27))])
      (.ret)))⟩
/-- impl.LeastReach -/
def impl_LeastReach : AFn :=
  ⟨3, 27, [.tmp 6, .tmp 7],
    .seq (.ops [(none, .box 3 (.t 0)),
       (none, .mv 6 (.c (.I 0))),
       (none, .mv 7 (.c (.B false)))])
    (.seq (.seq (.ops [(none, .loadN 9 4 (.t 3)),
         (none, .mv 10 (.t 1)),
         (none, .mv 11 (.t 2)),
         (none, .buildSl 12 2 1 [(.I 0), (.I 0)] [(0, 1, (.t 10)), (1, 1, (.t 11))]),
         (none, .call (some 13) F.impl_isTop [(.t 9), (.c (.I 0)), (.t 12)]),
         (none, .un 14 .not (.t 13))])
      (.cond (.t 14) (.seq (.ops [(none, .mv 6 (.c (.I 0))),
           (none, .mv 7 (.c (.B false)))])
        (.ret))
       (.skip)))
     (.seq (.ops [(none, .mv 8 (.c (.I 0)))])
      (.seq (.block 0 (.loop (.seq (.seq (.ops [(none, .loadN 15 4 (.t 3)),
              (none, .call (some 16) F.impl_Heap_top [(.t 15)]),
              (none, .mv 17 (.t 2)),
              (none, .mv 18 (.t 8)),
              (none, .call (some 19) F.impl_top_distances [(.t 16), (.t 17), (.t 18)]),
              (none, .mv 20 (.t 1)),
              (none, .idxS 21 1 (.t 19) (.t 20)),
              (none, .load1 22 (.t 21)),
              (none, .bin 23 .lss (.t 22) (.c (.I 0)))])
           (.cond (.t 23) (.skip)
            (.exit 0)))
          (.block 1 (.ops [(none, .mv 24 (.t 8)),
              (none, .bin 25 .add (.t 24) (.c (.I 1))),
              (none, .mv 8 (.t 25))])))))
       (.seq (.ops [(none, .mv 26 (.t 8)),
           (none, .mv 6 (.t 26)),
           (none, .mv 7 (.c (.B true)))])
        (.ret)))))⟩
/-- impl.LeastClimb -/
def impl_LeastClimb : AFn :=
  ⟨4, 94, [.tmp 8, .tmp 9],
    .seq (.ops [(none, .box 4 (.t 0)),
       (none, .mv 8 (.c (.I 0))),
       (none, .mv 9 (.c (.B false)))])
    (.seq (.seq (.ops [(none, .loadN 18 4 (.t 4)),
         (none, .mv 19 (.t 3)),
         (none, .mv 20 (.t 1)),
         (none, .mv 21 (.t 2)),
         (none, .buildSl 22 2 1 [(.I 0), (.I 0)] [(0, 1, (.t 20)), (1, 1, (.t 21))]),
         (none, .call (some 23) F.impl_isTop [(.t 18), (.t 19), (.t 22)]),
         (none, .un 24 .not (.t 23))])
      (.cond (.t 24) (.seq (.ops [(none, .mv 8 (.c (.I 0))),
           (none, .mv 9 (.c (.B false)))])
        (.ret))
       (.skip)))
     (.seq (.ops [(none, .loadN 25 4 (.t 4)),
         (none, .call (some 26) F.impl_Heap_top [(.t 25)]),
         (none, .alloc 10 [.nil, (.I 0)]),
         (none, .store 2 (.t 10) (.t 26))])
      (.seq (.ops [(none, .buildSl 27 1 1 [(.I 0)] [(0, 1, (.c (.I (-1))))]),
          (none, .fieldAddr 28 (.t 10) 0),
          (none, .load1 29 (.t 28)),
          (none, .len 30 (.t 29)),
          (none, .call (some 31) F.slices_Repeat_Sint_int [(.t 27), (.t 30)]),
          (none, .mv 11 (.t 31))])
       (.seq (.ops [(none, .mv 32 (.t 11)),
           (none, .mv 33 (.t 1)),
           (none, .idxS 34 1 (.t 32) (.t 33)),
           (none, .store 1 (.t 34) (.c (.I 0)))])
        (.seq (.seq (.ops [(none, .mv 12 (.c (.B true)))])
          (.block 0 (.loop (.seq (.seq (.ops [(none, .mv 35 (.t 12))])
              (.cond (.t 35) (.skip)
               (.exit 0)))
             (.block 1 (.seq (.ops [(none, .mv 12 (.c (.B false)))])
               (.seq (.ops [(none, .mv 36 (.t 11)),
                   (none, .len 37 (.t 36)),
                   (none, .mv 38 (.c (.I 0)))])
                (.block 2 (.loop (.seq (.ops [(none, .bin 39 .lss (.t 38) (.t 37))])
                   (.seq (.cond (.t 39) (.skip)
                     (.exit 2))
                    (.seq (.block 3 (.seq (.ops [(none, .mv 40 (.t 38)),
                          (none, .idxS 41 1 (.t 36) (.t 38)),
                          (none, .load1 42 (.t 41)),
                          (none, .mv 13 (.t 40)),
                          (none, .mv 14 (.t 42))])
                       (.seq (.seq (.ops [(none, .mv 43 (.t 14)),
                            (none, .bin 44 .lss (.t 43) (.c (.I 0)))])
                         (.cond (.t 44) (.exit 3)
                          (.skip)))
                        (.seq (.ops [(none, .loadN 45 2 (.t 10)),
                            (none, .mv 46 (.t 13)),
                            (none, .mv 47 (.t 3)),
                            (none, .call (some 48) F.impl_top_steps [(.t 45), (.t 46), (.t 47)]),
                            (none, .len 49 (.t 48)),
                            (none, .mv 50 (.c (.I 0)))])
                         (.block 4 (.loop (.seq (.ops [(none, .bin 51 .lss (.t 50) (.t 49))])
                            (.seq (.cond (.t 51) (.skip)
                              (.exit 4))
                             (.seq (.block 5 (.seq (.ops [(none, .idxS 52 1 (.t 48) (.t 50)),
                                   (none, .load1 53 (.t 52)),
                                   (none, .mv 16 (.t 53))])
                                (.seq (.draw [⟨(none, .mv 54 (.t 14)), [], []⟩,
                                    ⟨(none, .fieldAddr 55 (.t 10) 0), [], []⟩,
                                    ⟨(none, .load1 56 (.t 55)), [], []⟩,
                                    ⟨(none, .mv 57 (.t 16)), [], []⟩,
                                    ⟨(none, .idxS 58 1 (.t 56) (.t 57)), [], []⟩,
                                    ⟨(none, .load1 59 (.t 58)), [], []⟩,
                                    ⟨(none, .fieldAddr 60 (.t 10) 0), [], []⟩,
                                    ⟨(none, .load1 61 (.t 60)), [], []⟩,
                                    ⟨(none, .mv 62 (.t 13)), [], []⟩,
                                    ⟨(none, .idxS 63 1 (.t 61) (.t 62)), [], []⟩,
                                    ⟨(none, .load1 64 (.t 63)), [], []⟩,
                                    ⟨(none, .bin 65 .sub (.t 59) (.t 64)), [], []⟩,
                                    ⟨(none, .mm 66 true [(.c (.I 0)), (.t 65)]), [], []⟩,
                                    ⟨(none, .bin 67 .add (.t 54) (.t 66)), [], []⟩,
                                    ⟨(none, .mv 17 (.t 67)), [], []⟩])
                                 (.seq (.ops [(none, .mv 68 (.t 11)),
                                     (none, .mv 69 (.t 16)),
                                     (none, .idxS 70 1 (.t 68) (.t 69)),
                                     (none, .load1 71 (.t 70)),
                                     (none, .bin 72 .lss (.t 71) (.c (.I 0))),
                                     (none, .mv 73 (.t 72)),
                                     (some (73, false), .mv 74 (.t 17)),
                                     (some (73, false), .mv 75 (.t 11)),
                                     (some (73, false), .mv 76 (.t 16)),
                                     (some (73, false), .idxS 77 1 (.t 75) (.t 76)),
                                     (some (73, false), .load1 78 (.t 77)),
                                     (some (73, false), .bin 79 .lss (.t 74) (.t 78)),
                                     (none, .pick 80 (.t 73) (.c (.B true)) (.t 79))])
                                  (.cond (.t 80) (.ops [(none, .mv 81 (.t 11)),
                                      (none, .mv 82 (.t 16)),
                                      (none, .mv 83 (.t 17)),
                                      (none, .idxS 84 1 (.t 81) (.t 82)),
                                      (none, .store 1 (.t 84) (.t 83)),
                                      (none, .mv 12 (.c (.B true)))])
                                   (.skip))))))
                              (.ops [(none, .bin 85 .add (.t 50) (.c (.I 1))),
                                 (none, .mv 50 (.t 85))]))))))))))
                     (.ops [(none, .bin 86 .add (.t 38) (.c (.I 1))),
                        (none, .mv 38 (.t 86))])))))))))))))
         (.seq (.ops [(none, .mv 87 (.t 11)),
             (none, .mv 88 (.t 2)),
             (none, .idxS 89 1 (.t 87) (.t 88)),
             (none, .load1 90 (.t 89)),
             (none, .call (some 91) F.impl_found [(.t 90)]),
             (none, .extract 92 (.t 91) 0),
             (none, .extract 93 (.t 91) 1),
             (none, .mv 8 (.t 92)),
             (none, .mv 9 (.t 93))])
          (.ret)))))))⟩
/-- impl.FirstTopWalk -/
def impl_FirstTopWalk : AFn :=
  ⟨4, 52, [.tmp 8, .tmp 9],
    .seq (.ops [(none, .box 4 (.t 0)),
       (none, .box 5 (.t 1)),
       (none, .mv 8 (.c .nil)),
       (none, .mv 9 (.c (.B false)))])
    (.seq (.seq (.ops [(none, .loadN 14 4 (.t 4)),
         (none, .mv 15 (.t 3)),
         (none, .load1 16 (.t 5)),
         (none, .mv 17 (.t 2)),
         (none, .buildSl 18 2 1 [(.I 0), (.I 0)] [(0, 1, (.t 16)), (1, 1, (.t 17))]),
         (none, .call (some 19) F.impl_isTop [(.t 14), (.t 15), (.t 18)]),
         (none, .un 20 .not (.t 19))])
      (.cond (.t 20) (.seq (.ops [(none, .mv 8 (.c .nil)),
           (none, .mv 9 (.c (.B false)))])
        (.ret))
       (.skip)))
     (.seq (.ops [(none, .loadN 21 4 (.t 4)),
         (none, .call (some 22) F.impl_Heap_top [(.t 21)]),
         (none, .alloc 10 [.nil, (.I 0)]),
         (none, .store 2 (.t 10) (.t 22))])
      (.seq (.ops [(none, .loadN 23 2 (.t 10)),
          (none, .mv 24 (.t 2)),
          (none, .mv 25 (.t 3)),
          (none, .call (some 26) F.impl_top_distances [(.t 23), (.t 24), (.t 25)]),
          (none, .alloc 11 [.nil]),
          (none, .store 1 (.t 11) (.t 26))])
       (.seq (.seq (.ops [(none, .load1 27 (.t 11)),
            (none, .load1 28 (.t 5)),
            (none, .idxS 29 1 (.t 27) (.t 28)),
            (none, .load1 30 (.t 29)),
            (none, .bin 31 .lss (.t 30) (.c (.I 0)))])
         (.cond (.t 31) (.seq (.ops [(none, .mv 8 (.c .nil)),
              (none, .mv 9 (.c (.B false)))])
           (.ret))
          (.skip)))
        (.seq (.ops [(none, .load1 32 (.t 5)),
            (none, .buildSl 33 1 1 [(.I 0)] [(0, 1, (.t 32))]),
            (none, .mv 12 (.t 33))])
         (.seq (.block 0 (.loop (.seq (.seq (.ops [(none, .load1 34 (.t 5)),
                 (none, .mv 35 (.t 2)),
                 (none, .bin 36 .neq (.t 34) (.t 35))])
              (.cond (.t 36) (.skip)
               (.exit 0)))
             (.block 1 (.seq (.ops [(none, .loadN 37 2 (.t 10)),
                  (none, .load1 38 (.t 5)),
                  (none, .mv 39 (.t 3)),
                  (none, .call (some 40) F.impl_top_steps [(.t 37), (.t 38), (.t 39)]),
                  (none, .mv 13 (.t 40))])
               (.seq (.ops [(none, .mv 41 (.t 13)),
                   (none, .mv 42 (.t 13)),
                   (none, .mkf 43 F.impl_FirstTopWalk_1 [(.t 11), (.t 5)]),
                   (none, .call (some 44) F.slices_IndexFunc_Sint_int [(.t 42), (.t 43)]),
                   (none, .idxS 45 1 (.t 41) (.t 44)),
                   (none, .load1 46 (.t 45)),
                   (none, .store 1 (.t 5) (.t 46))])
                (.ops [(none, .mv 47 (.t 12)),
                   (none, .load1 48 (.t 5)),
                   (none, .buildSl 49 1 1 [(.I 0)] [(0, 1, (.t 48))]),
                   (none, .append 50 1 8 (.t 47) (.t 49)),
                   (none, .mv 12 (.t 50))])))))))
          (.seq (.ops [(none, .mv 51 (.t 12)),
              (none, .mv 8 (.t 51)),
              (none, .mv 9 (.c (.B true)))])
           (.ret))))))))⟩
/-- impl.FirstTopWalk$1 -/
def impl_FirstTopWalk_1 : AFn :=
  ⟨3, 15, [.tmp 4],
    .seq (.ops [(none, .mv 4 (.c (.B false)))])
    (.seq (.draw [⟨(none, .load1 5 (.t 1)), [], []⟩,
        ⟨(none, .mv 6 (.t 0)), [], []⟩,
        ⟨(none, .idxS 7 1 (.t 5) (.t 6)), [], []⟩,
        ⟨(none, .load1 8 (.t 7)), [], []⟩,
        ⟨(none, .load1 9 (.t 1)), [], []⟩,
        ⟨(none, .load1 10 (.t 2)), [], []⟩,
        ⟨(none, .idxS 11 1 (.t 9) (.t 10)), [], []⟩,
        ⟨(none, .load1 12 (.t 11)), [], []⟩,
        ⟨(none, .bin 13 .sub (.t 12) (.c (.I 1))), [], []⟩,
        ⟨(none, .bin 14 .eql (.t 8) (.t 13)), [], []⟩,
        ⟨(none, .mv 4 (.t 14)), [], []⟩])
     (.ret))⟩
/-- laws.FnExactTopDistance -/
def laws_FnExactTopDistance : AFn :=
  ⟨4, 52, [.tmp 8],
    .seq (.ops [(none, .box 4 (.t 0)),
       (none, .mv 8 (.c (.B false)))])
    (.seq (.ops [(none, .mv 9 (.c (.I 1048576)))])
     (.seq (.ops [(none, .loadN 15 4 (.t 4)),
         (none, .mv 16 (.t 9)),
         (none, .call (some 17) F.laws_szHeap [(.t 15), (.t 16)]),
         (none, .mv 9 (.t 17))])
      (.seq (.seq (.ops [(none, .mv 18 (.t 9)),
           (none, .bin 19 .lss (.t 18) (.c (.I 0)))])
        (.cond (.t 19) (.seq (.ops [(none, .mv 8 (.c (.B true)))])
          (.ret))
         (.skip)))
       (.seq (.ops [(none, .loadN 21 4 (.t 4)),
           (none, .call (some 22) F.laws_toHeap [(.t 21)]),
           (none, .mv 23 (.t 1)),
           (none, .mv 24 (.t 2)),
           (none, .mv 25 (.t 3)),
           (none, .call (some 26) F.spec_TopDistance [(.t 22), (.t 23), (.t 24), (.t 25)]),
           (none, .mv 20 (.t 26)),
           (none, .extract 27 (.t 20) 0),
           (none, .extract 28 (.t 20) 1),
           (none, .mv 10 (.t 27)),
           (none, .mv 11 (.t 28))])
        (.seq (.ops [(none, .loadN 29 4 (.t 4)),
            (none, .call (some 30) F.laws_toHeap [(.t 29)]),
            (none, .alloc 12 [(.I 0), (.I 0), (.I 0), .nil]),
            (none, .store 4 (.t 12) (.t 30))])
         (.seq (.ops [(none, .loadN 32 4 (.t 12)),
             (none, .mv 33 (.t 1)),
             (none, .mv 34 (.t 2)),
             (none, .mv 35 (.t 3)),
             (none, .call (some 36) F.impl_TopDistance [(.t 32), (.t 33), (.t 34), (.t 35)]),
             (none, .mv 31 (.t 36)),
             (none, .extract 37 (.t 31) 0),
             (none, .extract 38 (.t 31) 1),
             (none, .mv 13 (.t 37)),
             (none, .mv 14 (.t 38))])
          (.seq (.seq (.ops [(none, .mv 39 (.t 13)),
               (none, .mv 40 (.t 10)),
               (none, .bin 41 .neq (.t 39) (.t 40)),
               (none, .mv 42 (.t 41)),
               (some (42, false), .mv 43 (.t 14)),
               (some (42, false), .mv 44 (.t 11)),
               (some (42, false), .eqb 45 true (.t 43) (.t 44)),
               (none, .pick 46 (.t 42) (.c (.B true)) (.t 45))])
            (.cond (.t 46) (.seq (.ops [(none, .mv 8 (.c (.B false)))])
              (.ret))
             (.skip)))
           (.seq (.seq (.draw [⟨(none, .loadN 47 4 (.t 12)), [], []⟩,
                ⟨(none, .loadN 48 4 (.t 4)), [], []⟩,
                ⟨(none, .call (some 49) F.laws_toHeap [(.t 48)]), [], [0]⟩,
                ⟨(none, .call (some 50) F.laws_eqHeap [(.t 47), (.t 49)]), [], []⟩,
                ⟨(none, .un 51 .not (.t 50)), [], []⟩])
             (.cond (.t 51) (.seq (.ops [(none, .mv 8 (.c (.B false)))])
               (.ret))
              (.skip)))
            (.seq (.ops [(none, .mv 8 (.c (.B true)))])
             (.ret))))))))))⟩
/-- laws.FnExactLeastReach -/
def laws_FnExactLeastReach : AFn :=
  ⟨3, 48, [.tmp 6],
    .seq (.ops [(none, .box 3 (.t 0)),
       (none, .mv 6 (.c (.B false)))])
    (.seq (.ops [(none, .mv 7 (.c (.I 1048576)))])
     (.seq (.ops [(none, .loadN 13 4 (.t 3)),
         (none, .mv 14 (.t 7)),
         (none, .call (some 15) F.laws_szHeap [(.t 13), (.t 14)]),
         (none, .mv 7 (.t 15))])
      (.seq (.seq (.ops [(none, .mv 16 (.t 7)),
           (none, .bin 17 .lss (.t 16) (.c (.I 0)))])
        (.cond (.t 17) (.seq (.ops [(none, .mv 6 (.c (.B true)))])
          (.ret))
         (.skip)))
       (.seq (.ops [(none, .loadN 19 4 (.t 3)),
           (none, .call (some 20) F.laws_toHeap [(.t 19)]),
           (none, .mv 21 (.t 1)),
           (none, .mv 22 (.t 2)),
           (none, .call (some 23) F.spec_LeastReach [(.t 20), (.t 21), (.t 22)]),
           (none, .mv 18 (.t 23)),
           (none, .extract 24 (.t 18) 0),
           (none, .extract 25 (.t 18) 1),
           (none, .mv 8 (.t 24)),
           (none, .mv 9 (.t 25))])
        (.seq (.ops [(none, .loadN 26 4 (.t 3)),
            (none, .call (some 27) F.laws_toHeap [(.t 26)]),
            (none, .alloc 10 [(.I 0), (.I 0), (.I 0), .nil]),
            (none, .store 4 (.t 10) (.t 27))])
         (.seq (.ops [(none, .loadN 29 4 (.t 10)),
             (none, .mv 30 (.t 1)),
             (none, .mv 31 (.t 2)),
             (none, .call (some 32) F.impl_LeastReach [(.t 29), (.t 30), (.t 31)]),
             (none, .mv 28 (.t 32)),
             (none, .extract 33 (.t 28) 0),
             (none, .extract 34 (.t 28) 1),
             (none, .mv 11 (.t 33)),
             (none, .mv 12 (.t 34))])
          (.seq (.seq (.ops [(none, .mv 35 (.t 11)),
               (none, .mv 36 (.t 8)),
               (none, .bin 37 .neq (.t 35) (.t 36)),
               (none, .mv 38 (.t 37)),
               (some (38, false), .mv 39 (.t 12)),
               (some (38, false), .mv 40 (.t 9)),
               (some (38, false), .eqb 41 true (.t 39) (.t 40)),
               (none, .pick 42 (.t 38) (.c (.B true)) (.t 41))])
            (.cond (.t 42) (.seq (.ops [(none, .mv 6 (.c (.B false)))])
              (.ret))
             (.skip)))
           (.seq (.seq (.draw [⟨(none, .loadN 43 4 (.t 10)), [], []⟩,
                ⟨(none, .loadN 44 4 (.t 3)), [], []⟩,
                ⟨(none, .call (some 45) F.laws_toHeap [(.t 44)]), [], [0]⟩,
                ⟨(none, .call (some 46) F.laws_eqHeap [(.t 43), (.t 45)]), [], []⟩,
                ⟨(none, .un 47 .not (.t 46)), [], []⟩])
             (.cond (.t 47) (.seq (.ops [(none, .mv 6 (.c (.B false)))])
               (.ret))
              (.skip)))
            (.seq (.ops [(none, .mv 6 (.c (.B true)))])
             (.ret))))))))))⟩
/-- laws.FnExactLeastClimb -/
def laws_FnExactLeastClimb : AFn :=
  ⟨4, 52, [.tmp 8],
    .seq (.ops [(none, .box 4 (.t 0)),
       (none, .mv 8 (.c (.B false)))])
    (.seq (.ops [(none, .mv 9 (.c (.I 1048576)))])
     (.seq (.ops [(none, .loadN 15 4 (.t 4)),
         (none, .mv 16 (.t 9)),
         (none, .call (some 17) F.laws_szHeap [(.t 15), (.t 16)]),
         (none, .mv 9 (.t 17))])
      (.seq (.seq (.ops [(none, .mv 18 (.t 9)),
           (none, .bin 19 .lss (.t 18) (.c (.I 0)))])
        (.cond (.t 19) (.seq (.ops [(none, .mv 8 (.c (.B true)))])
          (.ret))
         (.skip)))
       (.seq (.ops [(none, .loadN 21 4 (.t 4)),
           (none, .call (some 22) F.laws_toHeap [(.t 21)]),
           (none, .mv 23 (.t 1)),
           (none, .mv 24 (.t 2)),
           (none, .mv 25 (.t 3)),
           (none, .call (some 26) F.spec_LeastClimb [(.t 22), (.t 23), (.t 24), (.t 25)]),
           (none, .mv 20 (.t 26)),
           (none, .extract 27 (.t 20) 0),
           (none, .extract 28 (.t 20) 1),
           (none, .mv 10 (.t 27)),
           (none, .mv 11 (.t 28))])
        (.seq (.ops [(none, .loadN 29 4 (.t 4)),
            (none, .call (some 30) F.laws_toHeap [(.t 29)]),
            (none, .alloc 12 [(.I 0), (.I 0), (.I 0), .nil]),
            (none, .store 4 (.t 12) (.t 30))])
         (.seq (.ops [(none, .loadN 32 4 (.t 12)),
             (none, .mv 33 (.t 1)),
             (none, .mv 34 (.t 2)),
             (none, .mv 35 (.t 3)),
             (none, .call (some 36) F.impl_LeastClimb [(.t 32), (.t 33), (.t 34), (.t 35)]),
             (none, .mv 31 (.t 36)),
             (none, .extract 37 (.t 31) 0),
             (none, .extract 38 (.t 31) 1),
             (none, .mv 13 (.t 37)),
             (none, .mv 14 (.t 38))])
          (.seq (.seq (.ops [(none, .mv 39 (.t 13)),
               (none, .mv 40 (.t 10)),
               (none, .bin 41 .neq (.t 39) (.t 40)),
               (none, .mv 42 (.t 41)),
               (some (42, false), .mv 43 (.t 14)),
               (some (42, false), .mv 44 (.t 11)),
               (some (42, false), .eqb 45 true (.t 43) (.t 44)),
               (none, .pick 46 (.t 42) (.c (.B true)) (.t 45))])
            (.cond (.t 46) (.seq (.ops [(none, .mv 8 (.c (.B false)))])
              (.ret))
             (.skip)))
           (.seq (.seq (.draw [⟨(none, .loadN 47 4 (.t 12)), [], []⟩,
                ⟨(none, .loadN 48 4 (.t 4)), [], []⟩,
                ⟨(none, .call (some 49) F.laws_toHeap [(.t 48)]), [], [0]⟩,
                ⟨(none, .call (some 50) F.laws_eqHeap [(.t 47), (.t 49)]), [], []⟩,
                ⟨(none, .un 51 .not (.t 50)), [], []⟩])
             (.cond (.t 51) (.seq (.ops [(none, .mv 8 (.c (.B false)))])
               (.ret))
              (.skip)))
            (.seq (.ops [(none, .mv 8 (.c (.B true)))])
             (.ret))))))))))⟩
/-- laws.FnExactFirstTopWalk -/
def laws_FnExactFirstTopWalk : AFn :=
  ⟨4, 111, [.tmp 8],
    .seq (.ops [(none, .box 4 (.t 0)),
       (none, .mv 8 (.c (.B false)))])
    (.seq (.ops [(none, .mv 9 (.c (.I 1048576)))])
     (.seq (.ops [(none, .loadN 20 4 (.t 4)),
         (none, .mv 21 (.t 9)),
         (none, .call (some 22) F.laws_szHeap [(.t 20), (.t 21)]),
         (none, .mv 9 (.t 22))])
      (.seq (.seq (.ops [(none, .mv 23 (.t 9)),
           (none, .bin 24 .lss (.t 23) (.c (.I 0)))])
        (.cond (.t 24) (.seq (.ops [(none, .mv 8 (.c (.B true)))])
          (.ret))
         (.skip)))
       (.seq (.ops [(none, .loadN 26 4 (.t 4)),
           (none, .call (some 27) F.laws_toHeap [(.t 26)]),
           (none, .mv 28 (.t 1)),
           (none, .mv 29 (.t 2)),
           (none, .mv 30 (.t 3)),
           (none, .call (some 31) F.spec_FirstTopWalk [(.t 27), (.t 28), (.t 29), (.t 30)]),
           (none, .mv 25 (.t 31)),
           (none, .extract 32 (.t 25) 0),
           (none, .extract 33 (.t 25) 1),
           (none, .mv 10 (.t 32)),
           (none, .mv 11 (.t 33))])
        (.seq (.ops [(none, .loadN 34 4 (.t 4)),
            (none, .call (some 35) F.laws_toHeap [(.t 34)]),
            (none, .alloc 12 [(.I 0), (.I 0), (.I 0), .nil]),
            (none, .store 4 (.t 12) (.t 35))])
         (.seq (.ops [(none, .loadN 37 4 (.t 12)),
             (none, .mv 38 (.t 1)),
             (none, .mv 39 (.t 2)),
             (none, .mv 40 (.t 3)),
             (none, .call (some 41) F.impl_FirstTopWalk [(.t 37), (.t 38), (.t 39), (.t 40)]),
             (none, .mv 36 (.t 41)),
             (none, .extract 42 (.t 36) 0),
             (none, .extract 43 (.t 36) 1),
             (none, .mv 13 (.t 42)),
             (none, .mv 14 (.t 43))])
          (.seq (.seq (.ops [(none, .mv 44 (.t 13)),
               (none, .mv 45 (.t 10)),
               (none, .call (some 46) F.laws_eqIntS [(.t 44), (.t 45)]),
               (none, .un 47 .not (.t 46)),
               (none, .mv 48 (.t 47)),
               (some (48, false), .mv 49 (.t 14)),
               (some (48, false), .mv 50 (.t 11)),
               (some (48, false), .eqb 51 true (.t 49) (.t 50)),
               (none, .pick 52 (.t 48) (.c (.B true)) (.t 51))])
            (.cond (.t 52) (.seq (.ops [(none, .mv 8 (.c (.B false)))])
              (.ret))
             (.skip)))
           (.seq (.seq (.draw [⟨(none, .loadN 53 4 (.t 12)), [], []⟩,
                ⟨(none, .loadN 54 4 (.t 4)), [], []⟩,
                ⟨(none, .call (some 55) F.laws_toHeap [(.t 54)]), [], [0]⟩,
                ⟨(none, .call (some 56) F.laws_eqHeap [(.t 53), (.t 55)]), [], []⟩,
                ⟨(none, .un 57 .not (.t 56)), [], []⟩])
             (.cond (.t 57) (.seq (.ops [(none, .mv 8 (.c (.B false)))])
               (.ret))
              (.skip)))
            (.seq (.ops [(none, .mv 15 (.c (.I 1)))])
             (.seq (.ops [(none, .loadN 58 4 (.t 12)),
                 (none, .mv 59 (.t 15)),
                 (none, .call (some 60) F.laws_markHeap [(.t 58), (.t 59)]),
                 (none, .mv 15 (.t 60))])
              (.seq (.seq (.ops [(none, .mv 61 (.t 15)),
                   (none, .bin 62 .lss (.t 61) (.c (.I 0))),
                   (none, .mv 63 (.t 62)),
                   (some (63, false), .mv 64 (.t 13)),
                   (some (63, false), .mv 65 (.t 10)),
                   (some (63, false), .call (some 66) F.laws_eqIntS [(.t 64), (.t 65)]),
                   (some (63, false), .un 67 .not (.t 66)),
                   (none, .pick 68 (.t 63) (.c (.B true)) (.t 67)),
                   (none, .mv 69 (.t 68)),
                   (some (69, false), .mv 70 (.t 14)),
                   (some (69, false), .mv 71 (.t 11)),
                   (some (69, false), .eqb 72 true (.t 70) (.t 71)),
                   (none, .pick 73 (.t 69) (.c (.B true)) (.t 72))])
                (.cond (.t 73) (.seq (.ops [(none, .mv 8 (.c (.B false)))])
                  (.ret))
                 (.skip)))
               (.seq (.ops [(none, .mv 16 (.c (.I 1)))])
                (.seq (.ops [(none, .mv 74 (.t 13)),
                    (none, .mv 75 (.t 16)),
                    (none, .call (some 76) F.laws_markIntS [(.t 74), (.t 75)]),
                    (none, .mv 16 (.t 76))])
                 (.seq (.ops [(none, .mv 17 (.c (.I 1)))])
                  (.seq (.ops [(none, .mv 77 (.t 13)),
                      (none, .mv 78 (.t 17)),
                      (none, .call (some 79) F.laws_heldIntS [(.t 77), (.t 78)]),
                      (none, .mv 17 (.t 79))])
                   (.seq (.seq (.ops [(none, .mv 80 (.t 17)),
                        (none, .bin 81 .lss (.t 80) (.c (.I 0)))])
                     (.cond (.t 81) (.seq (.ops [(none, .mv 8 (.c (.B false)))])
                       (.ret))
                      (.skip)))
                    (.seq (.seq (.ops [(none, .mv 82 (.t 17)),
                         (none, .mv 83 (.t 16)),
                         (none, .bin 84 .neq (.t 82) (.t 83))])
                      (.cond (.t 84) (.seq (.ops [(none, .mv 8 (.c (.B false)))])
                        (.ret))
                       (.skip)))
                     (.seq (.ops [(none, .loadN 86 4 (.t 4)),
                         (none, .call (some 87) F.laws_toHeap [(.t 86)]),
                         (none, .mv 88 (.t 1)),
                         (none, .mv 89 (.t 2)),
                         (none, .mv 90 (.t 3)),
                         (none, .call (some 91) F.impl_FirstTopWalk [(.t 87), (.t 88), (.t 89), (.t 90)]),
                         (none, .mv 85 (.t 91)),
                         (none, .extract 92 (.t 85) 0),
                         (none, .extract 93 (.t 85) 1),
                         (none, .mv 18 (.t 92)),
                         (none, .mv 19 (.t 93))])
                      (.seq (.seq (.ops [(none, .mv 94 (.t 18)),
                           (none, .mv 95 (.t 10)),
                           (none, .call (some 96) F.laws_eqIntS [(.t 94), (.t 95)]),
                           (none, .un 97 .not (.t 96)),
                           (none, .mv 98 (.t 97)),
                           (some (98, false), .mv 99 (.t 19)),
                           (some (98, false), .mv 100 (.t 11)),
                           (some (98, false), .eqb 101 true (.t 99) (.t 100)),
                           (none, .pick 102 (.t 98) (.c (.B true)) (.t 101))])
                        (.cond (.t 102) (.seq (.ops [(none, .mv 8 (.c (.B false)))])
                          (.ret))
                         (.skip)))
                       (.seq (.ops [(none, .mv 17 (.c (.I 1)))])
                        (.seq (.ops [(none, .mv 103 (.t 13)),
                            (none, .mv 104 (.t 17)),
                            (none, .call (some 105) F.laws_heldIntS [(.t 103), (.t 104)]),
                            (none, .mv 17 (.t 105))])
                         (.seq (.seq (.ops [(none, .mv 106 (.t 17)),
                              (none, .bin 107 .lss (.t 106) (.c (.I 0)))])
                           (.cond (.t 107) (.seq (.ops [(none, .mv 8 (.c (.B false)))])
                             (.ret))
                            (.skip)))
                          (.seq (.seq (.ops [(none, .mv 108 (.t 17)),
                               (none, .mv 109 (.t 16)),
                               (none, .bin 110 .neq (.t 108) (.t 109))])
                            (.cond (.t 110) (.seq (.ops [(none, .mv 8 (.c (.B false)))])
                              (.ret))
                             (.skip)))
                           (.seq (.ops [(none, .mv 8 (.c (.B true)))])
                            (.ret)))))))))))))))))))))))))⟩
end Go.Ab.C

/- That the program has this code. -/
namespace Go.Ab.K
open Go Go.Ab
theorem spec_l10Both : prepF Go.Proofs.Try.prog F.spec_l10Both = some C.spec_l10Both := by kernel_rfl
theorem spec_TopDistance : prepF Go.Proofs.Try.prog F.spec_TopDistance = some C.spec_TopDistance := by kernel_rfl
theorem spec_LeastReach : prepF Go.Proofs.Try.prog F.spec_LeastReach = some C.spec_LeastReach := by kernel_rfl
theorem spec_LeastClimb : prepF Go.Proofs.Try.prog F.spec_LeastClimb = some C.spec_LeastClimb := by kernel_rfl
theorem spec_FirstTopWalk : prepF Go.Proofs.Try.prog F.spec_FirstTopWalk = some C.spec_FirstTopWalk := by kernel_rfl
theorem impl_found : prepF Go.Proofs.Try.prog F.impl_found = some C.impl_found := by kernel_rfl
theorem impl_TopDistance : prepF Go.Proofs.Try.prog F.impl_TopDistance = some C.impl_TopDistance := by kernel_rfl
theorem impl_LeastReach : prepF Go.Proofs.Try.prog F.impl_LeastReach = some C.impl_LeastReach := by kernel_rfl
theorem impl_LeastClimb : prepF Go.Proofs.Try.prog F.impl_LeastClimb = some C.impl_LeastClimb := by kernel_rfl
theorem impl_FirstTopWalk : prepF Go.Proofs.Try.prog F.impl_FirstTopWalk = some C.impl_FirstTopWalk := by kernel_rfl
theorem impl_FirstTopWalk_1 : prepF Go.Proofs.Try.prog F.impl_FirstTopWalk_1 = some C.impl_FirstTopWalk_1 := by kernel_rfl
theorem laws_FnExactTopDistance : prepF Go.Proofs.Try.prog F.laws_FnExactTopDistance = some C.laws_FnExactTopDistance := by kernel_rfl
theorem laws_FnExactLeastReach : prepF Go.Proofs.Try.prog F.laws_FnExactLeastReach = some C.laws_FnExactLeastReach := by kernel_rfl
theorem laws_FnExactLeastClimb : prepF Go.Proofs.Try.prog F.laws_FnExactLeastClimb = some C.laws_FnExactLeastClimb := by kernel_rfl
theorem laws_FnExactFirstTopWalk : prepF Go.Proofs.Try.prog F.laws_FnExactFirstTopWalk = some C.laws_FnExactFirstTopWalk := by kernel_rfl
end Go.Ab.K

/- Contracts: distances and least reaches, both sides. -/
namespace Go.Ab
open Go
set_option linter.unusedSimpArgs false
set_option linter.unusedVariables false

theorem h_l10Both {x y z p q s : Int} {t o : Nat} {cs : List Cell} {M : Mem} (h : Tri M t o cs) (hn : cs.length ≤ 1000000000) :
    CallsTo PG F.spec_l10Both [.agg [.I x, .I y, .I z, .ref t o cs.length], .I p, .I q, .I s] M (.B (decide ((HeapOK x y z cs ∧ (0 ≤ p ∧ p ≤ x * y - 1)) ∧ (0 ≤ q ∧ q ≤ x * y - 1) ∧ 0 ≤ s))) M := by
  refine calls_run K.spec_l10Both rfl ?_
  simp (disch := omega) only [C.spec_l10Both, ↓SXd, SXu, slBounds, ↓sop, ↓aop, ↓reduceIte, LV.cells, AOp.dst, LV.I, LV.B, LV.U, LV.S, LV.nil, Nat.reduceEqDiff, Nat.reduceAdd, Nat.reduceMul, Nat.reduceSub, Nat.reduceLeDiff, Nat.reduceBEq, Nat.reduceDiv, Nat.reduceMod, Int.reduceToNat, Int.reduceLT, Int.reduceLE, Int.reduceAdd, Int.reduceSub, Int.reduceMul, Int.reduceEq, Int.reduceNeg, reduceCtorEq, resV, resAll, ARes.ev, LV.flat, ite_true, ite_false, exists_eq_left', exists_eq_left, keyOf, implies_true, fillC, capOf]
  refine callK_of (h_l10Column h.app hn) ?_
  simp (disch := omega) only [↓SXd, SXu, slBounds, ↓sop, ↓aop, ↓reduceIte, LV.cells, AOp.dst, LV.I, LV.B, LV.U, LV.S, LV.nil, Nat.reduceEqDiff, Nat.reduceAdd, Nat.reduceMul, Nat.reduceSub, Nat.reduceLeDiff, Nat.reduceBEq, Nat.reduceDiv, Nat.reduceMod, Int.reduceToNat, Int.reduceLT, Int.reduceLE, Int.reduceAdd, Int.reduceSub, Int.reduceMul, Int.reduceEq, Int.reduceNeg, reduceCtorEq, resV, resAll, ARes.ev, LV.flat, ite_true, ite_false, exists_eq_left', exists_eq_left, keyOf, implies_true, fillC, capOf]
  by_cases h1 : HeapOK x y z cs ∧ (0 ≤ p ∧ p ≤ x * y - 1)
  · simp (disch := omega) only [h1, ↓SXd, SXu, slBounds, ↓sop, ↓aop, ↓reduceIte, LV.cells, AOp.dst, LV.I, LV.B, LV.U, LV.S, LV.nil, Nat.reduceEqDiff, Nat.reduceAdd, Nat.reduceMul, Nat.reduceSub, Nat.reduceLeDiff, Nat.reduceBEq, Nat.reduceDiv, Nat.reduceMod, Int.reduceToNat, Int.reduceLT, Int.reduceLE, Int.reduceAdd, Int.reduceSub, Int.reduceMul, Int.reduceEq, Int.reduceNeg, reduceCtorEq, resV, resAll, ARes.ev, LV.flat, ite_true, ite_false, exists_eq_left', exists_eq_left, keyOf, implies_true, fillC, capOf]
    refine callK_of (h_l10Column h.app hn) ?_
    simp (disch := omega) only [h1, ↓SXd, SXu, slBounds, ↓sop, ↓aop, ↓reduceIte, LV.cells, AOp.dst, LV.I, LV.B, LV.U, LV.S, LV.nil, Nat.reduceEqDiff, Nat.reduceAdd, Nat.reduceMul, Nat.reduceSub, Nat.reduceLeDiff, Nat.reduceBEq, Nat.reduceDiv, Nat.reduceMod, Int.reduceToNat, Int.reduceLT, Int.reduceLE, Int.reduceAdd, Int.reduceSub, Int.reduceMul, Int.reduceEq, Int.reduceNeg, reduceCtorEq, resV, resAll, ARes.ev, LV.flat, ite_true, ite_false, exists_eq_left', exists_eq_left, keyOf, implies_true, fillC, capOf]
    by_cases h2 : 0 ≤ q ∧ q ≤ x * y - 1
    · by_cases h3 : 0 ≤ s
      · have h3' : s ≥ 0 := h3
        simp (disch := omega) only [h1, h2, h3, h3', ↓SXd, SXu, slBounds, ↓sop, ↓aop, ↓reduceIte, LV.cells, AOp.dst, LV.I, LV.B, LV.U, LV.S, LV.nil, Nat.reduceEqDiff, Nat.reduceAdd, Nat.reduceMul, Nat.reduceSub, Nat.reduceLeDiff, Nat.reduceBEq, Nat.reduceDiv, Nat.reduceMod, Int.reduceToNat, Int.reduceLT, Int.reduceLE, Int.reduceAdd, Int.reduceSub, Int.reduceMul, Int.reduceEq, Int.reduceNeg, reduceCtorEq, resV, resAll, ARes.ev, LV.flat, ite_true, ite_false, exists_eq_left', exists_eq_left, keyOf, implies_true, fillC, capOf]
        exact cmp_drop rfl
      · have h3' : ¬ s ≥ 0 := h3
        simp (disch := omega) only [h1, h2, h3, h3', and_false, ↓SXd, SXu, slBounds, ↓sop, ↓aop, ↓reduceIte, LV.cells, AOp.dst, LV.I, LV.B, LV.U, LV.S, LV.nil, Nat.reduceEqDiff, Nat.reduceAdd, Nat.reduceMul, Nat.reduceSub, Nat.reduceLeDiff, Nat.reduceBEq, Nat.reduceDiv, Nat.reduceMod, Int.reduceToNat, Int.reduceLT, Int.reduceLE, Int.reduceAdd, Int.reduceSub, Int.reduceMul, Int.reduceEq, Int.reduceNeg, reduceCtorEq, resV, resAll, ARes.ev, LV.flat, ite_true, ite_false, exists_eq_left', exists_eq_left, keyOf, implies_true, fillC, capOf]
        exact cmp_drop rfl
    · simp (disch := omega) only [h1, h2, false_and, and_false, ↓SXd, SXu, slBounds, ↓sop, ↓aop, ↓reduceIte, LV.cells, AOp.dst, LV.I, LV.B, LV.U, LV.S, LV.nil, Nat.reduceEqDiff, Nat.reduceAdd, Nat.reduceMul, Nat.reduceSub, Nat.reduceLeDiff, Nat.reduceBEq, Nat.reduceDiv, Nat.reduceMod, Int.reduceToNat, Int.reduceLT, Int.reduceLE, Int.reduceAdd, Int.reduceSub, Int.reduceMul, Int.reduceEq, Int.reduceNeg, reduceCtorEq, resV, resAll, ARes.ev, LV.flat, ite_true, ite_false, exists_eq_left', exists_eq_left, keyOf, implies_true, fillC, capOf]
      exact cmp_drop rfl
  · simp (disch := omega) only [h1, false_and, ↓SXd, SXu, slBounds, ↓sop, ↓aop, ↓reduceIte, LV.cells, AOp.dst, LV.I, LV.B, LV.U, LV.S, LV.nil, Nat.reduceEqDiff, Nat.reduceAdd, Nat.reduceMul, Nat.reduceSub, Nat.reduceLeDiff, Nat.reduceBEq, Nat.reduceDiv, Nat.reduceMod, Int.reduceToNat, Int.reduceLT, Int.reduceLE, Int.reduceAdd, Int.reduceSub, Int.reduceMul, Int.reduceEq, Int.reduceNeg, reduceCtorEq, resV, resAll, ARes.ev, LV.flat, ite_true, ite_false, exists_eq_left', exists_eq_left, keyOf, implies_true, fillC, capOf]
    exact cmp_drop rfl

/-- The distance of two columns, or -1. -/
noncomputable def tdOf (x y z : Int) (cs : List Cell) (p q s : Int) : Int := by
  classical
  exact if (HeapOK x y z cs ∧ (0 ≤ p ∧ p ≤ x * y - 1)) ∧ (0 ≤ q ∧ q ≤ x * y - 1) ∧ 0 ≤ s then (spreadOf x y cs p s).getD q.toNat 0 else -1

theorem h_sTopDistance {x y z p q s : Int} {t o : Nat} {cs : List Cell} {M : Mem} (h : Tri M t o cs) (hn : cs.length ≤ 1000000000) :
    CallsTo PG F.spec_TopDistance [.agg [.I x, .I y, .I z, .ref t o cs.length], .I p, .I q, .I s] M (.tup [.I (max (tdOf x y z cs p q s) 0), .B (decide (0 ≤ tdOf x y z cs p q s))]) M := by
  refine calls_run K.spec_TopDistance rfl ?_
  simp (disch := omega) only [C.spec_TopDistance, ↓SXd, SXu, slBounds, ↓sop, ↓aop, ↓reduceIte, LV.cells, AOp.dst, LV.I, LV.B, LV.U, LV.S, LV.nil, Nat.reduceEqDiff, Nat.reduceAdd, Nat.reduceMul, Nat.reduceSub, Nat.reduceLeDiff, Nat.reduceBEq, Nat.reduceDiv, Nat.reduceMod, Int.reduceToNat, Int.reduceLT, Int.reduceLE, Int.reduceAdd, Int.reduceSub, Int.reduceMul, Int.reduceEq, Int.reduceNeg, reduceCtorEq, resV, resAll, ARes.ev, LV.flat, ite_true, ite_false, exists_eq_left', exists_eq_left, keyOf, implies_true, fillC, capOf]
  refine callK_of (h_l10Both h.app hn) ?_
  simp (disch := omega) only [↓SXd, SXu, slBounds, ↓sop, ↓aop, ↓reduceIte, LV.cells, AOp.dst, LV.I, LV.B, LV.U, LV.S, LV.nil, Nat.reduceEqDiff, Nat.reduceAdd, Nat.reduceMul, Nat.reduceSub, Nat.reduceLeDiff, Nat.reduceBEq, Nat.reduceDiv, Nat.reduceMod, Int.reduceToNat, Int.reduceLT, Int.reduceLE, Int.reduceAdd, Int.reduceSub, Int.reduceMul, Int.reduceEq, Int.reduceNeg, reduceCtorEq, resV, resAll, ARes.ev, LV.flat, ite_true, ite_false, exists_eq_left', exists_eq_left, keyOf, implies_true, fillC, capOf]
  unfold tdOf
  by_cases hV : (HeapOK x y z cs ∧ (0 ≤ p ∧ p ≤ x * y - 1)) ∧ (0 ≤ q ∧ q ≤ x * y - 1) ∧ 0 ≤ s
  · obtain ⟨⟨hH, hp⟩, hq, hs⟩ := id hV
    have hb := mul_bound hH.1.1 hH.1.2.1
    have hsl := spreadOf_len (cs := cs) (s := s) hp
    rw [if_pos hV]
    simp (disch := omega) only [hV, ↓SXd, SXu, slBounds, ↓sop, ↓aop, ↓reduceIte, LV.cells, AOp.dst, LV.I, LV.B, LV.U, LV.S, LV.nil, Nat.reduceEqDiff, Nat.reduceAdd, Nat.reduceMul, Nat.reduceSub, Nat.reduceLeDiff, Nat.reduceBEq, Nat.reduceDiv, Nat.reduceMod, Int.reduceToNat, Int.reduceLT, Int.reduceLE, Int.reduceAdd, Int.reduceSub, Int.reduceMul, Int.reduceEq, Int.reduceNeg, reduceCtorEq, resV, resAll, ARes.ev, LV.flat, ite_true, ite_false, exists_eq_left', exists_eq_left, keyOf, implies_true, fillC, capOf]
    refine callK_of (h_l10Spread h.app hn hH hp) ?_
    simp (disch := omega) only [intL_get, ↓SXd, SXu, slBounds, ↓sop, ↓aop, ↓reduceIte, LV.cells, AOp.dst, LV.I, LV.B, LV.U, LV.S, LV.nil, Nat.reduceEqDiff, Nat.reduceAdd, Nat.reduceMul, Nat.reduceSub, Nat.reduceLeDiff, Nat.reduceBEq, Nat.reduceDiv, Nat.reduceMod, Int.reduceToNat, Int.reduceLT, Int.reduceLE, Int.reduceAdd, Int.reduceSub, Int.reduceMul, Int.reduceEq, Int.reduceNeg, reduceCtorEq, resV, resAll, ARes.ev, LV.flat, ite_true, ite_false, exists_eq_left', exists_eq_left, keyOf, implies_true, fillC, capOf]
    refine callK_of (h_l1Most) ?_
    simp (disch := omega) only [↓SXd, SXu, slBounds, ↓sop, ↓aop, ↓reduceIte, LV.cells, AOp.dst, LV.I, LV.B, LV.U, LV.S, LV.nil, Nat.reduceEqDiff, Nat.reduceAdd, Nat.reduceMul, Nat.reduceSub, Nat.reduceLeDiff, Nat.reduceBEq, Nat.reduceDiv, Nat.reduceMod, Int.reduceToNat, Int.reduceLT, Int.reduceLE, Int.reduceAdd, Int.reduceSub, Int.reduceMul, Int.reduceEq, Int.reduceNeg, reduceCtorEq, resV, resAll, ARes.ev, LV.flat, ite_true, ite_false, exists_eq_left', exists_eq_left, keyOf, implies_true, fillC, capOf]
    exact cmp_drop rfl
  · rw [if_neg hV]
    simp (disch := omega) only [hV, ↓SXd, SXu, slBounds, ↓sop, ↓aop, ↓reduceIte, LV.cells, AOp.dst, LV.I, LV.B, LV.U, LV.S, LV.nil, Nat.reduceEqDiff, Nat.reduceAdd, Nat.reduceMul, Nat.reduceSub, Nat.reduceLeDiff, Nat.reduceBEq, Nat.reduceDiv, Nat.reduceMod, Int.reduceToNat, Int.reduceLT, Int.reduceLE, Int.reduceAdd, Int.reduceSub, Int.reduceMul, Int.reduceEq, Int.reduceNeg, reduceCtorEq, resV, resAll, ARes.ev, LV.flat, ite_true, ite_false, exists_eq_left', exists_eq_left, keyOf, implies_true, fillC, capOf]
    exact cmp_drop rfl

theorem g_found {n : Int} {M : Mem} : CallsTo PG F.impl_found [.I n] M (.tup [.I (max n 0), .B (decide (0 ≤ n))]) M := by
  refine calls_run K.impl_found rfl ?_
  simp (disch := omega) only [C.impl_found, maxV, ite_true, if_true, ↓SXd, SXu, slBounds, ↓sop, ↓aop, ↓reduceIte, LV.cells, AOp.dst, LV.I, LV.B, LV.U, LV.S, LV.nil, Nat.reduceEqDiff, Nat.reduceAdd, Nat.reduceMul, Nat.reduceSub, Nat.reduceLeDiff, Nat.reduceBEq, Nat.reduceDiv, Nat.reduceMod, Int.reduceToNat, Int.reduceLT, Int.reduceLE, Int.reduceAdd, Int.reduceSub, Int.reduceMul, Int.reduceEq, Int.reduceNeg, reduceCtorEq, resV, resAll, ARes.ev, LV.flat, ite_true, ite_false, exists_eq_left', exists_eq_left, keyOf, implies_true, fillC, capOf]
  rw [show max 0 n = max n 0 by omega]
  exact cmp_drop0 rfl

theorem all2_iff {p q lo hi : Int} : (∀ k, k < [p, q].length → lo ≤ [p, q].getD k 0 ∧ [p, q].getD k 0 ≤ hi) ↔ (lo ≤ p ∧ p ≤ hi) ∧ (lo ≤ q ∧ q ≤ hi) := by
  constructor
  · intro h; exact ⟨h 0 (by simp), h 1 (by simp)⟩
  · intro h k hk
    match k with
    | 0 => exact h.1
    | 1 => exact h.2
    | k + 2 => simp at hk; omega

theorem g_isTop2 {x y z p q s : Int} {t o t' : Nat} {cs : List Cell} {M : Mem} (h : Tri M t o cs) (hn : cs.length ≤ 1000000000) (h' : Live M t' (.row [.I p, .I q] true 1)) :
    CallsTo PG F.impl_isTop [.agg [.I x, .I y, .I z, .ref t o cs.length], .I s, .ref t' 0 2] M (.B (decide ((HeapOK x y z cs ∧ (0 ≤ p ∧ p ≤ x * y - 1)) ∧ (0 ≤ q ∧ q ≤ x * y - 1) ∧ 0 ≤ s))) M := by
  have := g_isTop (x := x) (y := y) (z := z) (s := s) (xs := [p, q]) h hn (h'.has) (by simp)
  rw [show decide (HeapOK x y z cs ∧ 0 ≤ s ∧ ∀ k, k < [p, q].length → 0 ≤ [p, q].getD k 0 ∧ [p, q].getD k 0 ≤ x * y - 1) = decide ((HeapOK x y z cs ∧ (0 ≤ p ∧ p ≤ x * y - 1)) ∧ (0 ≤ q ∧ q ≤ x * y - 1) ∧ 0 ≤ s) from decide_eq_decide.2 (by
    rw [all2_iff]
    exact ⟨fun h => ⟨⟨h.1, h.2.2.1⟩, h.2.2.2, h.2.1⟩, fun h => ⟨h.1.1, h.2.2, h.1.2, h.2.1⟩⟩)] at this
  exact this

theorem g_TopDistance {x y z p q s : Int} {t o : Nat} {cs : List Cell} {M : Mem} (h : Tri M t o cs) (hn : cs.length ≤ 1000000000) :
    CallsTo PG F.impl_TopDistance [.agg [.I x, .I y, .I z, .ref t o cs.length], .I p, .I q, .I s] M (.tup [.I (max (tdOf x y z cs p q s) 0), .B (decide (0 ≤ tdOf x y z cs p q s))]) M := by
  refine calls_run K.impl_TopDistance rfl ?_
  simp (disch := omega) only [C.impl_TopDistance, splice, ↓SXd, SXu, slBounds, ↓sop, ↓aop, ↓reduceIte, LV.cells, AOp.dst, LV.I, LV.B, LV.U, LV.S, LV.nil, Nat.reduceEqDiff, Nat.reduceAdd, Nat.reduceMul, Nat.reduceSub, Nat.reduceLeDiff, Nat.reduceBEq, Nat.reduceDiv, Nat.reduceMod, Int.reduceToNat, Int.reduceLT, Int.reduceLE, Int.reduceAdd, Int.reduceSub, Int.reduceMul, Int.reduceEq, Int.reduceNeg, reduceCtorEq, resV, resAll, ARes.ev, LV.flat, ite_true, ite_false, exists_eq_left', exists_eq_left, keyOf, implies_true, fillC, capOf]
  refine callK_of (g_isTop2 h.app hn (Live.newj (j := 1) rfl)) ?_
  simp (disch := omega) only [↓SXd, SXu, slBounds, ↓sop, ↓aop, ↓reduceIte, LV.cells, AOp.dst, LV.I, LV.B, LV.U, LV.S, LV.nil, Nat.reduceEqDiff, Nat.reduceAdd, Nat.reduceMul, Nat.reduceSub, Nat.reduceLeDiff, Nat.reduceBEq, Nat.reduceDiv, Nat.reduceMod, Int.reduceToNat, Int.reduceLT, Int.reduceLE, Int.reduceAdd, Int.reduceSub, Int.reduceMul, Int.reduceEq, Int.reduceNeg, reduceCtorEq, resV, resAll, ARes.ev, LV.flat, ite_true, ite_false, exists_eq_left', exists_eq_left, keyOf, implies_true, fillC, capOf]
  unfold tdOf
  by_cases hV : (HeapOK x y z cs ∧ (0 ≤ p ∧ p ≤ x * y - 1)) ∧ (0 ≤ q ∧ q ≤ x * y - 1) ∧ 0 ≤ s
  · obtain ⟨⟨hH, hp⟩, hq, hs⟩ := id hV
    have hb := mul_bound hH.1.1 hH.1.2.1
    have htl := topsOf_len x y cs
    have hsl := spreadOf_len (cs := cs) (s := s) hq
    rw [if_pos hV, spread_comm hp hq]
    simp (disch := omega) only [hV, ↓SXd, SXu, slBounds, ↓sop, ↓aop, ↓reduceIte, LV.cells, AOp.dst, LV.I, LV.B, LV.U, LV.S, LV.nil, Nat.reduceEqDiff, Nat.reduceAdd, Nat.reduceMul, Nat.reduceSub, Nat.reduceLeDiff, Nat.reduceBEq, Nat.reduceDiv, Nat.reduceMod, Int.reduceToNat, Int.reduceLT, Int.reduceLE, Int.reduceAdd, Int.reduceSub, Int.reduceMul, Int.reduceEq, Int.reduceNeg, reduceCtorEq, resV, resAll, ARes.ev, LV.flat, ite_true, ite_false, exists_eq_left', exists_eq_left, keyOf, implies_true, fillC, capOf]
    refine callK_of (g_top h.app hn hH) ?_
    simp (disch := omega) only [↓SXd, SXu, slBounds, ↓sop, ↓aop, ↓reduceIte, LV.cells, AOp.dst, LV.I, LV.B, LV.U, LV.S, LV.nil, Nat.reduceEqDiff, Nat.reduceAdd, Nat.reduceMul, Nat.reduceSub, Nat.reduceLeDiff, Nat.reduceBEq, Nat.reduceDiv, Nat.reduceMod, Int.reduceToNat, Int.reduceLT, Int.reduceLE, Int.reduceAdd, Int.reduceSub, Int.reduceMul, Int.reduceEq, Int.reduceNeg, reduceCtorEq, resV, resAll, ARes.ev, LV.flat, ite_true, ite_false, exists_eq_left', exists_eq_left, keyOf, implies_true, fillC, capOf]
    refine callK_of (g_distances hH.1.1 hH.1.2.1 hq (Live.newj (j := 2) rfl).has htl (topsOf_low hH)) ?_
    simp (disch := omega) only [↓SXd, SXu, slBounds, ↓sop, ↓aop, ↓reduceIte, LV.cells, AOp.dst, LV.I, LV.B, LV.U, LV.S, LV.nil, Nat.reduceEqDiff, Nat.reduceAdd, Nat.reduceMul, Nat.reduceSub, Nat.reduceLeDiff, Nat.reduceBEq, Nat.reduceDiv, Nat.reduceMod, Int.reduceToNat, Int.reduceLT, Int.reduceLE, Int.reduceAdd, Int.reduceSub, Int.reduceMul, Int.reduceEq, Int.reduceNeg, reduceCtorEq, resV, resAll, ARes.ev, LV.flat, ite_true, ite_false, exists_eq_left', exists_eq_left, keyOf, implies_true, fillC, capOf]
    rw [show farFrom (x * y).toNat (fun r => stepsOf x y (topsOf x y cs) r s) q = spreadOf x y cs q s from rfl]
    simp (disch := omega) only [intL_get, ↓SXd, SXu, slBounds, ↓sop, ↓aop, ↓reduceIte, LV.cells, AOp.dst, LV.I, LV.B, LV.U, LV.S, LV.nil, Nat.reduceEqDiff, Nat.reduceAdd, Nat.reduceMul, Nat.reduceSub, Nat.reduceLeDiff, Nat.reduceBEq, Nat.reduceDiv, Nat.reduceMod, Int.reduceToNat, Int.reduceLT, Int.reduceLE, Int.reduceAdd, Int.reduceSub, Int.reduceMul, Int.reduceEq, Int.reduceNeg, reduceCtorEq, resV, resAll, ARes.ev, LV.flat, ite_true, ite_false, exists_eq_left', exists_eq_left, keyOf, implies_true, fillC, capOf]
    refine callK_of (g_found) ?_
    simp (disch := omega) only [↓SXd, SXu, slBounds, ↓sop, ↓aop, ↓reduceIte, LV.cells, AOp.dst, LV.I, LV.B, LV.U, LV.S, LV.nil, Nat.reduceEqDiff, Nat.reduceAdd, Nat.reduceMul, Nat.reduceSub, Nat.reduceLeDiff, Nat.reduceBEq, Nat.reduceDiv, Nat.reduceMod, Int.reduceToNat, Int.reduceLT, Int.reduceLE, Int.reduceAdd, Int.reduceSub, Int.reduceMul, Int.reduceEq, Int.reduceNeg, reduceCtorEq, resV, resAll, ARes.ev, LV.flat, ite_true, ite_false, exists_eq_left', exists_eq_left, keyOf, implies_true, fillC, capOf]
    exact cmp_drop rfl
  · rw [if_neg hV]
    simp (disch := omega) only [hV, ↓SXd, SXu, slBounds, ↓sop, ↓aop, ↓reduceIte, LV.cells, AOp.dst, LV.I, LV.B, LV.U, LV.S, LV.nil, Nat.reduceEqDiff, Nat.reduceAdd, Nat.reduceMul, Nat.reduceSub, Nat.reduceLeDiff, Nat.reduceBEq, Nat.reduceDiv, Nat.reduceMod, Int.reduceToNat, Int.reduceLT, Int.reduceLE, Int.reduceAdd, Int.reduceSub, Int.reduceMul, Int.reduceEq, Int.reduceNeg, reduceCtorEq, resV, resAll, ARes.ev, LV.flat, ite_true, ite_false, exists_eq_left', exists_eq_left, keyOf, implies_true, fillC, capOf]
    exact cmp_drop rfl
end Go.Ab

/- Contracts: least reaches, both sides. -/
namespace Go.Ab
open Go
set_option linter.unusedSimpArgs false
set_option linter.unusedVariables false

theorem topsOf_low4 {x y z : Int} {cs : List Cell} (hH : HeapOK x y z cs) : ∀ k, 0 ≤ (topsOf x y cs).getD k 0 ∧ (topsOf x y cs).getD k 0 ≤ 4 := by
  have hz := hH.1.2.2
  have key : ∀ k, k ≤ cs.length → ∀ j, 0 ≤ ((cs.take k).foldl (topStep y) (List.replicate (x * y).toNat 0)).getD j 0 ∧ ((cs.take k).foldl (topStep y) (List.replicate (x * y).toNat 0)).getD j 0 ≤ 4 := by
    intro k
    induction k with
    | zero =>
      intro _ j
      simp only [List.take_zero, List.foldl_nil, List.getD_eq_getElem?_getD, List.getElem?_replicate]
      split <;> simp
    | succ k ih =>
      intro hk j
      rw [take_succ_foldl _ _ _ _ default (by omega)]
      have h1 := ih (by omega)
      obtain ⟨_, _, hc⟩ := hH.cell (k := k) (by omega)
      generalize (cs.take k).foldl (topStep y) (List.replicate (x * y).toNat 0) = out at h1 ⊢
      unfold topStep
      rw [getD_set]
      have h2 := h1 ((cs.getD k default).a * y + (cs.getD k default).b).toNat
      have h3 := h1 j
      split <;> omega
  intro k
  have := key cs.length (Nat.le_refl _) k
  rw [List.take_length] at this
  exact this

/-- Column q is reached from p at the reach s. -/
def Near' (x y : Int) (cs : List Cell) (p q : Int) (s : Nat) : Prop := 0 ≤ (spreadOf x y cs p s).getD q.toNat 0
theorem near4 {x y z p q : Int} {cs : List Cell} {s : Nat} (hH : HeapOK x y z cs) (hp : 0 ≤ p ∧ p ≤ x * y - 1) (hq : 0 ≤ q ∧ q ≤ x * y - 1) (hs : 4 ≤ s) : Near' x y cs p q s := by
  unfold Near' spreadOf
  rw [show (fun r => stepsOf x y (topsOf x y cs) r (s : Int)) = nexts x y from funext fun r => steps_wide (by omega) (topsOf_low4 hH)]
  exact grid_one hH.1.1 hH.1.2.1 hp hq

/-- What LeastReach answers. -/
noncomputable def reachOf (x y z : Int) (cs : List Cell) (p q : Int) : Option Nat := by
  classical
  exact if (HeapOK x y z cs ∧ (0 ≤ p ∧ p ≤ x * y - 1)) ∧ (0 ≤ q ∧ q ≤ x * y - 1) then some (leastN (Near' x y cs p q)) else none

theorem h_sLeastReach {x y z p q : Int} {t o : Nat} {cs : List Cell} {M : Mem} (h : Tri M t o cs) (hn : cs.length ≤ 1000000000) :
    CallsTo PG F.spec_LeastReach [.agg [.I x, .I y, .I z, .ref t o cs.length], .I p, .I q] M (.tup [.I ((reachOf x y z cs p q).getD 0 : Nat), .B (reachOf x y z cs p q).isSome]) M := by
  refine calls_run K.spec_LeastReach rfl ?_
  simp (disch := omega) only [C.spec_LeastReach, ↓SXd, SXu, slBounds, ↓sop, ↓aop, ↓reduceIte, LV.cells, AOp.dst, LV.I, LV.B, LV.U, LV.S, LV.nil, Nat.reduceEqDiff, Nat.reduceAdd, Nat.reduceMul, Nat.reduceSub, Nat.reduceLeDiff, Nat.reduceBEq, Nat.reduceDiv, Nat.reduceMod, Int.reduceToNat, Int.reduceLT, Int.reduceLE, Int.reduceAdd, Int.reduceSub, Int.reduceMul, Int.reduceEq, Int.reduceNeg, reduceCtorEq, resV, resAll, ARes.ev, LV.flat, ite_true, ite_false, exists_eq_left', exists_eq_left, keyOf, implies_true, fillC, capOf]
  refine callK_of (h_l10Both h.app hn) ?_
  simp (disch := omega) only [↓SXd, SXu, slBounds, ↓sop, ↓aop, ↓reduceIte, LV.cells, AOp.dst, LV.I, LV.B, LV.U, LV.S, LV.nil, Nat.reduceEqDiff, Nat.reduceAdd, Nat.reduceMul, Nat.reduceSub, Nat.reduceLeDiff, Nat.reduceBEq, Nat.reduceDiv, Nat.reduceMod, Int.reduceToNat, Int.reduceLT, Int.reduceLE, Int.reduceAdd, Int.reduceSub, Int.reduceMul, Int.reduceEq, Int.reduceNeg, reduceCtorEq, resV, resAll, ARes.ev, LV.flat, ite_true, ite_false, exists_eq_left', exists_eq_left, keyOf, implies_true, fillC, capOf]
  unfold reachOf
  by_cases hV : (HeapOK x y z cs ∧ (0 ≤ p ∧ p ≤ x * y - 1)) ∧ (0 ≤ q ∧ q ≤ x * y - 1)
  · obtain ⟨⟨hH, hp⟩, hq⟩ := id hV
    have hb := mul_bound hH.1.1 hH.1.2.1
    rw [if_pos hV]
    simp (disch := omega) only [hH, hp, hq, ↓SXd, SXu, slBounds, ↓sop, ↓aop, ↓reduceIte, LV.cells, AOp.dst, LV.I, LV.B, LV.U, LV.S, LV.nil, Nat.reduceEqDiff, Nat.reduceAdd, Nat.reduceMul, Nat.reduceSub, Nat.reduceLeDiff, Nat.reduceBEq, Nat.reduceDiv, Nat.reduceMod, Int.reduceToNat, Int.reduceLT, Int.reduceLE, Int.reduceAdd, Int.reduceSub, Int.reduceMul, Int.reduceEq, Int.reduceNeg, reduceCtorEq, resV, resAll, ARes.ev, LV.flat, ite_true, ite_false, exists_eq_left', exists_eq_left, keyOf, implies_true, fillC, capOf]
    refine ev_loop (fun m fr M' => ∃ k : Nat, k + m = 4 ∧ Pre M M' ∧ Live M' M.length (.row [.I x, .I y, .I z, .ref t o cs.length] true 0) ∧ fr 1 = .I p ∧ fr 2 = .I q ∧ fr 3 = .ptr M.length 0 ∧ fr 8 = .I k ∧ ∀ j, j < k → ¬ Near' x y cs p q j) 4
      ⟨0, rfl, Pre.app _ _, Live.new, rfl, rfl, rfl, rfl, by omega⟩ ?_
    rintro m fr M' ⟨k, hk, hpre, hbox, h1, h2, h3, h8, hl⟩
    have hsl := spreadOf_len (cs := cs) (s := k) hp
    simp (disch := omega) only [h1, h2, h3, h8, hbox.cells, ↓SXd, SXu, slBounds, ↓sop, ↓aop, ↓reduceIte, LV.cells, AOp.dst, LV.I, LV.B, LV.U, LV.S, LV.nil, Nat.reduceEqDiff, Nat.reduceAdd, Nat.reduceMul, Nat.reduceSub, Nat.reduceLeDiff, Nat.reduceBEq, Nat.reduceDiv, Nat.reduceMod, Int.reduceToNat, Int.reduceLT, Int.reduceLE, Int.reduceAdd, Int.reduceSub, Int.reduceMul, Int.reduceEq, Int.reduceNeg, reduceCtorEq, resV, resAll, ARes.ev, LV.flat, ite_true, ite_false, exists_eq_left', exists_eq_left, keyOf, implies_true, fillC, capOf]
    refine callK_of (h_l10Spread (h.pre hpre) hn hH hp) ?_
    simp (disch := omega) only [h1, h2, h3, h8, intL_get, ↓SXd, SXu, slBounds, ↓sop, ↓aop, ↓reduceIte, LV.cells, AOp.dst, LV.I, LV.B, LV.U, LV.S, LV.nil, Nat.reduceEqDiff, Nat.reduceAdd, Nat.reduceMul, Nat.reduceSub, Nat.reduceLeDiff, Nat.reduceBEq, Nat.reduceDiv, Nat.reduceMod, Int.reduceToNat, Int.reduceLT, Int.reduceLE, Int.reduceAdd, Int.reduceSub, Int.reduceMul, Int.reduceEq, Int.reduceNeg, reduceCtorEq, resV, resAll, ARes.ev, LV.flat, ite_true, ite_false, exists_eq_left', exists_eq_left, keyOf, implies_true, fillC, capOf]
    refine condC_dec (fun hlt => ?_) (fun hlt => ?_)
    · have hk4 : k < 4 := by
        rcases Nat.lt_or_ge k 4 with h4 | h4
        · exact h4
        · have := near4 (cs := cs) hH hp hq h4; unfold Near' at this; omega
      simp (disch := omega) only [h1, h2, h3, h8, ↓SXd, SXu, slBounds, ↓sop, ↓aop, ↓reduceIte, LV.cells, AOp.dst, LV.I, LV.B, LV.U, LV.S, LV.nil, Nat.reduceEqDiff, Nat.reduceAdd, Nat.reduceMul, Nat.reduceSub, Nat.reduceLeDiff, Nat.reduceBEq, Nat.reduceDiv, Nat.reduceMod, Int.reduceToNat, Int.reduceLT, Int.reduceLE, Int.reduceAdd, Int.reduceSub, Int.reduceMul, Int.reduceEq, Int.reduceNeg, reduceCtorEq, resV, resAll, ARes.ev, LV.flat, ite_true, ite_false, exists_eq_left', exists_eq_left, keyOf, implies_true, fillC, capOf]
      refine ⟨m - 1, by omega, k + 1, by omega, hpre.app', hbox.app, h1, h2, h3, eqI (natI _), fun j hj => ?_⟩
      rcases Nat.lt_or_ge j k with h4 | h4
      · exact hl j h4
      · rw [show j = k by omega]; unfold Near'; omega
    · simp (disch := omega) only [h1, h2, h3, h8, ↓SXd, SXu, slBounds, ↓sop, ↓aop, ↓reduceIte, LV.cells, AOp.dst, LV.I, LV.B, LV.U, LV.S, LV.nil, Nat.reduceEqDiff, Nat.reduceAdd, Nat.reduceMul, Nat.reduceSub, Nat.reduceLeDiff, Nat.reduceBEq, Nat.reduceDiv, Nat.reduceMod, Int.reduceToNat, Int.reduceLT, Int.reduceLE, Int.reduceAdd, Int.reduceSub, Int.reduceMul, Int.reduceEq, Int.reduceNeg, reduceCtorEq, resV, resAll, ARes.ev, LV.flat, ite_true, ite_false, exists_eq_left', exists_eq_left, keyOf, implies_true, fillC, capOf]
      rw [leastN_eq (k := k) (show Near' x y cs p q k by unfold Near'; omega) hl]
      exact cmp_pre hpre.app' rfl
  · rw [if_neg hV]
    simp (disch := omega) only [hV, ↓SXd, SXu, slBounds, ↓sop, ↓aop, ↓reduceIte, LV.cells, AOp.dst, LV.I, LV.B, LV.U, LV.S, LV.nil, Nat.reduceEqDiff, Nat.reduceAdd, Nat.reduceMul, Nat.reduceSub, Nat.reduceLeDiff, Nat.reduceBEq, Nat.reduceDiv, Nat.reduceMod, Int.reduceToNat, Int.reduceLT, Int.reduceLE, Int.reduceAdd, Int.reduceSub, Int.reduceMul, Int.reduceEq, Int.reduceNeg, reduceCtorEq, resV, resAll, ARes.ev, LV.flat, ite_true, ite_false, exists_eq_left', exists_eq_left, keyOf, implies_true, fillC, capOf]
    exact cmp_drop rfl

theorem g_LeastReach {x y z p q : Int} {t o : Nat} {cs : List Cell} {M : Mem} (h : Tri M t o cs) (hn : cs.length ≤ 1000000000) :
    CallsTo PG F.impl_LeastReach [.agg [.I x, .I y, .I z, .ref t o cs.length], .I p, .I q] M (.tup [.I ((reachOf x y z cs p q).getD 0 : Nat), .B (reachOf x y z cs p q).isSome]) M := by
  refine calls_run K.impl_LeastReach rfl ?_
  simp (disch := omega) only [C.impl_LeastReach, splice, ↓SXd, SXu, slBounds, ↓sop, ↓aop, ↓reduceIte, LV.cells, AOp.dst, LV.I, LV.B, LV.U, LV.S, LV.nil, Nat.reduceEqDiff, Nat.reduceAdd, Nat.reduceMul, Nat.reduceSub, Nat.reduceLeDiff, Nat.reduceBEq, Nat.reduceDiv, Nat.reduceMod, Int.reduceToNat, Int.reduceLT, Int.reduceLE, Int.reduceAdd, Int.reduceSub, Int.reduceMul, Int.reduceEq, Int.reduceNeg, reduceCtorEq, resV, resAll, ARes.ev, LV.flat, ite_true, ite_false, exists_eq_left', exists_eq_left, keyOf, implies_true, fillC, capOf]
  refine callK_of (g_isTop2 h.app hn (Live.newj (j := 1) rfl)) ?_
  simp (disch := omega) only [↓SXd, SXu, slBounds, ↓sop, ↓aop, ↓reduceIte, LV.cells, AOp.dst, LV.I, LV.B, LV.U, LV.S, LV.nil, Nat.reduceEqDiff, Nat.reduceAdd, Nat.reduceMul, Nat.reduceSub, Nat.reduceLeDiff, Nat.reduceBEq, Nat.reduceDiv, Nat.reduceMod, Int.reduceToNat, Int.reduceLT, Int.reduceLE, Int.reduceAdd, Int.reduceSub, Int.reduceMul, Int.reduceEq, Int.reduceNeg, reduceCtorEq, resV, resAll, ARes.ev, LV.flat, ite_true, ite_false, exists_eq_left', exists_eq_left, keyOf, implies_true, fillC, capOf]
  unfold reachOf
  by_cases hV : (HeapOK x y z cs ∧ (0 ≤ p ∧ p ≤ x * y - 1)) ∧ (0 ≤ q ∧ q ≤ x * y - 1)
  · obtain ⟨⟨hH, hp⟩, hq⟩ := id hV
    have hb := mul_bound hH.1.1 hH.1.2.1
    have htl := topsOf_len x y cs
    rw [if_pos hV]
    simp (disch := omega) only [hH, hp, hq, ↓SXd, SXu, slBounds, ↓sop, ↓aop, ↓reduceIte, LV.cells, AOp.dst, LV.I, LV.B, LV.U, LV.S, LV.nil, Nat.reduceEqDiff, Nat.reduceAdd, Nat.reduceMul, Nat.reduceSub, Nat.reduceLeDiff, Nat.reduceBEq, Nat.reduceDiv, Nat.reduceMod, Int.reduceToNat, Int.reduceLT, Int.reduceLE, Int.reduceAdd, Int.reduceSub, Int.reduceMul, Int.reduceEq, Int.reduceNeg, reduceCtorEq, resV, resAll, ARes.ev, LV.flat, ite_true, ite_false, exists_eq_left', exists_eq_left, keyOf, implies_true, fillC, capOf]
    refine ev_loop (fun m fr M' => ∃ k : Nat, k + m = 4 ∧ Pre M M' ∧ Live M' M.length (.row [.I x, .I y, .I z, .ref t o cs.length] true 0) ∧ fr 1 = .I p ∧ fr 2 = .I q ∧ fr 3 = .ptr M.length 0 ∧ fr 8 = .I k ∧ ∀ j, j < k → ¬ Near' x y cs p q j) 4
      ⟨0, rfl, Pre.app _ _, Live.new, rfl, rfl, rfl, rfl, by omega⟩ ?_
    rintro m fr M' ⟨k, hk, hpre, hbox, h1, h2, h3, h8, hl⟩
    have hsl := spreadOf_len (cs := cs) (s := k) hq
    simp (disch := omega) only [h1, h2, h3, h8, hbox.cells, ↓SXd, SXu, slBounds, ↓sop, ↓aop, ↓reduceIte, LV.cells, AOp.dst, LV.I, LV.B, LV.U, LV.S, LV.nil, Nat.reduceEqDiff, Nat.reduceAdd, Nat.reduceMul, Nat.reduceSub, Nat.reduceLeDiff, Nat.reduceBEq, Nat.reduceDiv, Nat.reduceMod, Int.reduceToNat, Int.reduceLT, Int.reduceLE, Int.reduceAdd, Int.reduceSub, Int.reduceMul, Int.reduceEq, Int.reduceNeg, reduceCtorEq, resV, resAll, ARes.ev, LV.flat, ite_true, ite_false, exists_eq_left', exists_eq_left, keyOf, implies_true, fillC, capOf]
    refine callK_of (g_top (h.pre hpre) hn hH) ?_
    simp (disch := omega) only [h1, h2, h3, h8, ↓SXd, SXu, slBounds, ↓sop, ↓aop, ↓reduceIte, LV.cells, AOp.dst, LV.I, LV.B, LV.U, LV.S, LV.nil, Nat.reduceEqDiff, Nat.reduceAdd, Nat.reduceMul, Nat.reduceSub, Nat.reduceLeDiff, Nat.reduceBEq, Nat.reduceDiv, Nat.reduceMod, Int.reduceToNat, Int.reduceLT, Int.reduceLE, Int.reduceAdd, Int.reduceSub, Int.reduceMul, Int.reduceEq, Int.reduceNeg, reduceCtorEq, resV, resAll, ARes.ev, LV.flat, ite_true, ite_false, exists_eq_left', exists_eq_left, keyOf, implies_true, fillC, capOf]
    refine callK_of (g_distances hH.1.1 hH.1.2.1 hq (Live.new).has htl (topsOf_low hH)) ?_
    simp (disch := omega) only [h1, h2, h3, h8, ↓SXd, SXu, slBounds, ↓sop, ↓aop, ↓reduceIte, LV.cells, AOp.dst, LV.I, LV.B, LV.U, LV.S, LV.nil, Nat.reduceEqDiff, Nat.reduceAdd, Nat.reduceMul, Nat.reduceSub, Nat.reduceLeDiff, Nat.reduceBEq, Nat.reduceDiv, Nat.reduceMod, Int.reduceToNat, Int.reduceLT, Int.reduceLE, Int.reduceAdd, Int.reduceSub, Int.reduceMul, Int.reduceEq, Int.reduceNeg, reduceCtorEq, resV, resAll, ARes.ev, LV.flat, ite_true, ite_false, exists_eq_left', exists_eq_left, keyOf, implies_true, fillC, capOf]
    rw [show farFrom (x * y).toNat (fun r => stepsOf x y (topsOf x y cs) r k) q = spreadOf x y cs q k from rfl]
    simp (disch := omega) only [intL_get, ↓SXd, SXu, slBounds, ↓sop, ↓aop, ↓reduceIte, LV.cells, AOp.dst, LV.I, LV.B, LV.U, LV.S, LV.nil, Nat.reduceEqDiff, Nat.reduceAdd, Nat.reduceMul, Nat.reduceSub, Nat.reduceLeDiff, Nat.reduceBEq, Nat.reduceDiv, Nat.reduceMod, Int.reduceToNat, Int.reduceLT, Int.reduceLE, Int.reduceAdd, Int.reduceSub, Int.reduceMul, Int.reduceEq, Int.reduceNeg, reduceCtorEq, resV, resAll, ARes.ev, LV.flat, ite_true, ite_false, exists_eq_left', exists_eq_left, keyOf, implies_true, fillC, capOf]
    rw [spread_comm hq hp]
    refine condC_dec (fun hlt => ?_) (fun hlt => ?_)
    · have hk4 : k < 4 := by
        rcases Nat.lt_or_ge k 4 with h4 | h4
        · exact h4
        · have := near4 (cs := cs) hH hp hq h4; unfold Near' at this; omega
      simp (disch := omega) only [h1, h2, h3, h8, ↓SXd, SXu, slBounds, ↓sop, ↓aop, ↓reduceIte, LV.cells, AOp.dst, LV.I, LV.B, LV.U, LV.S, LV.nil, Nat.reduceEqDiff, Nat.reduceAdd, Nat.reduceMul, Nat.reduceSub, Nat.reduceLeDiff, Nat.reduceBEq, Nat.reduceDiv, Nat.reduceMod, Int.reduceToNat, Int.reduceLT, Int.reduceLE, Int.reduceAdd, Int.reduceSub, Int.reduceMul, Int.reduceEq, Int.reduceNeg, reduceCtorEq, resV, resAll, ARes.ev, LV.flat, ite_true, ite_false, exists_eq_left', exists_eq_left, keyOf, implies_true, fillC, capOf]
      refine ⟨m - 1, by omega, k + 1, by omega, hpre.app', hbox.app, h1, h2, h3, eqI (natI _), fun j hj => ?_⟩
      rcases Nat.lt_or_ge j k with h4 | h4
      · exact hl j h4
      · rw [show j = k by omega]; unfold Near'; omega
    · simp (disch := omega) only [h1, h2, h3, h8, ↓SXd, SXu, slBounds, ↓sop, ↓aop, ↓reduceIte, LV.cells, AOp.dst, LV.I, LV.B, LV.U, LV.S, LV.nil, Nat.reduceEqDiff, Nat.reduceAdd, Nat.reduceMul, Nat.reduceSub, Nat.reduceLeDiff, Nat.reduceBEq, Nat.reduceDiv, Nat.reduceMod, Int.reduceToNat, Int.reduceLT, Int.reduceLE, Int.reduceAdd, Int.reduceSub, Int.reduceMul, Int.reduceEq, Int.reduceNeg, reduceCtorEq, resV, resAll, ARes.ev, LV.flat, ite_true, ite_false, exists_eq_left', exists_eq_left, keyOf, implies_true, fillC, capOf]
      rw [leastN_eq (k := k) (show Near' x y cs p q k by unfold Near'; omega) hl]
      exact cmp_pre hpre.app' rfl
  · rw [if_neg hV]
    simp (disch := omega) only [hV, ↓SXd, SXu, slBounds, ↓sop, ↓aop, ↓reduceIte, LV.cells, AOp.dst, LV.I, LV.B, LV.U, LV.S, LV.nil, Nat.reduceEqDiff, Nat.reduceAdd, Nat.reduceMul, Nat.reduceSub, Nat.reduceLeDiff, Nat.reduceBEq, Nat.reduceDiv, Nat.reduceMod, Int.reduceToNat, Int.reduceLT, Int.reduceLE, Int.reduceAdd, Int.reduceSub, Int.reduceMul, Int.reduceEq, Int.reduceNeg, reduceCtorEq, resV, resAll, ARes.ev, LV.flat, ite_true, ite_false, exists_eq_left', exists_eq_left, keyOf, implies_true, fillC, capOf]
    exact cmp_drop rfl
end Go.Ab

/- The law of LeastReach. -/
namespace Go.Ab
open Go
set_option linter.unusedSimpArgs false
set_option linter.unusedVariables false
set_option maxRecDepth 20000

theorem l_LeastReach {x y z p q : Int} {t o : Nat} {cs : List Cell} {M : Mem} (h : Tri M t o cs) (hn0 : cs.length ≤ 9223372036854775807) :
    CallsR PG F.laws_FnExactLeastReach [.agg [.I x, .I y, .I z, .ref t o cs.length], .I p, .I q] M fun v _ => v = .B true := by
  have ht := h.lt
  refine callsR_run K.laws_FnExactLeastReach rfl ?_
  simp (disch := omega) only [C.laws_FnExactLeastReach, ↓SXd, SXu, slBounds, ↓sop, ↓aop, ↓reduceIte, LV.cells, AOp.dst, LV.I, LV.B, LV.U, LV.S, LV.nil, Nat.reduceEqDiff, Nat.reduceAdd, Nat.reduceMul, Nat.reduceSub, Nat.reduceLeDiff, Nat.reduceBEq, Nat.reduceDiv, Nat.reduceMod, Int.reduceToNat, Int.reduceLT, Int.reduceLE, Int.reduceAdd, Int.reduceSub, Int.reduceMul, Int.reduceEq, Int.reduceNeg, reduceCtorEq, resV, resAll, ARes.ev, LV.flat, ite_true, ite_false, exists_eq_left', exists_eq_left, keyOf, implies_true, fillC, capOf]
  refine callK_of (h_szHeap (by omega) (by omega) (by omega)) ?_
  simp (disch := omega) only [↓SXd, SXu, slBounds, ↓sop, ↓aop, ↓reduceIte, LV.cells, AOp.dst, LV.I, LV.B, LV.U, LV.S, LV.nil, Nat.reduceEqDiff, Nat.reduceAdd, Nat.reduceMul, Nat.reduceSub, Nat.reduceLeDiff, Nat.reduceBEq, Nat.reduceDiv, Nat.reduceMod, Int.reduceToNat, Int.reduceLT, Int.reduceLE, Int.reduceAdd, Int.reduceSub, Int.reduceMul, Int.reduceEq, Int.reduceNeg, reduceCtorEq, resV, resAll, ARes.ev, LV.flat, ite_true, ite_false, exists_eq_left', exists_eq_left, keyOf, implies_true, fillC, capOf]
  by_cases hl : (1048576 : Int) < (cs.length : Nat)
  · rw [if_pos hl]
    simp (disch := omega) only [Int.reduceLT, ↓SXd, SXu, slBounds, ↓sop, ↓aop, ↓reduceIte, LV.cells, AOp.dst, LV.I, LV.B, LV.U, LV.S, LV.nil, Nat.reduceEqDiff, Nat.reduceAdd, Nat.reduceMul, Nat.reduceSub, Nat.reduceLeDiff, Nat.reduceBEq, Nat.reduceDiv, Nat.reduceMod, Int.reduceToNat, Int.reduceLT, Int.reduceLE, Int.reduceAdd, Int.reduceSub, Int.reduceMul, Int.reduceEq, Int.reduceNeg, reduceCtorEq, resV, resAll, ARes.ev, LV.flat, ite_true, ite_false, exists_eq_left', exists_eq_left, keyOf, implies_true, fillC, capOf]
    rfl
  · rw [if_neg hl]
    have hn : cs.length ≤ 1000000000 := by omega
    simp (disch := omega) only [↓SXd, SXu, slBounds, ↓sop, ↓aop, ↓reduceIte, LV.cells, AOp.dst, LV.I, LV.B, LV.U, LV.S, LV.nil, Nat.reduceEqDiff, Nat.reduceAdd, Nat.reduceMul, Nat.reduceSub, Nat.reduceLeDiff, Nat.reduceBEq, Nat.reduceDiv, Nat.reduceMod, Int.reduceToNat, Int.reduceLT, Int.reduceLE, Int.reduceAdd, Int.reduceSub, Int.reduceMul, Int.reduceEq, Int.reduceNeg, reduceCtorEq, resV, resAll, ARes.ev, LV.flat, ite_true, ite_false, exists_eq_left', exists_eq_left, keyOf, implies_true, fillC, capOf]
    refine callK_of (h_toHeap h.app hn) ?_
    simp (disch := omega) only [↓SXd, SXu, slBounds, ↓sop, ↓aop, ↓reduceIte, LV.cells, AOp.dst, LV.I, LV.B, LV.U, LV.S, LV.nil, Nat.reduceEqDiff, Nat.reduceAdd, Nat.reduceMul, Nat.reduceSub, Nat.reduceLeDiff, Nat.reduceBEq, Nat.reduceDiv, Nat.reduceMod, Int.reduceToNat, Int.reduceLT, Int.reduceLE, Int.reduceAdd, Int.reduceSub, Int.reduceMul, Int.reduceEq, Int.reduceNeg, reduceCtorEq, resV, resAll, ARes.ev, LV.flat, ite_true, ite_false, exists_eq_left', exists_eq_left, keyOf, implies_true, fillC, capOf]
    refine callK_of (h_sLeastReach (Live.newj (j := 1) (b := .row (triL cs) true 3) rfl).has hn) ?_
    simp (disch := omega) only [↓SXd, SXu, slBounds, ↓sop, ↓aop, ↓reduceIte, LV.cells, AOp.dst, LV.I, LV.B, LV.U, LV.S, LV.nil, Nat.reduceEqDiff, Nat.reduceAdd, Nat.reduceMul, Nat.reduceSub, Nat.reduceLeDiff, Nat.reduceBEq, Nat.reduceDiv, Nat.reduceMod, Int.reduceToNat, Int.reduceLT, Int.reduceLE, Int.reduceAdd, Int.reduceSub, Int.reduceMul, Int.reduceEq, Int.reduceNeg, reduceCtorEq, resV, resAll, ARes.ev, LV.flat, ite_true, ite_false, exists_eq_left', exists_eq_left, keyOf, implies_true, fillC, capOf]
    refine callK_of (h_toHeap h.app hn) ?_
    simp (disch := omega) only [↓SXd, SXu, slBounds, ↓sop, ↓aop, ↓reduceIte, LV.cells, AOp.dst, LV.I, LV.B, LV.U, LV.S, LV.nil, Nat.reduceEqDiff, Nat.reduceAdd, Nat.reduceMul, Nat.reduceSub, Nat.reduceLeDiff, Nat.reduceBEq, Nat.reduceDiv, Nat.reduceMod, Int.reduceToNat, Int.reduceLT, Int.reduceLE, Int.reduceAdd, Int.reduceSub, Int.reduceMul, Int.reduceEq, Int.reduceNeg, reduceCtorEq, resV, resAll, ARes.ev, LV.flat, ite_true, ite_false, exists_eq_left', exists_eq_left, keyOf, implies_true, fillC, capOf]
    refine callK_of (g_LeastReach (Live.newj (j := 2) (b := .row (triL cs) true 3) rfl).has hn) ?_
    simp (disch := omega) only [↓SXd, SXu, slBounds, ↓sop, ↓aop, ↓reduceIte, LV.cells, AOp.dst, LV.I, LV.B, LV.U, LV.S, LV.nil, Nat.reduceEqDiff, Nat.reduceAdd, Nat.reduceMul, Nat.reduceSub, Nat.reduceLeDiff, Nat.reduceBEq, Nat.reduceDiv, Nat.reduceMod, Int.reduceToNat, Int.reduceLT, Int.reduceLE, Int.reduceAdd, Int.reduceSub, Int.reduceMul, Int.reduceEq, Int.reduceNeg, reduceCtorEq, resV, resAll, ARes.ev, LV.flat, ite_true, ite_false, exists_eq_left', exists_eq_left, keyOf, implies_true, fillC, capOf]
    refine callK_of (h_toHeap h.app hn) ?_
    simp (disch := omega) only [↓SXd, SXu, slBounds, ↓sop, ↓aop, ↓reduceIte, LV.cells, AOp.dst, LV.I, LV.B, LV.U, LV.S, LV.nil, Nat.reduceEqDiff, Nat.reduceAdd, Nat.reduceMul, Nat.reduceSub, Nat.reduceLeDiff, Nat.reduceBEq, Nat.reduceDiv, Nat.reduceMod, Int.reduceToNat, Int.reduceLT, Int.reduceLE, Int.reduceAdd, Int.reduceSub, Int.reduceMul, Int.reduceEq, Int.reduceNeg, reduceCtorEq, resV, resAll, ARes.ev, LV.flat, ite_true, ite_false, exists_eq_left', exists_eq_left, keyOf, implies_true, fillC, capOf]
    have he := h_eqHeap (x := x) (y := y) (z := z) (x' := x) (y' := y) (z' := z) (cs := cs) (ds := cs) (t := M.length + 2) (o := 0) (t' := M.length + 4) (o' := 0) (M := M ++ [some (.row [.I x, .I y, .I z, .ref t o cs.length] true 0), some (.row (triL cs) true 3), some (.row (triL cs) true 3), some (.row [.I x, .I y, .I z, .ref (M.length + 2) 0 cs.length] true 0), some (.row (triL cs) true 3)])
      (Live.newj (j := 2) rfl).has (Live.newj (j := 4) rfl).has hn hn
    rw [decide_eq_true (by simp)] at he
    refine callK_of he ?_
    simp (disch := omega) only [↓SXd, SXu, slBounds, ↓sop, ↓aop, ↓reduceIte, LV.cells, AOp.dst, LV.I, LV.B, LV.U, LV.S, LV.nil, Nat.reduceEqDiff, Nat.reduceAdd, Nat.reduceMul, Nat.reduceSub, Nat.reduceLeDiff, Nat.reduceBEq, Nat.reduceDiv, Nat.reduceMod, Int.reduceToNat, Int.reduceLT, Int.reduceLE, Int.reduceAdd, Int.reduceSub, Int.reduceMul, Int.reduceEq, Int.reduceNeg, reduceCtorEq, resV, resAll, ARes.ev, LV.flat, ite_true, ite_false, exists_eq_left', exists_eq_left, keyOf, implies_true, fillC, capOf]
    rfl
end Go.Ab

/- From the abstract machine to a row: a law that is called with what came in. -/
namespace Go.Ab
open Go Go.RowKit

/-- A memory of which nothing is ours. -/
def NoOwn (M : Mem) : Prop := ∀ t b, Live M t b → b.isOwn = false

theorem law_calls {P : Program} {f : FuncId} {args : List LV} {M N : Mem} {b : Bool} {G : Gh} {w : World} {xs : List Value} (hc : CallsTo P f args M (.B b) N) (hi : Inv G M w) (hn : NoOwn M) (hx : All2 (VR G) args xs) :
    Calls P f xs.toArray w fun e w' => e = .returned (.bool b) ∧ Below w.heap.size w w' := by
  refine (hc.2 G w xs hi hx).mono ?_
  rintro e w' ⟨v, N, x, G', ⟨rfl, rfl⟩, rfl, h1, h2, h3⟩
  refine ⟨by rw [(vr_val h1).1], h3.os, h3.tape, h3.output, h3.size, fun k hk => h3.keep k hk ?_⟩
  rintro ⟨t, blk, β, hl, ho, _⟩
  rw [hn t blk hl] at ho; cases ho

theorem law_callsR {P : Program} {f : FuncId} {args : List LV} {M : Mem} {b : Bool} {G : Gh} {w : World} {xs : List Value} (hc : CallsR P f args M fun v _ => v = .B b) (hi : Inv G M w) (hn : NoOwn M) (hx : All2 (VR G) args xs) :
    Calls P f xs.toArray w fun e w' => e = .returned (.bool b) ∧ Below w.heap.size w w' := by
  refine (hc.2 G w xs hi hx).mono ?_
  rintro e w' ⟨v, N, x, G', rfl, rfl, h1, h2, h3⟩
  refine ⟨by rw [(vr_val h1).1], h3.os, h3.tape, h3.output, h3.size, fun k hk => h3.keep k hk ?_⟩
  rintro ⟨t, blk, β, hl, ho, _⟩
  rw [hn t blk hl] at ho; cases ho
end Go.Ab

/- A heap that came in, opened. -/
namespace Go.Ab
open Go Go.RowKit

section
variable {H : Type} {enc : TypeId × Value → H} {P : Program} {w : World} {held : Bool}

/-- What the abstract machine is told of a slice of cells that came in. -/
def RowOf (w : World) (a : Option Addr) (len cap : Nat) (cs : List Cell) : Prop :=
  cs.length = len ∧ len ≤ cap ∧ cap ≤ maxLen ∧ (cap = 0 ∨ ∃ b o c e fz, a = some ⟨b, o, none⟩ ∧ w.heap[b]? = some (.cells c e fz) ∧ ∀ i, i < len → ∀ j v, (cs.getD i default).row[j]? = some (.I v) → c[o + (i * 3 + j)]? = some (.int .i64 v))

theorem cell_heap {a : Addr} {v : Value} (h : w.cell? a = some v) : ∃ b o c e fz, a = ⟨b, o, none⟩ ∧ w.heap[b]? = some (.cells c e fz) ∧ c[o]? = some v := by
  unfold World.cell? at h
  split at h
  · rename_i c e fz hh
    split at h
    · cases h
    · rename_i hs
      obtain ⟨b, o, s⟩ := a
      cases s with
      | some s => simp at hs
      | none => exact ⟨b, o, c, e, fz, rfl, hh, h⟩
  · cases h

theorem open_cells {ts ta ti : TypeId} {fuel : Nat} {cs : List Value} {x : DataW H × List MemPlace} (hts : P.underlying ts = some (.slice ta)) (hta : P.underlying ta = some (.array 3 ti)) (hti : P.underlying ti = some (.int .i64)) (hca : P.cellsOf ta = 3) (hci : P.cellsOf ti = 1)
    (h : DataW.trod enc P w 0 (fun _ => true) held fuel ts cs = some x) : ∃ a len cap ds, cs = [.slice a len cap] ∧ RowOf w a len cap ds := by
  rcases Go.Deep.open_slice hts h with ⟨rfl, _⟩ | ⟨a, len, cap, m, n, D, Pl, rfl, _, hl, hm, hme, _, hel⟩
  · exact ⟨none, 0, 0, [], rfl, rfl, Nat.le_refl _, Nat.zero_le _, .inl rfl⟩
  · have hmc : m = cap := by simpa using hme
    subst hmc
    have hel' : ∀ i, i < m → ∃ z : Cell, ∀ j v, z.row[j]? = some (.I v) → w.cell? (a.add (i * 3 + j)) = some (.int .i64 v) := fun i hi => by
      obtain ⟨cs', h1, h2⟩ := hel i hi
      rw [hca] at h1
      have r3 : List.range 3 = [0, 1, 2] := rfl
      simp only [World.cells?, Nat.zero_le, if_true, r3, List.mapM_cons, List.mapM_nil, Option.bind_eq_bind, Option.bind_eq_some_iff, Option.pure_def, Option.some.injEq] at h1
      obtain ⟨c0, e0, r, ⟨c1, e1, r', ⟨c2, e2, r'', rfl, rfl⟩, rfl⟩, rfl⟩ := h1
      obtain ⟨y0, y1, y2, n', _, k0, k1, k2⟩ := Go.ChangeShapes.trod_array3 hta hci h2
      obtain ⟨z0, q0, _, _⟩ := DataW.trod_int hti k0
      obtain ⟨z1, q1, _, _⟩ := DataW.trod_int hti k1
      obtain ⟨z2, q2, _, _⟩ := DataW.trod_int hti k2
      simp only [List.cons.injEq, and_true] at q0 q1 q2
      subst q0; subst q1; subst q2
      simp only [Go.Deep.add_add] at e0 e1 e2
      refine ⟨⟨z0, z1, z2⟩, fun j v hj => ?_⟩
      match j with
      | 0 => cases hj; exact e0
      | 1 => cases hj; exact e1
      | 2 => cases hj; exact e2
      | j + 3 => cases hj
    obtain ⟨f, hf⟩ : ∃ f : Nat → Cell, ∀ i, i < m → ∀ j v, (f i).row[j]? = some (.I v) → w.cell? (a.add (i * 3 + j)) = some (.int .i64 v) :=
      ⟨fun i => if h : i < m then Classical.choose (hel' i h) else default, fun i hi => by simp only [hi, dif_pos]; exact Classical.choose_spec (hel' i hi)⟩
    refine ⟨some a, len, m, (List.range len).map f, rfl, by simp, hl, hm, ?_⟩
    rcases Nat.eq_zero_or_pos m with h0 | h0
    · exact .inl h0
    · refine .inr ?_
      have hc0 := hf 0 h0 0 (f 0).a rfl
      obtain ⟨b, o, c, e, fz, ha, hh, _⟩ := cell_heap hc0
      have ha' : a = ⟨b, o, none⟩ := by simpa [Addr.add] using ha
      subst ha'
      refine ⟨b, o, c, e, fz, rfl, hh, fun i hi j v hj => ?_⟩
      have hg : ((List.range len).map f).getD i default = f i := by simp [hi]
      rw [hg] at hj
      have hcell := hf i (by omega) j v hj
      have hadd : (⟨b, o, none⟩ : Addr).add (i * 3 + j) = ⟨b, o + (i * 3 + j), none⟩ := addr_add _ _ _
      rw [hadd] at hcell
      unfold World.cell? at hcell
      simp only [hh] at hcell
      simpa using hcell
end

/-- A row that came in is laid into the abstract memory, to be read. -/
theorem Inv.addRow {G : Gh} {M : Mem} {w : World} (hi : Inv G M w) (hno : NoOwn M) {a : Option Addr} {len cap esz : Nat} {ls : List LV} (hl : len ≤ cap) (hll : ls.length ≤ cap * esz)
    (h : (cap = 0 ∧ ls = []) ∨ ∃ b o c e fz, a = some ⟨b, o, none⟩ ∧ w.heap[b]? = some (.cells c e fz) ∧ ∀ j l, ls[j]? = some l → ∃ x, c[o + j]? = some x ∧ VR1 G l x) :
    ∃ G', Ext G G' ∧ Inv G' (M ++ [some (.row ls false esz)]) w ∧ NoOwn (M ++ [some (.row ls false esz)]) ∧ VR1 G' (.ref M.length 0 len) (.slice a len cap) := by
  obtain ⟨β, hβ, hv⟩ : ∃ β : Base, (∀ G' : Gh, Ext G G' → EmbB G' w (.row ls false esz) β) ∧ (∀ G' : Gh, G' M.length = some β → VR1 G' (.ref M.length 0 len) (.slice a len cap)) := by
    rcases h with ⟨rfl, rfl⟩ | ⟨b, o, c, e, fz, rfl, hh, hc⟩
    · refine ⟨⟨0, 0, esz, 0, true⟩, fun G' _ => ⟨rfl, .inl ⟨rfl, rfl⟩⟩, fun G' hg => ⟨_, hg, a, 0, rfl, .inl ⟨by omega, rfl⟩⟩⟩
    · refine ⟨⟨b, o, esz, cap * esz, false⟩, fun G' hx => ⟨rfl, .inr ⟨rfl, c, e, fz, hh, (fun h => by cases h), hll, fun j l hj => ?_⟩⟩, fun G' hg => ⟨_, hg, _, cap, rfl, .inr ⟨rfl, rfl, hl, by simp⟩⟩⟩
      obtain ⟨x, h1, h2⟩ := hc j l hj
      exact ⟨x, h1, h2.ext hx⟩
  have hx : Ext G (G.put M.length β) := Gh.put_ext (hi.top _ (Nat.le_refl _))
  have hat : (G.put M.length β) M.length = some β := by simp [Gh.put]
  have hno' : NoOwn (M ++ [some (.row ls false esz)]) := fun t b hb => by
    rcases live_push hb with ⟨_, h1⟩ | ⟨_, rfl⟩
    · exact hno t b h1
    · rfl
  refine ⟨G.put M.length β, hx, ⟨fun t b hb => ?_, fun t t' b b' γ γ' _ hb _ ho => ?_, fun t ht => ?_⟩, hno', hv _ hat⟩
  · rcases live_push hb with ⟨hlt, h1⟩ | ⟨rfl, rfl⟩
    · obtain ⟨γ, hg, he⟩ := hi.emb t b h1
      exact ⟨γ, hx _ _ hg, he.ext hx fun _ => rfl⟩
    · exact ⟨β, hat, hβ _ hx⟩
  · rw [hno' t b hb] at ho; cases ho
  · simp at ht
    unfold Gh.put
    rw [if_neg (by omega)]
    exact hi.top t (by omega)

theorem Inv.none (w : World) : Inv (fun _ => Option.none) [] w := ⟨fun t b h => by unfold Live at h; simp at h, fun t t' b b' _ _ _ h => by unfold Live at h; simp at h, fun _ _ => rfl⟩
theorem NoOwn.none : NoOwn [] := fun t b h => by unfold Live at h; simp at h

theorem Inv.addCells {G : Gh} {M : Mem} {w : World} (hi : Inv G M w) (hno : NoOwn M) {a : Option Addr} {len cap : Nat} {cs : List Cell} (h : RowOf w a len cap cs) :
    ∃ G', Ext G G' ∧ Inv G' (M ++ [some (.row (triL cs) false 3)]) w ∧ NoOwn (M ++ [some (.row (triL cs) false 3)]) ∧ VR1 G' (.ref M.length 0 len) (.slice a len cap) := by
  obtain ⟨h1, h2, h3, h4⟩ := h
  refine hi.addRow hno h2 (by rw [triL_len]; omega) ?_
  rcases h4 with h0 | ⟨b, o, c, e, fz, ha, hh, hc⟩
  · refine .inl ⟨h0, ?_⟩
    have : cs = [] := List.eq_nil_of_length_eq_zero (by omega)
    rw [this]; rfl
  · refine .inr ⟨b, o, c, e, fz, ha, hh, fun j l hj => ?_⟩
    have hjl : j < cs.length * 3 := by
      rw [← triL_len]
      rcases Nat.lt_or_ge j (triL cs).length with h | h
      · exact h
      · rw [List.getElem?_eq_none h] at hj; cases hj
    have hat := triL_at (cs := cs) (k := j / 3) (by omega)
    have hrow : (cs.getD (j / 3) default).row[j % 3]? = some l := by
      rw [← hat, List.getElem?_take, if_pos (Nat.mod_lt _ (by omega)), List.getElem?_drop]
      rw [show j / 3 * 3 + j % 3 = j by omega]; exact hj
    have hI : ∃ v, l = .I v := by
      have hm : j % 3 < 3 := Nat.mod_lt _ (by omega)
      generalize j % 3 = r at hrow hm
      match r with
      | 0 => cases hrow; exact ⟨_, rfl⟩
      | 1 => cases hrow; exact ⟨_, rfl⟩
      | 2 => cases hrow; exact ⟨_, rfl⟩
    obtain ⟨v, rfl⟩ := hI
    refine ⟨.int .i64 v, ?_, rfl, rfl⟩
    have := hc (j / 3) (by omega) (j % 3) v hrow
    rwa [show j / 3 * 3 + j % 3 = j by omega] at this
end Go.Ab
