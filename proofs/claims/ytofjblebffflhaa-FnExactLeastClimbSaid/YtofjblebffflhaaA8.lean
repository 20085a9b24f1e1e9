/- Parts of the proof of FnExactLeastClimbSaid: Ce Ke Ec2 Ed2 Mh Ej Ek. -/
import Derived.Test.YtofjblebffflhaaA3
import Derived.Test.YtofjblebffflhaaA4
import Derived.Test.YtofjblebffflhaaProg
import Derived.KernelRfl
import Derived.Test.YtofjblebffflhaaA7
import Derived.Test.YtofjblebffflhaaA5
set_option linter.all false
/- The abstract code of some functions (written by a program of mine from the translation, by way of prepF). -/
namespace Go.Ab.C
open Go.Ab
/-- spec.l10Both -/
def spec_l10Both : AFn :=
  ⟨4, 21, [.tmp 8],
    .seq (.ops [(none, .box 4 (.t 0)),
       (none, .mv 8 (.c (.B false)))])
    (.seq (.ops [(none, .loadN 9 4 (.t 4)),
        (none, .mv 10 (.t 1)),
        (none, .call (some 11) F.spec_l10Column [(.t 9), (.t 10)]),
        (none, .mv 12 (.t 11)),
        (some (12, true), .loadN 13 4 (.t 4)),
        (some (12, true), .mv 14 (.t 2)),
        (some (12, true), .call (some 15) F.spec_l10Column [(.t 13), (.t 14)]),
        (none, .pick 16 (.t 12) (.t 15) (.c (.B false))),
        (none, .mv 17 (.t 16)),
        (some (17, true), .mv 18 (.t 3)),
        (some (17, true), .bin 19 .geq (.t 18) (.c (.I 0))),
        (none, .pick 20 (.t 17) (.t 19) (.c (.B false))),
        (none, .mv 8 (.t 20))])
     (.ret))⟩
/-- spec.TopDistance -/
def spec_TopDistance : AFn :=
  ⟨4, 28, [.tmp 8, .tmp 9],
    .seq (.ops [(none, .box 4 (.t 0)),
       (none, .mv 8 (.c (.I 0))),
       (none, .mv 9 (.c (.B false)))])
    (.seq (.seq (.ops [(none, .loadN 11 4 (.t 4)),
         (none, .mv 12 (.t 1)),
         (none, .mv 13 (.t 2)),
         (none, .mv 14 (.t 3)),
         (none, .call (some 15) F.spec_l10Both [(.t 11), (.t 12), (.t 13), (.t 14)]),
         (none, .un 16 .not (.t 15))])
      (.cond (.t 16) (.seq (.ops [(none, .mv 8 (.c (.I 0))),
           (none, .mv 9 (.c (.B false)))])
        (.ret))
       (.skip)))
     (.seq (.ops [(none, .loadN 17 4 (.t 4)),
         (none, .mv 18 (.t 1)),
         (none, .mv 19 (.t 3)),
         (none, .call (some 20) F.spec_l10Spread [(.t 17), (.t 18), (.t 19)]),
         (none, .mv 21 (.t 2)),
         (none, .idxS 22 1 (.t 20) (.t 21)),
         (none, .load1 23 (.t 22)),
         (none, .mv 10 (.t 23))])
      (.seq (.ops [(none, .mv 24 (.t 10)),
          (none, .call (some 25) F.spec_l1Most [(.t 24), (.c (.I 0))]),
          (none, .mv 26 (.t 10)),
          (none, .bin 27 .geq (.t 26) (.c (.I 0))),
          (none, .mv 8 (.t 25)),
          (none, .mv 9 (.t 27))])
       (.ret))))⟩
/-- spec.LeastReach -/
def spec_LeastReach : AFn :=
  ⟨3, 25, [.tmp 6, .tmp 7],
    .seq (.ops [(none, .box 3 (.t 0)),
       (none, .mv 6 (.c (.I 0))),
       (none, .mv 7 (.c (.B false)))])
    (.seq (.seq (.ops [(none, .loadN 9 4 (.t 3)),
         (none, .mv 10 (.t 1)),
         (none, .mv 11 (.t 2)),
         (none, .call (some 12) F.spec_l10Both [(.t 9), (.t 10), (.t 11), (.c (.I 0))]),
         (none, .un 13 .not (.t 12))])
      (.cond (.t 13) (.seq (.ops [(none, .mv 6 (.c (.I 0))),
           (none, .mv 7 (.c (.B false)))])
        (.ret))
       (.skip)))
     (.seq (.ops [(none, .mv 8 (.c (.I 0)))])
      (.seq (.block 0 (.loop (.seq (.seq (.ops [(none, .loadN 14 4 (.t 3)),
              (none, .mv 15 (.t 1)),
              (none, .mv 16 (.t 8)),
              (none, .call (some 17) F.spec_l10Spread [(.t 14), (.t 15), (.t 16)]),
              (none, .mv 18 (.t 2)),
              (none, .idxS 19 1 (.t 17) (.t 18)),
              (none, .load1 20 (.t 19)),
              (none, .bin 21 .lss (.t 20) (.c (.I 0)))])
           (.cond (.t 21) (.skip)
            (.exit 0)))
          (.block 1 (.ops [(none, .mv 22 (.t 8)),
              (none, .bin 23 .add (.t 22) (.c (.I 1))),
              (none, .mv 8 (.t 23))])))))
       (.seq (.ops [(none, .mv 24 (.t 8)),
           (none, .mv 6 (.t 24)),
           (none, .mv 7 (.c (.B true)))])
        (.ret)))))⟩
/-- spec.LeastClimb -/
def spec_LeastClimb : AFn :=
  ⟨4, 120, [.tmp 8, .tmp 9],
    .seq (.ops [(none, .box 4 (.t 0)),
       (none, .mv 8 (.c (.I 0))),
       (none, .mv 9 (.c (.B false)))])
    (.seq (.seq (.ops [(none, .loadN 19 4 (.t 4)),
         (none, .mv 20 (.t 1)),
         (none, .mv 21 (.t 2)),
         (none, .mv 22 (.t 3)),
         (none, .call (some 23) F.spec_l10Both [(.t 19), (.t 20), (.t 21), (.t 22)]),
         (none, .un 24 .not (.t 23)),
         (none, .mv 25 (.t 24)),
         (some (25, false), .loadN 26 4 (.t 4)),
         (some (25, false), .mv 27 (.t 1)),
         (some (25, false), .mv 28 (.t 3)),
         (some (25, false), .call (some 29) F.spec_l10Spread [(.t 26), (.t 27), (.t 28)]),
         (some (25, false), .mv 30 (.t 2)),
         (some (25, false), .idxS 31 1 (.t 29) (.t 30)),
         (some (25, false), .load1 32 (.t 31)),
         (some (25, false), .bin 33 .lss (.t 32) (.c (.I 0))),
         (none, .pick 34 (.t 25) (.c (.B true)) (.t 33))])
      (.cond (.t 34) (.seq (.ops [(none, .mv 8 (.c (.I 0))),
           (none, .mv 9 (.c (.B false)))])
        (.ret))
       (.skip)))
     (.seq (.draw [⟨(none, .fieldAddr 35 (.t 4) 0), [], []⟩,
         ⟨(none, .load1 36 (.t 35)), [], []⟩,
         ⟨(none, .fieldAddr 37 (.t 4) 1), [], []⟩,
         ⟨(none, .load1 38 (.t 37)), [], []⟩,
         ⟨(none, .bin 39 .mul (.t 36) (.t 38)), [], []⟩,
         ⟨(none, .loadN 41 4 (.t 4)), [], []⟩,
         ⟨(none, .mksl 40 1 8 [(.I 0)] (.t 39) (.t 39)), [], []⟩,
         ⟨(none, .call (some 42) F.spec_l2Tops [(.t 41)]), [6], [0, 1, 2, 3, 4]⟩,
         ⟨(none, .mv 10 (.t 40)), [], []⟩,
         ⟨(none, .mv 11 (.t 42)), [], []⟩])
      (.seq (.seq (.ops [(none, .mv 12 (.c (.I 0)))])
        (.block 0 (.loop (.seq (.seq (.ops [(none, .mv 43 (.t 12)),
               (none, .mv 44 (.t 10)),
               (none, .len 45 (.t 44)),
               (none, .bin 46 .lss (.t 43) (.t 45))])
            (.cond (.t 46) (.skip)
             (.exit 0)))
           (.seq (.block 1 (.ops [(none, .mv 49 (.t 10)),
                (none, .mv 50 (.t 12)),
                (none, .idxS 51 1 (.t 49) (.t 50)),
                (none, .store 1 (.t 51) (.c (.I (-1))))]))
            (.ops [(none, .mv 47 (.t 12)),
               (none, .bin 48 .add (.t 47) (.c (.I 1))),
               (none, .mv 12 (.t 48))]))))))
       (.seq (.ops [(none, .mv 52 (.t 10)),
           (none, .mv 53 (.t 1)),
           (none, .idxS 54 1 (.t 52) (.t 53)),
           (none, .store 1 (.t 54) (.c (.I 0)))])
        (.seq (.seq (.ops [(none, .mv 13 (.c (.B true)))])
          (.block 2 (.loop (.seq (.seq (.ops [(none, .mv 55 (.t 13))])
              (.cond (.t 55) (.skip)
               (.exit 2)))
             (.block 3 (.seq (.ops [(none, .mv 13 (.c (.B false)))])
               (.seq (.ops [(none, .mv 14 (.c (.I 0)))])
                (.block 4 (.loop (.seq (.seq (.ops [(none, .mv 56 (.t 14)),
                       (none, .mv 57 (.t 10)),
                       (none, .len 58 (.t 57)),
                       (none, .bin 59 .lss (.t 56) (.t 58))])
                    (.cond (.t 59) (.skip)
                     (.exit 4)))
                   (.seq (.block 5 (.seq (.ops [(none, .loadN 62 4 (.t 4)),
                         (none, .mv 63 (.t 11)),
                         (none, .mv 64 (.t 14)),
                         (none, .mv 65 (.t 3)),
                         (none, .call (some 66) F.spec_l10Steps [(.t 62), (.t 63), (.t 64), (.t 65)]),
                         (none, .mv 15 (.t 66))])
                      (.seq (.ops [(none, .mv 16 (.c (.I 0)))])
                       (.block 6 (.loop (.seq (.seq (.ops [(none, .mv 67 (.t 16)),
                              (none, .mv 68 (.t 15)),
                              (none, .len 69 (.t 68)),
                              (none, .bin 70 .lss (.t 67) (.t 69)),
                              (none, .mv 71 (.t 70)),
                              (some (71, true), .mv 72 (.t 10)),
                              (some (71, true), .mv 73 (.t 14)),
                              (some (71, true), .idxS 74 1 (.t 72) (.t 73)),
                              (some (71, true), .load1 75 (.t 74)),
                              (some (71, true), .bin 76 .geq (.t 75) (.c (.I 0))),
                              (none, .pick 77 (.t 71) (.t 76) (.c (.B false)))])
                           (.cond (.t 77) (.skip)
                            (.exit 6)))
                          (.seq (.block 7 (.seq (.ops [(none, .mv 80 (.t 15)),
                                (none, .mv 81 (.t 16)),
                                (none, .idxS 82 1 (.t 80) (.t 81)),
                                (none, .load1 83 (.t 82)),
                                (none, .mv 17 (.t 83))])
                             (.seq (.draw [⟨(none, .mv 84 (.t 10)), [], []⟩,
                                 ⟨(none, .mv 85 (.t 14)), [], []⟩,
                                 ⟨(none, .idxS 86 1 (.t 84) (.t 85)), [], []⟩,
                                 ⟨(none, .load1 87 (.t 86)), [], []⟩,
                                 ⟨(none, .mv 88 (.t 11)), [], []⟩,
                                 ⟨(none, .mv 89 (.t 17)), [], []⟩,
                                 ⟨(none, .idxS 90 1 (.t 88) (.t 89)), [], []⟩,
                                 ⟨(none, .load1 91 (.t 90)), [], []⟩,
                                 ⟨(none, .mv 92 (.t 11)), [], []⟩,
                                 ⟨(none, .mv 93 (.t 14)), [], []⟩,
                                 ⟨(none, .idxS 94 1 (.t 92) (.t 93)), [], []⟩,
                                 ⟨(none, .load1 95 (.t 94)), [], []⟩,
                                 ⟨(none, .bin 96 .sub (.t 91) (.t 95)), [], []⟩,
                                 ⟨(none, .call (some 97) F.spec_l1Most [(.t 96), (.c (.I 0))]), [], [0, 1, 2, 3]⟩,
                                 ⟨(none, .bin 98 .add (.t 87) (.t 97)), [], []⟩,
                                 ⟨(none, .mv 18 (.t 98)), [], []⟩])
                              (.seq (.ops [(none, .mv 99 (.t 10)),
                                  (none, .mv 100 (.t 17)),
                                  (none, .idxS 101 1 (.t 99) (.t 100)),
                                  (none, .load1 102 (.t 101)),
                                  (none, .bin 103 .lss (.t 102) (.c (.I 0))),
                                  (none, .mv 104 (.t 103)),
                                  (some (104, false), .mv 105 (.t 18)),
                                  (some (104, false), .mv 106 (.t 10)),
                                  (some (104, false), .mv 107 (.t 17)),
                                  (some (104, false), .idxS 108 1 (.t 106) (.t 107)),
                                  (some (104, false), .load1 109 (.t 108)),
                                  (some (104, false), .bin 110 .lss (.t 105) (.t 109)),
                                  (none, .pick 111 (.t 104) (.c (.B true)) (.t 110))])
                               (.cond (.t 111) (.seq (.ops [(none, .mv 112 (.t 10)),
                                    (none, .mv 113 (.t 17)),
                                    (none, .mv 114 (.t 18)),
                                    (none, .idxS 115 1 (.t 112) (.t 113)),
                                    (none, .store 1 (.t 115) (.t 114))])
                                 (.ops [(none, .mv 13 (.c (.B true)))]))
                                (.skip))))))
                           (.ops [(none, .mv 78 (.t 16)),
                              (none, .bin 79 .add (.t 78) (.c (.I 1))),
                              (none, .mv 16 (.t 79))]))))))))
                    (.ops [(none, .mv 60 (.t 14)),
                       (none, .bin 61 .add (.t 60) (.c (.I 1))),
                       (none, .mv 14 (.t 61))]))))))))))))
         (.seq (.ops [(none, .mv 116 (.t 10)),
             (none, .mv 117 (.t 2)),
             (none, .idxS 118 1 (.t 116) (.t 117)),
             (none, .load1 119 (.t 118)),
             (none, .mv 8 (.t 119)),
             (none, .mv 9 (.c (.B true)))])
          (.ret)))))))⟩
/-- spec.FirstTopWalk -/
def spec_FirstTopWalk : AFn :=
  ⟨4, 70, [.tmp 8, .tmp 9],
    .seq (.ops [(none, .box 4 (.t 0)),
       (none, .mv 8 (.c .nil)),
       (none, .mv 9 (.c (.B false)))])
    (.seq (.seq (.ops [(none, .loadN 16 4 (.t 4)),
         (none, .mv 17 (.t 1)),
         (none, .mv 18 (.t 2)),
         (none, .mv 19 (.t 3)),
         (none, .call (some 20) F.spec_l10Both [(.t 16), (.t 17), (.t 18), (.t 19)]),
         (none, .un 21 .not (.t 20))])
      (.cond (.t 21) (.seq (.ops [(none, .buildSl 22 0 1 [] []),
           (none, .mv 8 (.t 22)),
           (none, .mv 9 (.c (.B false)))])
        (.ret))
       (.skip)))
     (.seq (.ops [(none, .loadN 23 4 (.t 4)),
         (none, .mv 24 (.t 2)),
         (none, .mv 25 (.t 3)),
         (none, .call (some 26) F.spec_l10Spread [(.t 23), (.t 24), (.t 25)]),
         (none, .mv 10 (.t 26))])
      (.seq (.seq (.ops [(none, .mv 27 (.t 10)),
           (none, .mv 28 (.t 1)),
           (none, .idxS 29 1 (.t 27) (.t 28)),
           (none, .load1 30 (.t 29)),
           (none, .bin 31 .lss (.t 30) (.c (.I 0)))])
        (.cond (.t 31) (.seq (.ops [(none, .buildSl 32 0 1 [] []),
             (none, .mv 8 (.t 32)),
             (none, .mv 9 (.c (.B false)))])
          (.ret))
         (.skip)))
       (.seq (.ops [(none, .mv 33 (.t 1)),
           (none, .buildSl 34 1 1 [(.I 0)] [(0, 1, (.t 33))]),
           (none, .mv 35 (.t 1)),
           (none, .loadN 36 4 (.t 4)),
           (none, .call (some 37) F.spec_l2Tops [(.t 36)]),
           (none, .mv 11 (.t 34)),
           (none, .mv 12 (.t 35)),
           (none, .mv 13 (.t 37))])
        (.seq (.block 0 (.loop (.seq (.seq (.ops [(none, .mv 38 (.t 12)),
                (none, .mv 39 (.t 2)),
                (none, .bin 40 .neq (.t 38) (.t 39))])
             (.cond (.t 40) (.skip)
              (.exit 0)))
            (.block 1 (.seq (.ops [(none, .loadN 41 4 (.t 4)),
                 (none, .mv 42 (.t 13)),
                 (none, .mv 43 (.t 12)),
                 (none, .mv 44 (.t 3)),
                 (none, .call (some 45) F.spec_l10Steps [(.t 41), (.t 42), (.t 43), (.t 44)]),
                 (none, .mv 14 (.t 45)),
                 (none, .mv 15 (.c (.I 0)))])
              (.seq (.block 2 (.loop (.seq (.seq (.draw [⟨(none, .mv 46 (.t 10)), [], []⟩,
                      ⟨(none, .mv 47 (.t 14)), [], []⟩,
                      ⟨(none, .mv 48 (.t 15)), [], []⟩,
                      ⟨(none, .idxS 49 1 (.t 47) (.t 48)), [], []⟩,
                      ⟨(none, .load1 50 (.t 49)), [], []⟩,
                      ⟨(none, .idxS 51 1 (.t 46) (.t 50)), [], []⟩,
                      ⟨(none, .load1 52 (.t 51)), [], []⟩,
                      ⟨(none, .mv 53 (.t 10)), [], []⟩,
                      ⟨(none, .mv 54 (.t 12)), [], []⟩,
                      ⟨(none, .idxS 55 1 (.t 53) (.t 54)), [], []⟩,
                      ⟨(none, .load1 56 (.t 55)), [], []⟩,
                      ⟨(none, .bin 57 .sub (.t 56) (.c (.I 1))), [], []⟩,
                      ⟨(none, .bin 58 .neq (.t 52) (.t 57)), [], []⟩])
                   (.cond (.t 58) (.skip)
                    (.exit 2)))
                  (.block 3 (.ops [(none, .mv 59 (.t 15)),
                      (none, .bin 60 .add (.t 59) (.c (.I 1))),
                      (none, .mv 15 (.t 60))])))))
               (.seq (.ops [(none, .mv 61 (.t 14)),
                   (none, .mv 62 (.t 15)),
                   (none, .idxS 63 1 (.t 61) (.t 62)),
                   (none, .load1 64 (.t 63)),
                   (none, .mv 12 (.t 64))])
                (.ops [(none, .mv 65 (.t 11)),
                   (none, .mv 66 (.t 12)),
                   (none, .buildSl 67 1 1 [(.I 0)] [(0, 1, (.t 66))]),
                   (none, .append 68 1 8 (.t 65) (.t 67)),
                   (none, .mv 11 (.t 68))]))))))))
         (.seq (.ops [(none, .mv 69 (.t 11)),
             (none, .mv 8 (.t 69)),
             (none, .mv 9 (.c (.B true)))])
          (.ret)))))))⟩
/-- impl.found -/
def impl_found : AFn :=
  ⟨1, 8, [.tmp 2, .tmp 3],
    .seq (.ops [(none, .mv 2 (.c (.I 0))),
       (none, .mv 3 (.c (.B false)))])
    (.seq (.ops [(none, .mv 4 (.t 0)),
        (none, .mm 5 true [(.c (.I 0)), (.t 4)]),
        (none, .mv 6 (.t 0)),
        (none, .bin 7 .geq (.t 6) (.c (.I 0))),
        (none, .mv 2 (.t 5)),
        (none, .mv 3 (.t 7))])
     (.ret))⟩
/-- impl.TopDistance -/
def impl_TopDistance : AFn :=
  ⟨4, 28, [.tmp 8, .tmp 9],
    .seq (.ops [(none, .box 4 (.t 0)),
       (none, .mv 8 (.c (.I 0))),
       (none, .mv 9 (.c (.B false)))])
    (.seq (.seq (.ops [(none, .loadN 10 4 (.t 4)),
         (none, .mv 11 (.t 3)),
         (none, .mv 12 (.t 1)),
         (none, .mv 13 (.t 2)),
         (none, .buildSl 14 2 1 [(.I 0), (.I 0)] [(0, 1, (.t 12)), (1, 1, (.t 13))]),
         (none, .call (some 15) F.impl_isTop [(.t 10), (.t 11), (.t 14)]),
         (none, .un 16 .not (.t 15))])
      (.cond (.t 16) (.seq (.ops [(none, .mv 8 (.c (.I 0))),
           (none, .mv 9 (.c (.B false)))])
        (.ret))
       (.skip)))
     (.seq (.ops [(none, .loadN 17 4 (.t 4)),
         (none, .call (some 18) F.impl_Heap_top [(.t 17)]),
         (none, .mv 19 (.t 2)),
         (none, .mv 20 (.t 3)),
         (none, .call (some 21) F.impl_top_distances [(.t 18), (.t 19), (.t 20)]),
         (none, .mv 22 (.t 1)),
         (none, .idxS 23 1 (.t 21) (.t 22)),
         (none, .load1 24 (.t 23)),
         (none, .call (some 25) F.impl_found [(.t 24)]),
         (none, .extract 26 (.t 25) 0),
         (none, .extract 27 (.t 25) 1),
         (none, .mv 8 (.t 26)),
         (none, .mv 9 (.t 27))])
      (.ret)))⟩
/-- impl.LeastReach -/
def impl_LeastReach : AFn :=
  ⟨3, 27, [.tmp 6, .tmp 7],
    .seq (.ops [(none, .box 3 (.t 0)),
       (none, .mv 6 (.c (.I 0))),
       (none, .mv 7 (.c (.B false)))])
    (.seq (.seq (.ops [(none, .loadN 9 4 (.t 3)),
         (none, .mv 10 (.t 1)),
         (none, .mv 11 (.t 2)),
         (none, .buildSl 12 2 1 [(.I 0), (.I 0)] [(0, 1, (.t 10)), (1, 1, (.t 11))]),
         (none, .call (some 13) F.impl_isTop [(.t 9), (.c (.I 0)), (.t 12)]),
         (none, .un 14 .not (.t 13))])
      (.cond (.t 14) (.seq (.ops [(none, .mv 6 (.c (.I 0))),
           (none, .mv 7 (.c (.B false)))])
        (.ret))
       (.skip)))
     (.seq (.ops [(none, .mv 8 (.c (.I 0)))])
      (.seq (.block 0 (.loop (.seq (.seq (.ops [(none, .loadN 15 4 (.t 3)),
              (none, .call (some 16) F.impl_Heap_top [(.t 15)]),
              (none, .mv 17 (.t 2)),
              (none, .mv 18 (.t 8)),
              (none, .call (some 19) F.impl_top_distances [(.t 16), (.t 17), (.t 18)]),
              (none, .mv 20 (.t 1)),
              (none, .idxS 21 1 (.t 19) (.t 20)),
              (none, .load1 22 (.t 21)),
              (none, .bin 23 .lss (.t 22) (.c (.I 0)))])
           (.cond (.t 23) (.skip)
            (.exit 0)))
          (.block 1 (.ops [(none, .mv 24 (.t 8)),
              (none, .bin 25 .add (.t 24) (.c (.I 1))),
              (none, .mv 8 (.t 25))])))))
       (.seq (.ops [(none, .mv 26 (.t 8)),
           (none, .mv 6 (.t 26)),
           (none, .mv 7 (.c (.B true)))])
        (.ret)))))⟩
/-- impl.LeastClimb -/
def impl_LeastClimb : AFn :=
  ⟨4, 94, [.tmp 8, .tmp 9],
    .seq (.ops [(none, .box 4 (.t 0)),
       (none, .mv 8 (.c (.I 0))),
       (none, .mv 9 (.c (.B false)))])
    (.seq (.seq (.ops [(none, .loadN 18 4 (.t 4)),
         (none, .mv 19 (.t 3)),
         (none, .mv 20 (.t 1)),
         (none, .mv 21 (.t 2)),
         (none, .buildSl 22 2 1 [(.I 0), (.I 0)] [(0, 1, (.t 20)), (1, 1, (.t 21))]),
         (none, .call (some 23) F.impl_isTop [(.t 18), (.t 19), (.t 22)]),
         (none, .un 24 .not (.t 23))])
      (.cond (.t 24) (.seq (.ops [(none, .mv 8 (.c (.I 0))),
           (none, .mv 9 (.c (.B false)))])
        (.ret))
       (.skip)))
     (.seq (.ops [(none, .loadN 25 4 (.t 4)),
         (none, .call (some 26) F.impl_Heap_top [(.t 25)]),
         (none, .alloc 10 [.nil, (.I 0)]),
         (none, .store 2 (.t 10) (.t 26))])
      (.seq (.ops [(none, .buildSl 27 1 1 [(.I 0)] [(0, 1, (.c (.I (-1))))]),
          (none, .fieldAddr 28 (.t 10) 0),
          (none, .load1 29 (.t 28)),
          (none, .len 30 (.t 29)),
          (none, .call (some 31) F.slices_Repeat_Sint_int [(.t 27), (.t 30)]),
          (none, .mv 11 (.t 31))])
       (.seq (.ops [(none, .mv 32 (.t 11)),
           (none, .mv 33 (.t 1)),
           (none, .idxS 34 1 (.t 32) (.t 33)),
           (none, .store 1 (.t 34) (.c (.I 0)))])
        (.seq (.seq (.ops [(none, .mv 12 (.c (.B true)))])
          (.block 0 (.loop (.seq (.seq (.ops [(none, .mv 35 (.t 12))])
              (.cond (.t 35) (.skip)
               (.exit 0)))
             (.block 1 (.seq (.ops [(none, .mv 12 (.c (.B false)))])
               (.seq (.ops [(none, .mv 36 (.t 11)),
                   (none, .len 37 (.t 36)),
                   (none, .mv 38 (.c (.I 0)))])
                (.block 2 (.loop (.seq (.ops [(none, .bin 39 .lss (.t 38) (.t 37))])
                   (.seq (.cond (.t 39) (.skip)
                     (.exit 2))
                    (.seq (.block 3 (.seq (.ops [(none, .mv 40 (.t 38)),
                          (none, .idxS 41 1 (.t 36) (.t 38)),
                          (none, .load1 42 (.t 41)),
                          (none, .mv 13 (.t 40)),
                          (none, .mv 14 (.t 42))])
                       (.seq (.seq (.ops [(none, .mv 43 (.t 14)),
                            (none, .bin 44 .lss (.t 43) (.c (.I 0)))])
                         (.cond (.t 44) (.exit 3)
                          (.skip)))
                        (.seq (.ops [(none, .loadN 45 2 (.t 10)),
                            (none, .mv 46 (.t 13)),
                            (none, .mv 47 (.t 3)),
                            (none, .call (some 48) F.impl_top_steps [(.t 45), (.t 46), (.t 47)]),
                            (none, .len 49 (.t 48)),
                            (none, .mv 50 (.c (.I 0)))])
                         (.block 4 (.loop (.seq (.ops [(none, .bin 51 .lss (.t 50) (.t 49))])
                            (.seq (.cond (.t 51) (.skip)
                              (.exit 4))
                             (.seq (.block 5 (.seq (.ops [(none, .idxS 52 1 (.t 48) (.t 50)),
                                   (none, .load1 53 (.t 52)),
                                   (none, .mv 16 (.t 53))])
                                (.seq (.draw [⟨(none, .mv 54 (.t 14)), [], []⟩,
                                    ⟨(none, .fieldAddr 55 (.t 10) 0), [], []⟩,
                                    ⟨(none, .load1 56 (.t 55)), [], []⟩,
                                    ⟨(none, .mv 57 (.t 16)), [], []⟩,
                                    ⟨(none, .idxS 58 1 (.t 56) (.t 57)), [], []⟩,
                                    ⟨(none, .load1 59 (.t 58)), [], []⟩,
                                    ⟨(none, .fieldAddr 60 (.t 10) 0), [], []⟩,
                                    ⟨(none, .load1 61 (.t 60)), [], []⟩,
                                    ⟨(none, .mv 62 (.t 13)), [], []⟩,
                                    ⟨(none, .idxS 63 1 (.t 61) (.t 62)), [], []⟩,
                                    ⟨(none, .load1 64 (.t 63)), [], []⟩,
                                    ⟨(none, .bin 65 .sub (.t 59) (.t 64)), [], []⟩,
                                    ⟨(none, .mm 66 true [(.c (.I 0)), (.t 65)]), [], []⟩,
                                    ⟨(none, .bin 67 .add (.t 54) (.t 66)), [], []⟩,
                                    ⟨(none, .mv 17 (.t 67)), [], []⟩])
                                 (.seq (.ops [(none, .mv 68 (.t 11)),
                                     (none, .mv 69 (.t 16)),
                                     (none, .idxS 70 1 (.t 68) (.t 69)),
                                     (none, .load1 71 (.t 70)),
                                     (none, .bin 72 .lss (.t 71) (.c (.I 0))),
                                     (none, .mv 73 (.t 72)),
                                     (some (73, false), .mv 74 (.t 17)),
                                     (some (73, false), .mv 75 (.t 11)),
                                     (some (73, false), .mv 76 (.t 16)),
                                     (some (73, false), .idxS 77 1 (.t 75) (.t 76)),
                                     (some (73, false), .load1 78 (.t 77)),
                                     (some (73, false), .bin 79 .lss (.t 74) (.t 78)),
                                     (none, .pick 80 (.t 73) (.c (.B true)) (.t 79))])
                                  (.cond (.t 80) (.ops [(none, .mv 81 (.t 11)),
                                      (none, .mv 82 (.t 16)),
                                      (none, .mv 83 (.t 17)),
                                      (none, .idxS 84 1 (.t 81) (.t 82)),
                                      (none, .store 1 (.t 84) (.t 83)),
                                      (none, .mv 12 (.c (.B true)))])
                                   (.skip))))))
                              (.ops [(none, .bin 85 .add (.t 50) (.c (.I 1))),
                                 (none, .mv 50 (.t 85))]))))))))))
                     (.ops [(none, .bin 86 .add (.t 38) (.c (.I 1))),
                        (none, .mv 38 (.t 86))])))))))))))))
         (.seq (.ops [(none, .mv 87 (.t 11)),
             (none, .mv 88 (.t 2)),
             (none, .idxS 89 1 (.t 87) (.t 88)),
             (none, .load1 90 (.t 89)),
             (none, .call (some 91) F.impl_found [(.t 90)]),
             (none, .extract 92 (.t 91) 0),
             (none, .extract 93 (.t 91) 1),
             (none, .mv 8 (.t 92)),
             (none, .mv 9 (.t 93))])
          (.ret)))))))⟩
/-- impl.FirstTopWalk -/
def impl_FirstTopWalk : AFn :=
  ⟨4, 52, [.tmp 8, .tmp 9],
    .seq (.ops [(none, .box 4 (.t 0)),
       (none, .box 5 (.t 1)),
       (none, .mv 8 (.c .nil)),
       (none, .mv 9 (.c (.B false)))])
    (.seq (.seq (.ops [(none, .loadN 14 4 (.t 4)),
         (none, .mv 15 (.t 3)),
         (none, .load1 16 (.t 5)),
         (none, .mv 17 (.t 2)),
         (none, .buildSl 18 2 1 [(.I 0), (.I 0)] [(0, 1, (.t 16)), (1, 1, (.t 17))]),
         (none, .call (some 19) F.impl_isTop [(.t 14), (.t 15), (.t 18)]),
         (none, .un 20 .not (.t 19))])
      (.cond (.t 20) (.seq (.ops [(none, .mv 8 (.c .nil)),
           (none, .mv 9 (.c (.B false)))])
        (.ret))
       (.skip)))
     (.seq (.ops [(none, .loadN 21 4 (.t 4)),
         (none, .call (some 22) F.impl_Heap_top [(.t 21)]),
         (none, .alloc 10 [.nil, (.I 0)]),
         (none, .store 2 (.t 10) (.t 22))])
      (.seq (.ops [(none, .loadN 23 2 (.t 10)),
          (none, .mv 24 (.t 2)),
          (none, .mv 25 (.t 3)),
          (none, .call (some 26) F.impl_top_distances [(.t 23), (.t 24), (.t 25)]),
          (none, .alloc 11 [.nil]),
          (none, .store 1 (.t 11) (.t 26))])
       (.seq (.seq (.ops [(none, .load1 27 (.t 11)),
            (none, .load1 28 (.t 5)),
            (none, .idxS 29 1 (.t 27) (.t 28)),
            (none, .load1 30 (.t 29)),
            (none, .bin 31 .lss (.t 30) (.c (.I 0)))])
         (.cond (.t 31) (.seq (.ops [(none, .mv 8 (.c .nil)),
              (none, .mv 9 (.c (.B false)))])
           (.ret))
          (.skip)))
        (.seq (.ops [(none, .load1 32 (.t 5)),
            (none, .buildSl 33 1 1 [(.I 0)] [(0, 1, (.t 32))]),
            (none, .mv 12 (.t 33))])
         (.seq (.block 0 (.loop (.seq (.seq (.ops [(none, .load1 34 (.t 5)),
                 (none, .mv 35 (.t 2)),
                 (none, .bin 36 .neq (.t 34) (.t 35))])
              (.cond (.t 36) (.skip)
               (.exit 0)))
             (.block 1 (.seq (.ops [(none, .loadN 37 2 (.t 10)),
                  (none, .load1 38 (.t 5)),
                  (none, .mv 39 (.t 3)),
                  (none, .call (some 40) F.impl_top_steps [(.t 37), (.t 38), (.t 39)]),
                  (none, .mv 13 (.t 40))])
               (.seq (.ops [(none, .mv 41 (.t 13)),
                   (none, .mv 42 (.t 13)),
                   (none, .mkf 43 F.impl_FirstTopWalk_1 [(.t 11), (.t 5)]),
                   (none, .call (some 44) F.slices_IndexFunc_Sint_int [(.t 42), (.t 43)]),
                   (none, .idxS 45 1 (.t 41) (.t 44)),
                   (none, .load1 46 (.t 45)),
                   (none, .store 1 (.t 5) (.t 46))])
                (.ops [(none, .mv 47 (.t 12)),
                   (none, .load1 48 (.t 5)),
                   (none, .buildSl 49 1 1 [(.I 0)] [(0, 1, (.t 48))]),
                   (none, .append 50 1 8 (.t 47) (.t 49)),
                   (none, .mv 12 (.t 50))])))))))
          (.seq (.ops [(none, .mv 51 (.t 12)),
              (none, .mv 8 (.t 51)),
              (none, .mv 9 (.c (.B true)))])
           (.ret))))))))⟩
/-- impl.FirstTopWalk$1 -/
def impl_FirstTopWalk_1 : AFn :=
  ⟨3, 15, [.tmp 4],
    .seq (.ops [(none, .mv 4 (.c (.B false)))])
    (.seq (.draw [⟨(none, .load1 5 (.t 1)), [], []⟩,
        ⟨(none, .mv 6 (.t 0)), [], []⟩,
        ⟨(none, .idxS 7 1 (.t 5) (.t 6)), [], []⟩,
        ⟨(none, .load1 8 (.t 7)), [], []⟩,
        ⟨(none, .load1 9 (.t 1)), [], []⟩,
        ⟨(none, .load1 10 (.t 2)), [], []⟩,
        ⟨(none, .idxS 11 1 (.t 9) (.t 10)), [], []⟩,
        ⟨(none, .load1 12 (.t 11)), [], []⟩,
        ⟨(none, .bin 13 .sub (.t 12) (.c (.I 1))), [], []⟩,
        ⟨(none, .bin 14 .eql (.t 8) (.t 13)), [], []⟩,
        ⟨(none, .mv 4 (.t 14)), [], []⟩])
     (.ret))⟩
/-- laws.FnExactTopDistance -/
def laws_FnExactTopDistance : AFn :=
  ⟨4, 52, [.tmp 8],
    .seq (.ops [(none, .box 4 (.t 0)),
       (none, .mv 8 (.c (.B false)))])
    (.seq (.ops [(none, .mv 9 (.c (.I 1048576)))])
     (.seq (.ops [(none, .loadN 15 4 (.t 4)),
         (none, .mv 16 (.t 9)),
         (none, .call (some 17) F.laws_szHeap [(.t 15), (.t 16)]),
         (none, .mv 9 (.t 17))])
      (.seq (.seq (.ops [(none, .mv 18 (.t 9)),
           (none, .bin 19 .lss (.t 18) (.c (.I 0)))])
        (.cond (.t 19) (.seq (.ops [(none, .mv 8 (.c (.B true)))])
          (.ret))
         (.skip)))
       (.seq (.ops [(none, .loadN 21 4 (.t 4)),
           (none, .call (some 22) F.laws_toHeap [(.t 21)]),
           (none, .mv 23 (.t 1)),
           (none, .mv 24 (.t 2)),
           (none, .mv 25 (.t 3)),
           (none, .call (some 26) F.spec_TopDistance [(.t 22), (.t 23), (.t 24), (.t 25)]),
           (none, .mv 20 (.t 26)),
           (none, .extract 27 (.t 20) 0),
           (none, .extract 28 (.t 20) 1),
           (none, .mv 10 (.t 27)),
           (none, .mv 11 (.t 28))])
        (.seq (.ops [(none, .loadN 29 4 (.t 4)),
            (none, .call (some 30) F.laws_toHeap [(.t 29)]),
            (none, .alloc 12 [(.I 0), (.I 0), (.I 0), .nil]),
            (none, .store 4 (.t 12) (.t 30))])
         (.seq (.ops [(none, .loadN 32 4 (.t 12)),
             (none, .mv 33 (.t 1)),
             (none, .mv 34 (.t 2)),
             (none, .mv 35 (.t 3)),
             (none, .call (some 36) F.impl_TopDistance [(.t 32), (.t 33), (.t 34), (.t 35)]),
             (none, .mv 31 (.t 36)),
             (none, .extract 37 (.t 31) 0),
             (none, .extract 38 (.t 31) 1),
             (none, .mv 13 (.t 37)),
             (none, .mv 14 (.t 38))])
          (.seq (.seq (.ops [(none, .mv 39 (.t 13)),
               (none, .mv 40 (.t 10)),
               (none, .bin 41 .neq (.t 39) (.t 40)),
               (none, .mv 42 (.t 41)),
               (some (42, false), .mv 43 (.t 14)),
               (some (42, false), .mv 44 (.t 11)),
               (some (42, false), .eqb 45 true (.t 43) (.t 44)),
               (none, .pick 46 (.t 42) (.c (.B true)) (.t 45))])
            (.cond (.t 46) (.seq (.ops [(none, .mv 8 (.c (.B false)))])
              (.ret))
             (.skip)))
           (.seq (.seq (.draw [⟨(none, .loadN 47 4 (.t 12)), [], []⟩,
                ⟨(none, .loadN 48 4 (.t 4)), [], []⟩,
                ⟨(none, .call (some 49) F.laws_toHeap [(.t 48)]), [], [0]⟩,
                ⟨(none, .call (some 50) F.laws_eqHeap [(.t 47), (.t 49)]), [], []⟩,
                ⟨(none, .un 51 .not (.t 50)), [], []⟩])
             (.cond (.t 51) (.seq (.ops [(none, .mv 8 (.c (.B false)))])
               (.ret))
              (.skip)))
            (.seq (.ops [(none, .mv 8 (.c (.B true)))])
             (.ret))))))))))⟩
/-- laws.FnExactLeastReach -/
def laws_FnExactLeastReach : AFn :=
  ⟨3, 48, [.tmp 6],
    .seq (.ops [(none, .box 3 (.t 0)),
       (none, .mv 6 (.c (.B false)))])
    (.seq (.ops [(none, .mv 7 (.c (.I 1048576)))])
     (.seq (.ops [(none, .loadN 13 4 (.t 3)),
         (none, .mv 14 (.t 7)),
         (none, .call (some 15) F.laws_szHeap [(.t 13), (.t 14)]),
         (none, .mv 7 (.t 15))])
      (.seq (.seq (.ops [(none, .mv 16 (.t 7)),
           (none, .bin 17 .lss (.t 16) (.c (.I 0)))])
        (.cond (.t 17) (.seq (.ops [(none, .mv 6 (.c (.B true)))])
          (.ret))
         (.skip)))
       (.seq (.ops [(none, .loadN 19 4 (.t 3)),
           (none, .call (some 20) F.laws_toHeap [(.t 19)]),
           (none, .mv 21 (.t 1)),
           (none, .mv 22 (.t 2)),
           (none, .call (some 23) F.spec_LeastReach [(.t 20), (.t 21), (.t 22)]),
           (none, .mv 18 (.t 23)),
           (none, .extract 24 (.t 18) 0),
           (none, .extract 25 (.t 18) 1),
           (none, .mv 8 (.t 24)),
           (none, .mv 9 (.t 25))])
        (.seq (.ops [(none, .loadN 26 4 (.t 3)),
            (none, .call (some 27) F.laws_toHeap [(.t 26)]),
            (none, .alloc 10 [(.I 0), (.I 0), (.I 0), .nil]),
            (none, .store 4 (.t 10) (.t 27))])
         (.seq (.ops [(none, .loadN 29 4 (.t 10)),
             (none, .mv 30 (.t 1)),
             (none, .mv 31 (.t 2)),
             (none, .call (some 32) F.impl_LeastReach [(.t 29), (.t 30), (.t 31)]),
             (none, .mv 28 (.t 32)),
             (none, .extract 33 (.t 28) 0),
             (none, .extract 34 (.t 28) 1),
             (none, .mv 11 (.t 33)),
             (none, .mv 12 (.t 34))])
          (.seq (.seq (.ops [(none, .mv 35 (.t 11)),
               (none, .mv 36 (.t 8)),
               (none, .bin 37 .neq (.t 35) (.t 36)),
               (none, .mv 38 (.t 37)),
               (some (38, false), .mv 39 (.t 12)),
               (some (38, false), .mv 40 (.t 9)),
               (some (38, false), .eqb 41 true (.t 39) (.t 40)),
               (none, .pick 42 (.t 38) (.c (.B true)) (.t 41))])
            (.cond (.t 42) (.seq (.ops [(none, .mv 6 (.c (.B false)))])
              (.ret))
             (.skip)))
           (.seq (.seq (.draw [⟨(none, .loadN 43 4 (.t 10)), [], []⟩,
                ⟨(none, .loadN 44 4 (.t 3)), [], []⟩,
                ⟨(none, .call (some 45) F.laws_toHeap [(.t 44)]), [], [0]⟩,
                ⟨(none, .call (some 46) F.laws_eqHeap [(.t 43), (.t 45)]), [], []⟩,
                ⟨(none, .un 47 .not (.t 46)), [], []⟩])
             (.cond (.t 47) (.seq (.ops [(none, .mv 6 (.c (.B false)))])
               (.ret))
              (.skip)))
            (.seq (.ops [(none, .mv 6 (.c (.B true)))])
             (.ret))))))))))⟩
/-- laws.FnExactLeastClimb -/
def laws_FnExactLeastClimb : AFn :=
  ⟨4, 52, [.tmp 8],
    .seq (.ops [(none, .box 4 (.t 0)),
       (none, .mv 8 (.c (.B false)))])
    (.seq (.ops [(none, .mv 9 (.c (.I 1048576)))])
     (.seq (.ops [(none, .loadN 15 4 (.t 4)),
         (none, .mv 16 (.t 9)),
         (none, .call (some 17) F.laws_szHeap [(.t 15), (.t 16)]),
         (none, .mv 9 (.t 17))])
      (.seq (.seq (.ops [(none, .mv 18 (.t 9)),
           (none, .bin 19 .lss (.t 18) (.c (.I 0)))])
        (.cond (.t 19) (.seq (.ops [(none, .mv 8 (.c (.B true)))])
          (.ret))
         (.skip)))
       (.seq (.ops [(none, .loadN 21 4 (.t 4)),
           (none, .call (some 22) F.laws_toHeap [(.t 21)]),
           (none, .mv 23 (.t 1)),
           (none, .mv 24 (.t 2)),
           (none, .mv 25 (.t 3)),
           (none, .call (some 26) F.spec_LeastClimb [(.t 22), (.t 23), (.t 24), (.t 25)]),
           (none, .mv 20 (.t 26)),
           (none, .extract 27 (.t 20) 0),
           (none, .extract 28 (.t 20) 1),
           (none, .mv 10 (.t 27)),
           (none, .mv 11 (.t 28))])
        (.seq (.ops [(none, .loadN 29 4 (.t 4)),
            (none, .call (some 30) F.laws_toHeap [(.t 29)]),
            (none, .alloc 12 [(.I 0), (.I 0), (.I 0), .nil]),
            (none, .store 4 (.t 12) (.t 30))])
         (.seq (.ops [(none, .loadN 32 4 (.t 12)),
             (none, .mv 33 (.t 1)),
             (none, .mv 34 (.t 2)),
             (none, .mv 35 (.t 3)),
             (none, .call (some 36) F.impl_LeastClimb [(.t 32), (.t 33), (.t 34), (.t 35)]),
             (none, .mv 31 (.t 36)),
             (none, .extract 37 (.t 31) 0),
             (none, .extract 38 (.t 31) 1),
             (none, .mv 13 (.t 37)),
             (none, .mv 14 (.t 38))])
          (.seq (.seq (.ops [(none, .mv 39 (.t 13)),
               (none, .mv 40 (.t 10)),
               (none, .bin 41 .neq (.t 39) (.t 40)),
               (none, .mv 42 (.t 41)),
               (some (42, false), .mv 43 (.t 14)),
               (some (42, false), .mv 44 (.t 11)),
               (some (42, false), .eqb 45 true (.t 43) (.t 44)),
               (none, .pick 46 (.t 42) (.c (.B true)) (.t 45))])
            (.cond (.t 46) (.seq (.ops [(none, .mv 8 (.c (.B false)))])
              (.ret))
             (.skip)))
           (.seq (.seq (.draw [⟨(none, .loadN 47 4 (.t 12)), [], []⟩,
                ⟨(none, .loadN 48 4 (.t 4)), [], []⟩,
                ⟨(none, .call (some 49) F.laws_toHeap [(.t 48)]), [], [0]⟩,
                ⟨(none, .call (some 50) F.laws_eqHeap [(.t 47), (.t 49)]), [], []⟩,
                ⟨(none, .un 51 .not (.t 50)), [], []⟩])
             (.cond (.t 51) (.seq (.ops [(none, .mv 8 (.c (.B false)))])
               (.ret))
              (.skip)))
            (.seq (.ops [(none, .mv 8 (.c (.B true)))])
             (.ret))))))))))⟩
/-- laws.FnExactFirstTopWalk -/
def laws_FnExactFirstTopWalk : AFn :=
  ⟨4, 111, [.tmp 8],
    .seq (.ops [(none, .box 4 (.t 0)),
       (none, .mv 8 (.c (.B false)))])
    (.seq (.ops [(none, .mv 9 (.c (.I 1048576)))])
     (.seq (.ops [(none, .loadN 20 4 (.t 4)),
         (none, .mv 21 (.t 9)),
         (none, .call (some 22) F.laws_szHeap [(.t 20), (.t 21)]),
         (none, .mv 9 (.t 22))])
      (.seq (.seq (.ops [(none, .mv 23 (.t 9)),
           (none, .bin 24 .lss (.t 23) (.c (.I 0)))])
        (.cond (.t 24) (.seq (.ops [(none, .mv 8 (.c (.B true)))])
          (.ret))
         (.skip)))
       (.seq (.ops [(none, .loadN 26 4 (.t 4)),
           (none, .call (some 27) F.laws_toHeap [(.t 26)]),
           (none, .mv 28 (.t 1)),
           (none, .mv 29 (.t 2)),
           (none, .mv 30 (.t 3)),
           (none, .call (some 31) F.spec_FirstTopWalk [(.t 27), (.t 28), (.t 29), (.t 30)]),
           (none, .mv 25 (.t 31)),
           (none, .extract 32 (.t 25) 0),
           (none, .extract 33 (.t 25) 1),
           (none, .mv 10 (.t 32)),
           (none, .mv 11 (.t 33))])
        (.seq (.ops [(none, .loadN 34 4 (.t 4)),
            (none, .call (some 35) F.laws_toHeap [(.t 34)]),
            (none, .alloc 12 [(.I 0), (.I 0), (.I 0), .nil]),
            (none, .store 4 (.t 12) (.t 35))])
         (.seq (.ops [(none, .loadN 37 4 (.t 12)),
             (none, .mv 38 (.t 1)),
             (none, .mv 39 (.t 2)),
             (none, .mv 40 (.t 3)),
             (none, .call (some 41) F.impl_FirstTopWalk [(.t 37), (.t 38), (.t 39), (.t 40)]),
             (none, .mv 36 (.t 41)),
             (none, .extract 42 (.t 36) 0),
             (none, .extract 43 (.t 36) 1),
             (none, .mv 13 (.t 42)),
             (none, .mv 14 (.t 43))])
          (.seq (.seq (.ops [(none, .mv 44 (.t 13)),
               (none, .mv 45 (.t 10)),
               (none, .call (some 46) F.laws_eqIntS [(.t 44), (.t 45)]),
               (none, .un 47 .not (.t 46)),
               (none, .mv 48 (.t 47)),
               (some (48, false), .mv 49 (.t 14)),
               (some (48, false), .mv 50 (.t 11)),
               (some (48, false), .eqb 51 true (.t 49) (.t 50)),
               (none, .pick 52 (.t 48) (.c (.B true)) (.t 51))])
            (.cond (.t 52) (.seq (.ops [(none, .mv 8 (.c (.B false)))])
              (.ret))
             (.skip)))
           (.seq (.seq (.draw [⟨(none, .loadN 53 4 (.t 12)), [], []⟩,
                ⟨(none, .loadN 54 4 (.t 4)), [], []⟩,
                ⟨(none, .call (some 55) F.laws_toHeap [(.t 54)]), [], [0]⟩,
                ⟨(none, .call (some 56) F.laws_eqHeap [(.t 53), (.t 55)]), [], []⟩,
                ⟨(none, .un 57 .not (.t 56)), [], []⟩])
             (.cond (.t 57) (.seq (.ops [(none, .mv 8 (.c (.B false)))])
               (.ret))
              (.skip)))
            (.seq (.ops [(none, .mv 15 (.c (.I 1)))])
             (.seq (.ops [(none, .loadN 58 4 (.t 12)),
                 (none, .mv 59 (.t 15)),
                 (none, .call (some 60) F.laws_markHeap [(.t 58), (.t 59)]),
                 (none, .mv 15 (.t 60))])
              (.seq (.seq (.ops [(none, .mv 61 (.t 15)),
                   (none, .bin 62 .lss (.t 61) (.c (.I 0))),
                   (none, .mv 63 (.t 62)),
                   (some (63, false), .mv 64 (.t 13)),
                   (some (63, false), .mv 65 (.t 10)),
                   (some (63, false), .call (some 66) F.laws_eqIntS [(.t 64), (.t 65)]),
                   (some (63, false), .un 67 .not (.t 66)),
                   (none, .pick 68 (.t 63) (.c (.B true)) (.t 67)),
                   (none, .mv 69 (.t 68)),
                   (some (69, false), .mv 70 (.t 14)),
                   (some (69, false), .mv 71 (.t 11)),
                   (some (69, false), .eqb 72 true (.t 70) (.t 71)),
                   (none, .pick 73 (.t 69) (.c (.B true)) (.t 72))])
                (.cond (.t 73) (.seq (.ops [(none, .mv 8 (.c (.B false)))])
                  (.ret))
                 (.skip)))
               (.seq (.ops [(none, .mv 16 (.c (.I 1)))])
                (.seq (.ops [(none, .mv 74 (.t 13)),
                    (none, .mv 75 (.t 16)),
                    (none, .call (some 76) F.laws_markIntS [(.t 74), (.t 75)]),
                    (none, .mv 16 (.t 76))])
                 (.seq (.ops [(none, .mv 17 (.c (.I 1)))])
                  (.seq (.ops [(none, .mv 77 (.t 13)),
                      (none, .mv 78 (.t 17)),
                      (none, .call (some 79) F.laws_heldIntS [(.t 77), (.t 78)]),
                      (none, .mv 17 (.t 79))])
                   (.seq (.seq (.ops [(none, .mv 80 (.t 17)),
                        (none, .bin 81 .lss (.t 80) (.c (.I 0)))])
                     (.cond (.t 81) (.seq (.ops [(none, .mv 8 (.c (.B false)))])
                       (.ret))
                      (.skip)))
                    (.seq (.seq (.ops [(none, .mv 82 (.t 17)),
                         (none, .mv 83 (.t 16)),
                         (none, .bin 84 .neq (.t 82) (.t 83))])
                      (.cond (.t 84) (.seq (.ops [(none, .mv 8 (.c (.B false)))])
                        (.ret))
                       (.skip)))
                     (.seq (.ops [(none, .loadN 86 4 (.t 4)),
                         (none, .call (some 87) F.laws_toHeap [(.t 86)]),
                         (none, .mv 88 (.t 1)),
                         (none, .mv 89 (.t 2)),
                         (none, .mv 90 (.t 3)),
                         (none, .call (some 91) F.impl_FirstTopWalk [(.t 87), (.t 88), (.t 89), (.t 90)]),
                         (none, .mv 85 (.t 91)),
                         (none, .extract 92 (.t 85) 0),
                         (none, .extract 93 (.t 85) 1),
                         (none, .mv 18 (.t 92)),
                         (none, .mv 19 (.t 93))])
                      (.seq (.seq (.ops [(none, .mv 94 (.t 18)),
                           (none, .mv 95 (.t 10)),
                           (none, .call (some 96) F.laws_eqIntS [(.t 94), (.t 95)]),
                           (none, .un 97 .not (.t 96)),
                           (none, .mv 98 (.t 97)),
                           (some (98, false), .mv 99 (.t 19)),
                           (some (98, false), .mv 100 (.t 11)),
                           (some (98, false), .eqb 101 true (.t 99) (.t 100)),
                           (none, .pick 102 (.t 98) (.c (.B true)) (.t 101))])
                        (.cond (.t 102) (.seq (.ops [(none, .mv 8 (.c (.B false)))])
                          (.ret))
                         (.skip)))
                       (.seq (.ops [(none, .mv 17 (.c (.I 1)))])
                        (.seq (.ops [(none, .mv 103 (.t 13)),
                            (none, .mv 104 (.t 17)),
                            (none, .call (some 105) F.laws_heldIntS [(.t 103), (.t 104)]),
                            (none, .mv 17 (.t 105))])
                         (.seq (.seq (.ops [(none, .mv 106 (.t 17)),
                              (none, .bin 107 .lss (.t 106) (.c (.I 0)))])
                           (.cond (.t 107) (.seq (.ops [(none, .mv 8 (.c (.B false)))])
                             (.ret))
                            (.skip)))
                          (.seq (.seq (.ops [(none, .mv 108 (.t 17)),
                               (none, .mv 109 (.t 16)),
                               (none, .bin 110 .neq (.t 108) (.t 109))])
                            (.cond (.t 110) (.seq (.ops [(none, .mv 8 (.c (.B false)))])
                              (.ret))
                             (.skip)))
                           (.seq (.ops [(none, .mv 8 (.c (.B true)))])
                            (.ret)))))))))))))))))))))))))⟩
end Go.Ab.C

/- That the program has this code. -/
namespace Go.Ab.K
open Go Go.Ab
theorem spec_l10Both : prepF Go.Proofs.Try.prog F.spec_l10Both = some C.spec_l10Both := by kernel_rfl
theorem spec_TopDistance : prepF Go.Proofs.Try.prog F.spec_TopDistance = some C.spec_TopDistance := by kernel_rfl
theorem spec_LeastReach : prepF Go.Proofs.Try.prog F.spec_LeastReach = some C.spec_LeastReach := by kernel_rfl
theorem spec_LeastClimb : prepF Go.Proofs.Try.prog F.spec_LeastClimb = some C.spec_LeastClimb := by kernel_rfl
theorem spec_FirstTopWalk : prepF Go.Proofs.Try.prog F.spec_FirstTopWalk = some C.spec_FirstTopWalk := by kernel_rfl
theorem impl_found : prepF Go.Proofs.Try.prog F.impl_found = some C.impl_found := by kernel_rfl
theorem impl_TopDistance : prepF Go.Proofs.Try.prog F.impl_TopDistance = some C.impl_TopDistance := by kernel_rfl
theorem impl_LeastReach : prepF Go.Proofs.Try.prog F.impl_LeastReach = some C.impl_LeastReach := by kernel_rfl
theorem impl_LeastClimb : prepF Go.Proofs.Try.prog F.impl_LeastClimb = some C.impl_LeastClimb := by kernel_rfl
theorem impl_FirstTopWalk : prepF Go.Proofs.Try.prog F.impl_FirstTopWalk = some C.impl_FirstTopWalk := by kernel_rfl
theorem impl_FirstTopWalk_1 : prepF Go.Proofs.Try.prog F.impl_FirstTopWalk_1 = some C.impl_FirstTopWalk_1 := by kernel_rfl
theorem laws_FnExactTopDistance : prepF Go.Proofs.Try.prog F.laws_FnExactTopDistance = some C.laws_FnExactTopDistance := by kernel_rfl
theorem laws_FnExactLeastReach : prepF Go.Proofs.Try.prog F.laws_FnExactLeastReach = some C.laws_FnExactLeastReach := by kernel_rfl
theorem laws_FnExactLeastClimb : prepF Go.Proofs.Try.prog F.laws_FnExactLeastClimb = some C.laws_FnExactLeastClimb := by kernel_rfl
theorem laws_FnExactFirstTopWalk : prepF Go.Proofs.Try.prog F.laws_FnExactFirstTopWalk = some C.laws_FnExactFirstTopWalk := by kernel_rfl
end Go.Ab.K

/- Contracts: distances and least reaches, both sides. -/
namespace Go.Ab
open Go
set_option linter.unusedSimpArgs false
set_option linter.unusedVariables false

theorem h_l10Both {x y z p q s : Int} {t o : Nat} {cs : List Cell} {M : Mem} (h : Tri M t o cs) (hn : cs.length ≤ 1000000000) :
    CallsTo PG F.spec_l10Both [.agg [.I x, .I y, .I z, .ref t o cs.length], .I p, .I q, .I s] M (.B (decide ((HeapOK x y z cs ∧ (0 ≤ p ∧ p ≤ x * y - 1)) ∧ (0 ≤ q ∧ q ≤ x * y - 1) ∧ 0 ≤ s))) M := by
  refine calls_run K.spec_l10Both rfl ?_
  simp (disch := omega) only [C.spec_l10Both, ↓SXd, SXu, slBounds, ↓sop, ↓aop, ↓reduceIte, LV.cells, AOp.dst, LV.I, LV.B, LV.U, LV.S, LV.nil, Nat.reduceEqDiff, Nat.reduceAdd, Nat.reduceMul, Nat.reduceSub, Nat.reduceLeDiff, Nat.reduceBEq, Nat.reduceDiv, Nat.reduceMod, Int.reduceToNat, Int.reduceLT, Int.reduceLE, Int.reduceAdd, Int.reduceSub, Int.reduceMul, Int.reduceEq, Int.reduceNeg, reduceCtorEq, resV, resAll, ARes.ev, LV.flat, ite_true, ite_false, exists_eq_left', exists_eq_left, keyOf, implies_true, fillC, capOf]
  refine callK_of (h_l10Column h.app hn) ?_
  simp (disch := omega) only [↓SXd, SXu, slBounds, ↓sop, ↓aop, ↓reduceIte, LV.cells, AOp.dst, LV.I, LV.B, LV.U, LV.S, LV.nil, Nat.reduceEqDiff, Nat.reduceAdd, Nat.reduceMul, Nat.reduceSub, Nat.reduceLeDiff, Nat.reduceBEq, Nat.reduceDiv, Nat.reduceMod, Int.reduceToNat, Int.reduceLT, Int.reduceLE, Int.reduceAdd, Int.reduceSub, Int.reduceMul, Int.reduceEq, Int.reduceNeg, reduceCtorEq, resV, resAll, ARes.ev, LV.flat, ite_true, ite_false, exists_eq_left', exists_eq_left, keyOf, implies_true, fillC, capOf]
  by_cases h1 : HeapOK x y z cs ∧ (0 ≤ p ∧ p ≤ x * y - 1)
  · simp (disch := omega) only [h1, ↓SXd, SXu, slBounds, ↓sop, ↓aop, ↓reduceIte, LV.cells, AOp.dst, LV.I, LV.B, LV.U, LV.S, LV.nil, Nat.reduceEqDiff, Nat.reduceAdd, Nat.reduceMul, Nat.reduceSub, Nat.reduceLeDiff, Nat.reduceBEq, Nat.reduceDiv, Nat.reduceMod, Int.reduceToNat, Int.reduceLT, Int.reduceLE, Int.reduceAdd, Int.reduceSub, Int.reduceMul, Int.reduceEq, Int.reduceNeg, reduceCtorEq, resV, resAll, ARes.ev, LV.flat, ite_true, ite_false, exists_eq_left', exists_eq_left, keyOf, implies_true, fillC, capOf]
    refine callK_of (h_l10Column h.app hn) ?_
    simp (disch := omega) only [h1, ↓SXd, SXu, slBounds, ↓sop, ↓aop, ↓reduceIte, LV.cells, AOp.dst, LV.I, LV.B, LV.U, LV.S, LV.nil, Nat.reduceEqDiff, Nat.reduceAdd, Nat.reduceMul, Nat.reduceSub, Nat.reduceLeDiff, Nat.reduceBEq, Nat.reduceDiv, Nat.reduceMod, Int.reduceToNat, Int.reduceLT, Int.reduceLE, Int.reduceAdd, Int.reduceSub, Int.reduceMul, Int.reduceEq, Int.reduceNeg, reduceCtorEq, resV, resAll, ARes.ev, LV.flat, ite_true, ite_false, exists_eq_left', exists_eq_left, keyOf, implies_true, fillC, capOf]
    by_cases h2 : 0 ≤ q ∧ q ≤ x * y - 1
    · by_cases h3 : 0 ≤ s
      · have h3' : s ≥ 0 := h3
        simp (disch := omega) only [h1, h2, h3, h3', ↓SXd, SXu, slBounds, ↓sop, ↓aop, ↓reduceIte, LV.cells, AOp.dst, LV.I, LV.B, LV.U, LV.S, LV.nil, Nat.reduceEqDiff, Nat.reduceAdd, Nat.reduceMul, Nat.reduceSub, Nat.reduceLeDiff, Nat.reduceBEq, Nat.reduceDiv, Nat.reduceMod, Int.reduceToNat, Int.reduceLT, Int.reduceLE, Int.reduceAdd, Int.reduceSub, Int.reduceMul, Int.reduceEq, Int.reduceNeg, reduceCtorEq, resV, resAll, ARes.ev, LV.flat, ite_true, ite_false, exists_eq_left', exists_eq_left, keyOf, implies_true, fillC, capOf]
        exact cmp_drop rfl
      · have h3' : ¬ s ≥ 0 := h3
        simp (disch := omega) only [h1, h2, h3, h3', and_false, ↓SXd, SXu, slBounds, ↓sop, ↓aop, ↓reduceIte, LV.cells, AOp.dst, LV.I, LV.B, LV.U, LV.S, LV.nil, Nat.reduceEqDiff, Nat.reduceAdd, Nat.reduceMul, Nat.reduceSub, Nat.reduceLeDiff, Nat.reduceBEq, Nat.reduceDiv, Nat.reduceMod, Int.reduceToNat, Int.reduceLT, Int.reduceLE, Int.reduceAdd, Int.reduceSub, Int.reduceMul, Int.reduceEq, Int.reduceNeg, reduceCtorEq, resV, resAll, ARes.ev, LV.flat, ite_true, ite_false, exists_eq_left', exists_eq_left, keyOf, implies_true, fillC, capOf]
        exact cmp_drop rfl
    · simp (disch := omega) only [h1, h2, false_and, and_false, ↓SXd, SXu, slBounds, ↓sop, ↓aop, ↓reduceIte, LV.cells, AOp.dst, LV.I, LV.B, LV.U, LV.S, LV.nil, Nat.reduceEqDiff, Nat.reduceAdd, Nat.reduceMul, Nat.reduceSub, Nat.reduceLeDiff, Nat.reduceBEq, Nat.reduceDiv, Nat.reduceMod, Int.reduceToNat, Int.reduceLT, Int.reduceLE, Int.reduceAdd, Int.reduceSub, Int.reduceMul, Int.reduceEq, Int.reduceNeg, reduceCtorEq, resV, resAll, ARes.ev, LV.flat, ite_true, ite_false, exists_eq_left', exists_eq_left, keyOf, implies_true, fillC, capOf]
      exact cmp_drop rfl
  · simp (disch := omega) only [h1, false_and, ↓SXd, SXu, slBounds, ↓sop, ↓aop, ↓reduceIte, LV.cells, AOp.dst, LV.I, LV.B, LV.U, LV.S, LV.nil, Nat.reduceEqDiff, Nat.reduceAdd, Nat.reduceMul, Nat.reduceSub, Nat.reduceLeDiff, Nat.reduceBEq, Nat.reduceDiv, Nat.reduceMod, Int.reduceToNat, Int.reduceLT, Int.reduceLE, Int.reduceAdd, Int.reduceSub, Int.reduceMul, Int.reduceEq, Int.reduceNeg, reduceCtorEq, resV, resAll, ARes.ev, LV.flat, ite_true, ite_false, exists_eq_left', exists_eq_left, keyOf, implies_true, fillC, capOf]
    exact cmp_drop rfl

/-- The distance of two columns, or -1. -/
noncomputable def tdOf (x y z : Int) (cs : List Cell) (p q s : Int) : Int := by
  classical
  exact if (HeapOK x y z cs ∧ (0 ≤ p ∧ p ≤ x * y - 1)) ∧ (0 ≤ q ∧ q ≤ x * y - 1) ∧ 0 ≤ s then (spreadOf x y cs p s).getD q.toNat 0 else -1

theorem h_sTopDistance {x y z p q s : Int} {t o : Nat} {cs : List Cell} {M : Mem} (h : Tri M t o cs) (hn : cs.length ≤ 1000000000) :
    CallsTo PG F.spec_TopDistance [.agg [.I x, .I y, .I z, .ref t o cs.length], .I p, .I q, .I s] M (.tup [.I (max (tdOf x y z cs p q s) 0), .B (decide (0 ≤ tdOf x y z cs p q s))]) M := by
  refine calls_run K.spec_TopDistance rfl ?_
  simp (disch := omega) only [C.spec_TopDistance, ↓SXd, SXu, slBounds, ↓sop, ↓aop, ↓reduceIte, LV.cells, AOp.dst, LV.I, LV.B, LV.U, LV.S, LV.nil, Nat.reduceEqDiff, Nat.reduceAdd, Nat.reduceMul, Nat.reduceSub, Nat.reduceLeDiff, Nat.reduceBEq, Nat.reduceDiv, Nat.reduceMod, Int.reduceToNat, Int.reduceLT, Int.reduceLE, Int.reduceAdd, Int.reduceSub, Int.reduceMul, Int.reduceEq, Int.reduceNeg, reduceCtorEq, resV, resAll, ARes.ev, LV.flat, ite_true, ite_false, exists_eq_left', exists_eq_left, keyOf, implies_true, fillC, capOf]
  refine callK_of (h_l10Both h.app hn) ?_
  simp (disch := omega) only [↓SXd, SXu, slBounds, ↓sop, ↓aop, ↓reduceIte, LV.cells, AOp.dst, LV.I, LV.B, LV.U, LV.S, LV.nil, Nat.reduceEqDiff, Nat.reduceAdd, Nat.reduceMul, Nat.reduceSub, Nat.reduceLeDiff, Nat.reduceBEq, Nat.reduceDiv, Nat.reduceMod, Int.reduceToNat, Int.reduceLT, Int.reduceLE, Int.reduceAdd, Int.reduceSub, Int.reduceMul, Int.reduceEq, Int.reduceNeg, reduceCtorEq, resV, resAll, ARes.ev, LV.flat, ite_true, ite_false, exists_eq_left', exists_eq_left, keyOf, implies_true, fillC, capOf]
  unfold tdOf
  by_cases hV : (HeapOK x y z cs ∧ (0 ≤ p ∧ p ≤ x * y - 1)) ∧ (0 ≤ q ∧ q ≤ x * y - 1) ∧ 0 ≤ s
  · obtain ⟨⟨hH, hp⟩, hq, hs⟩ := id hV
    have hb := mul_bound hH.1.1 hH.1.2.1
    have hsl := spreadOf_len (cs := cs) (s := s) hp
    rw [if_pos hV]
    simp (disch := omega) only [hV, ↓SXd, SXu, slBounds, ↓sop, ↓aop, ↓reduceIte, LV.cells, AOp.dst, LV.I, LV.B, LV.U, LV.S, LV.nil, Nat.reduceEqDiff, Nat.reduceAdd, Nat.reduceMul, Nat.reduceSub, Nat.reduceLeDiff, Nat.reduceBEq, Nat.reduceDiv, Nat.reduceMod, Int.reduceToNat, Int.reduceLT, Int.reduceLE, Int.reduceAdd, Int.reduceSub, Int.reduceMul, Int.reduceEq, Int.reduceNeg, reduceCtorEq, resV, resAll, ARes.ev, LV.flat, ite_true, ite_false, exists_eq_left', exists_eq_left, keyOf, implies_true, fillC, capOf]
    refine callK_of (h_l10Spread h.app hn hH hp) ?_
    simp (disch := omega) only [intL_get, ↓SXd, SXu, slBounds, ↓sop, ↓aop, ↓reduceIte, LV.cells, AOp.dst, LV.I, LV.B, LV.U, LV.S, LV.nil, Nat.reduceEqDiff, Nat.reduceAdd, Nat.reduceMul, Nat.reduceSub, Nat.reduceLeDiff, Nat.reduceBEq, Nat.reduceDiv, Nat.reduceMod, Int.reduceToNat, Int.reduceLT, Int.reduceLE, Int.reduceAdd, Int.reduceSub, Int.reduceMul, Int.reduceEq, Int.reduceNeg, reduceCtorEq, resV, resAll, ARes.ev, LV.flat, ite_true, ite_false, exists_eq_left', exists_eq_left, keyOf, implies_true, fillC, capOf]
    refine callK_of (h_l1Most) ?_
    simp (disch := omega) only [↓SXd, SXu, slBounds, ↓sop, ↓aop, ↓reduceIte, LV.cells, AOp.dst, LV.I, LV.B, LV.U, LV.S, LV.nil, Nat.reduceEqDiff, Nat.reduceAdd, Nat.reduceMul, Nat.reduceSub, Nat.reduceLeDiff, Nat.reduceBEq, Nat.reduceDiv, Nat.reduceMod, Int.reduceToNat, Int.reduceLT, Int.reduceLE, Int.reduceAdd, Int.reduceSub, Int.reduceMul, Int.reduceEq, Int.reduceNeg, reduceCtorEq, resV, resAll, ARes.ev, LV.flat, ite_true, ite_false, exists_eq_left', exists_eq_left, keyOf, implies_true, fillC, capOf]
    exact cmp_drop rfl
  · rw [if_neg hV]
    simp (disch := omega) only [hV, ↓SXd, SXu, slBounds, ↓sop, ↓aop, ↓reduceIte, LV.cells, AOp.dst, LV.I, LV.B, LV.U, LV.S, LV.nil, Nat.reduceEqDiff, Nat.reduceAdd, Nat.reduceMul, Nat.reduceSub, Nat.reduceLeDiff, Nat.reduceBEq, Nat.reduceDiv, Nat.reduceMod, Int.reduceToNat, Int.reduceLT, Int.reduceLE, Int.reduceAdd, Int.reduceSub, Int.reduceMul, Int.reduceEq, Int.reduceNeg, reduceCtorEq, resV, resAll, ARes.ev, LV.flat, ite_true, ite_false, exists_eq_left', exists_eq_left, keyOf, implies_true, fillC, capOf]
    exact cmp_drop rfl

theorem g_found {n : Int} {M : Mem} : CallsTo PG F.impl_found [.I n] M (.tup [.I (max n 0), .B (decide (0 ≤ n))]) M := by
  refine calls_run K.impl_found rfl ?_
  simp (disch := omega) only [C.impl_found, maxV, ite_true, if_true, ↓SXd, SXu, slBounds, ↓sop, ↓aop, ↓reduceIte, LV.cells, AOp.dst, LV.I, LV.B, LV.U, LV.S, LV.nil, Nat.reduceEqDiff, Nat.reduceAdd, Nat.reduceMul, Nat.reduceSub, Nat.reduceLeDiff, Nat.reduceBEq, Nat.reduceDiv, Nat.reduceMod, Int.reduceToNat, Int.reduceLT, Int.reduceLE, Int.reduceAdd, Int.reduceSub, Int.reduceMul, Int.reduceEq, Int.reduceNeg, reduceCtorEq, resV, resAll, ARes.ev, LV.flat, ite_true, ite_false, exists_eq_left', exists_eq_left, keyOf, implies_true, fillC, capOf]
  rw [show max 0 n = max n 0 by omega]
  exact cmp_drop0 rfl

theorem all2_iff {p q lo hi : Int} : (∀ k, k < [p, q].length → lo ≤ [p, q].getD k 0 ∧ [p, q].getD k 0 ≤ hi) ↔ (lo ≤ p ∧ p ≤ hi) ∧ (lo ≤ q ∧ q ≤ hi) := by
  constructor
  · intro h; exact ⟨h 0 (by simp), h 1 (by simp)⟩
  · intro h k hk
    match k with
    | 0 => exact h.1
    | 1 => exact h.2
    | k + 2 => simp at hk; omega

theorem g_isTop2 {x y z p q s : Int} {t o t' : Nat} {cs : List Cell} {M : Mem} (h : Tri M t o cs) (hn : cs.length ≤ 1000000000) (h' : Live M t' (.row [.I p, .I q] true 1)) :
    CallsTo PG F.impl_isTop [.agg [.I x, .I y, .I z, .ref t o cs.length], .I s, .ref t' 0 2] M (.B (decide ((HeapOK x y z cs ∧ (0 ≤ p ∧ p ≤ x * y - 1)) ∧ (0 ≤ q ∧ q ≤ x * y - 1) ∧ 0 ≤ s))) M := by
  have := g_isTop (x := x) (y := y) (z := z) (s := s) (xs := [p, q]) h hn (h'.has) (by simp)
  rw [show decide (HeapOK x y z cs ∧ 0 ≤ s ∧ ∀ k, k < [p, q].length → 0 ≤ [p, q].getD k 0 ∧ [p, q].getD k 0 ≤ x * y - 1) = decide ((HeapOK x y z cs ∧ (0 ≤ p ∧ p ≤ x * y - 1)) ∧ (0 ≤ q ∧ q ≤ x * y - 1) ∧ 0 ≤ s) from decide_eq_decide.2 (by
    rw [all2_iff]
    exact ⟨fun h => ⟨⟨h.1, h.2.2.1⟩, h.2.2.2, h.2.1⟩, fun h => ⟨h.1.1, h.2.2, h.1.2, h.2.1⟩⟩)] at this
  exact this

theorem g_TopDistance {x y z p q s : Int} {t o : Nat} {cs : List Cell} {M : Mem} (h : Tri M t o cs) (hn : cs.length ≤ 1000000000) :
    CallsTo PG F.impl_TopDistance [.agg [.I x, .I y, .I z, .ref t o cs.length], .I p, .I q, .I s] M (.tup [.I (max (tdOf x y z cs p q s) 0), .B (decide (0 ≤ tdOf x y z cs p q s))]) M := by
  refine calls_run K.impl_TopDistance rfl ?_
  simp (disch := omega) only [C.impl_TopDistance, splice, ↓SXd, SXu, slBounds, ↓sop, ↓aop, ↓reduceIte, LV.cells, AOp.dst, LV.I, LV.B, LV.U, LV.S, LV.nil, Nat.reduceEqDiff, Nat.reduceAdd, Nat.reduceMul, Nat.reduceSub, Nat.reduceLeDiff, Nat.reduceBEq, Nat.reduceDiv, Nat.reduceMod, Int.reduceToNat, Int.reduceLT, Int.reduceLE, Int.reduceAdd, Int.reduceSub, Int.reduceMul, Int.reduceEq, Int.reduceNeg, reduceCtorEq, resV, resAll, ARes.ev, LV.flat, ite_true, ite_false, exists_eq_left', exists_eq_left, keyOf, implies_true, fillC, capOf]
  refine callK_of (g_isTop2 h.app hn (Live.newj (j := 1) rfl)) ?_
  simp (disch := omega) only [↓SXd, SXu, slBounds, ↓sop, ↓aop, ↓reduceIte, LV.cells, AOp.dst, LV.I, LV.B, LV.U, LV.S, LV.nil, Nat.reduceEqDiff, Nat.reduceAdd, Nat.reduceMul, Nat.reduceSub, Nat.reduceLeDiff, Nat.reduceBEq, Nat.reduceDiv, Nat.reduceMod, Int.reduceToNat, Int.reduceLT, Int.reduceLE, Int.reduceAdd, Int.reduceSub, Int.reduceMul, Int.reduceEq, Int.reduceNeg, reduceCtorEq, resV, resAll, ARes.ev, LV.flat, ite_true, ite_false, exists_eq_left', exists_eq_left, keyOf, implies_true, fillC, capOf]
  unfold tdOf
  by_cases hV : (HeapOK x y z cs ∧ (0 ≤ p ∧ p ≤ x * y - 1)) ∧ (0 ≤ q ∧ q ≤ x * y - 1) ∧ 0 ≤ s
  · obtain ⟨⟨hH, hp⟩, hq, hs⟩ := id hV
    have hb := mul_bound hH.1.1 hH.1.2.1
    have htl := topsOf_len x y cs
    have hsl := spreadOf_len (cs := cs) (s := s) hq
    rw [if_pos hV, spread_comm hp hq]
    simp (disch := omega) only [hV, ↓SXd, SXu, slBounds, ↓sop, ↓aop, ↓reduceIte, LV.cells, AOp.dst, LV.I, LV.B, LV.U, LV.S, LV.nil, Nat.reduceEqDiff, Nat.reduceAdd, Nat.reduceMul, Nat.reduceSub, Nat.reduceLeDiff, Nat.reduceBEq, Nat.reduceDiv, Nat.reduceMod, Int.reduceToNat, Int.reduceLT, Int.reduceLE, Int.reduceAdd, Int.reduceSub, Int.reduceMul, Int.reduceEq, Int.reduceNeg, reduceCtorEq, resV, resAll, ARes.ev, LV.flat, ite_true, ite_false, exists_eq_left', exists_eq_left, keyOf, implies_true, fillC, capOf]
    refine callK_of (g_top h.app hn hH) ?_
    simp (disch := omega) only [↓SXd, SXu, slBounds, ↓sop, ↓aop, ↓reduceIte, LV.cells, AOp.dst, LV.I, LV.B, LV.U, LV.S, LV.nil, Nat.reduceEqDiff, Nat.reduceAdd, Nat.reduceMul, Nat.reduceSub, Nat.reduceLeDiff, Nat.reduceBEq, Nat.reduceDiv, Nat.reduceMod, Int.reduceToNat, Int.reduceLT, Int.reduceLE, Int.reduceAdd, Int.reduceSub, Int.reduceMul, Int.reduceEq, Int.reduceNeg, reduceCtorEq, resV, resAll, ARes.ev, LV.flat, ite_true, ite_false, exists_eq_left', exists_eq_left, keyOf, implies_true, fillC, capOf]
    refine callK_of (g_distances hH.1.1 hH.1.2.1 hq (Live.newj (j := 2) rfl).has htl (topsOf_low hH)) ?_
    simp (disch := omega) only [↓SXd, SXu, slBounds, ↓sop, ↓aop, ↓reduceIte, LV.cells, AOp.dst, LV.I, LV.B, LV.U, LV.S, LV.nil, Nat.reduceEqDiff, Nat.reduceAdd, Nat.reduceMul, Nat.reduceSub, Nat.reduceLeDiff, Nat.reduceBEq, Nat.reduceDiv, Nat.reduceMod, Int.reduceToNat, Int.reduceLT, Int.reduceLE, Int.reduceAdd, Int.reduceSub, Int.reduceMul, Int.reduceEq, Int.reduceNeg, reduceCtorEq, resV, resAll, ARes.ev, LV.flat, ite_true, ite_false, exists_eq_left', exists_eq_left, keyOf, implies_true, fillC, capOf]
    rw [show farFrom (x * y).toNat (fun r => stepsOf x y (topsOf x y cs) r s) q = spreadOf x y cs q s from rfl]
    simp (disch := omega) only [intL_get, ↓SXd, SXu, slBounds, ↓sop, ↓aop, ↓reduceIte, LV.cells, AOp.dst, LV.I, LV.B, LV.U, LV.S, LV.nil, Nat.reduceEqDiff, Nat.reduceAdd, Nat.reduceMul, Nat.reduceSub, Nat.reduceLeDiff, Nat.reduceBEq, Nat.reduceDiv, Nat.reduceMod, Int.reduceToNat, Int.reduceLT, Int.reduceLE, Int.reduceAdd, Int.reduceSub, Int.reduceMul, Int.reduceEq, Int.reduceNeg, reduceCtorEq, resV, resAll, ARes.ev, LV.flat, ite_true, ite_false, exists_eq_left', exists_eq_left, keyOf, implies_true, fillC, capOf]
    refine callK_of (g_found) ?_
    simp (disch := omega) only [↓SXd, SXu, slBounds, ↓sop, ↓aop, ↓reduceIte, LV.cells, AOp.dst, LV.I, LV.B, LV.U, LV.S, LV.nil, Nat.reduceEqDiff, Nat.reduceAdd, Nat.reduceMul, Nat.reduceSub, Nat.reduceLeDiff, Nat.reduceBEq, Nat.reduceDiv, Nat.reduceMod, Int.reduceToNat, Int.reduceLT, Int.reduceLE, Int.reduceAdd, Int.reduceSub, Int.reduceMul, Int.reduceEq, Int.reduceNeg, reduceCtorEq, resV, resAll, ARes.ev, LV.flat, ite_true, ite_false, exists_eq_left', exists_eq_left, keyOf, implies_true, fillC, capOf]
    exact cmp_drop rfl
  · rw [if_neg hV]
    simp (disch := omega) only [hV, ↓SXd, SXu, slBounds, ↓sop, ↓aop, ↓reduceIte, LV.cells, AOp.dst, LV.I, LV.B, LV.U, LV.S, LV.nil, Nat.reduceEqDiff, Nat.reduceAdd, Nat.reduceMul, Nat.reduceSub, Nat.reduceLeDiff, Nat.reduceBEq, Nat.reduceDiv, Nat.reduceMod, Int.reduceToNat, Int.reduceLT, Int.reduceLE, Int.reduceAdd, Int.reduceSub, Int.reduceMul, Int.reduceEq, Int.reduceNeg, reduceCtorEq, resV, resAll, ARes.ev, LV.flat, ite_true, ite_false, exists_eq_left', exists_eq_left, keyOf, implies_true, fillC, capOf]
    exact cmp_drop rfl
end Go.Ab

/- Contracts: least reaches, both sides. -/
namespace Go.Ab
open Go
set_option linter.unusedSimpArgs false
set_option linter.unusedVariables false

theorem topsOf_low4 {x y z : Int} {cs : List Cell} (hH : HeapOK x y z cs) : ∀ k, 0 ≤ (topsOf x y cs).getD k 0 ∧ (topsOf x y cs).getD k 0 ≤ 4 := by
  have hz := hH.1.2.2
  have key : ∀ k, k ≤ cs.length → ∀ j, 0 ≤ ((cs.take k).foldl (topStep y) (List.replicate (x * y).toNat 0)).getD j 0 ∧ ((cs.take k).foldl (topStep y) (List.replicate (x * y).toNat 0)).getD j 0 ≤ 4 := by
    intro k
    induction k with
    | zero =>
      intro _ j
      simp only [List.take_zero, List.foldl_nil, List.getD_eq_getElem?_getD, List.getElem?_replicate]
      split <;> simp
    | succ k ih =>
      intro hk j
      rw [take_succ_foldl _ _ _ _ default (by omega)]
      have h1 := ih (by omega)
      obtain ⟨_, _, hc⟩ := hH.cell (k := k) (by omega)
      generalize (cs.take k).foldl (topStep y) (List.replicate (x * y).toNat 0) = out at h1 ⊢
      unfold topStep
      rw [getD_set]
      have h2 := h1 ((cs.getD k default).a * y + (cs.getD k default).b).toNat
      have h3 := h1 j
      split <;> omega
  intro k
  have := key cs.length (Nat.le_refl _) k
  rw [List.take_length] at this
  exact this

/-- Column q is reached from p at the reach s. -/
def Near' (x y : Int) (cs : List Cell) (p q : Int) (s : Nat) : Prop := 0 ≤ (spreadOf x y cs p s).getD q.toNat 0
theorem near4 {x y z p q : Int} {cs : List Cell} {s : Nat} (hH : HeapOK x y z cs) (hp : 0 ≤ p ∧ p ≤ x * y - 1) (hq : 0 ≤ q ∧ q ≤ x * y - 1) (hs : 4 ≤ s) : Near' x y cs p q s := by
  unfold Near' spreadOf
  rw [show (fun r => stepsOf x y (topsOf x y cs) r (s : Int)) = nexts x y from funext fun r => steps_wide (by omega) (topsOf_low4 hH)]
  exact grid_one hH.1.1 hH.1.2.1 hp hq

/-- What LeastReach answers. -/
noncomputable def reachOf (x y z : Int) (cs : List Cell) (p q : Int) : Option Nat := by
  classical
  exact if (HeapOK x y z cs ∧ (0 ≤ p ∧ p ≤ x * y - 1)) ∧ (0 ≤ q ∧ q ≤ x * y - 1) then some (leastN (Near' x y cs p q)) else none

theorem h_sLeastReach {x y z p q : Int} {t o : Nat} {cs : List Cell} {M : Mem} (h : Tri M t o cs) (hn : cs.length ≤ 1000000000) :
    CallsTo PG F.spec_LeastReach [.agg [.I x, .I y, .I z, .ref t o cs.length], .I p, .I q] M (.tup [.I ((reachOf x y z cs p q).getD 0 : Nat), .B (reachOf x y z cs p q).isSome]) M := by
  refine calls_run K.spec_LeastReach rfl ?_
  simp (disch := omega) only [C.spec_LeastReach, ↓SXd, SXu, slBounds, ↓sop, ↓aop, ↓reduceIte, LV.cells, AOp.dst, LV.I, LV.B, LV.U, LV.S, LV.nil, Nat.reduceEqDiff, Nat.reduceAdd, Nat.reduceMul, Nat.reduceSub, Nat.reduceLeDiff, Nat.reduceBEq, Nat.reduceDiv, Nat.reduceMod, Int.reduceToNat, Int.reduceLT, Int.reduceLE, Int.reduceAdd, Int.reduceSub, Int.reduceMul, Int.reduceEq, Int.reduceNeg, reduceCtorEq, resV, resAll, ARes.ev, LV.flat, ite_true, ite_false, exists_eq_left', exists_eq_left, keyOf, implies_true, fillC, capOf]
  refine callK_of (h_l10Both h.app hn) ?_
  simp (disch := omega) only [↓SXd, SXu, slBounds, ↓sop, ↓aop, ↓reduceIte, LV.cells, AOp.dst, LV.I, LV.B, LV.U, LV.S, LV.nil, Nat.reduceEqDiff, Nat.reduceAdd, Nat.reduceMul, Nat.reduceSub, Nat.reduceLeDiff, Nat.reduceBEq, Nat.reduceDiv, Nat.reduceMod, Int.reduceToNat, Int.reduceLT, Int.reduceLE, Int.reduceAdd, Int.reduceSub, Int.reduceMul, Int.reduceEq, Int.reduceNeg, reduceCtorEq, resV, resAll, ARes.ev, LV.flat, ite_true, ite_false, exists_eq_left', exists_eq_left, keyOf, implies_true, fillC, capOf]
  unfold reachOf
  by_cases hV : (HeapOK x y z cs ∧ (0 ≤ p ∧ p ≤ x * y - 1)) ∧ (0 ≤ q ∧ q ≤ x * y - 1)
  · obtain ⟨⟨hH, hp⟩, hq⟩ := id hV
    have hb := mul_bound hH.1.1 hH.1.2.1
    rw [if_pos hV]
    simp (disch := omega) only [hH, hp, hq, ↓SXd, SXu, slBounds, ↓sop, ↓aop, ↓reduceIte, LV.cells, AOp.dst, LV.I, LV.B, LV.U, LV.S, LV.nil, Nat.reduceEqDiff, Nat.reduceAdd, Nat.reduceMul, Nat.reduceSub, Nat.reduceLeDiff, Nat.reduceBEq, Nat.reduceDiv, Nat.reduceMod, Int.reduceToNat, Int.reduceLT, Int.reduceLE, Int.reduceAdd, Int.reduceSub, Int.reduceMul, Int.reduceEq, Int.reduceNeg, reduceCtorEq, resV, resAll, ARes.ev, LV.flat, ite_true, ite_false, exists_eq_left', exists_eq_left, keyOf, implies_true, fillC, capOf]
    refine ev_loop (fun m fr M' => ∃ k : Nat, k + m = 4 ∧ Pre M M' ∧ Live M' M.length (.row [.I x, .I y, .I z, .ref t o cs.length] true 0) ∧ fr 1 = .I p ∧ fr 2 = .I q ∧ fr 3 = .ptr M.length 0 ∧ fr 8 = .I k ∧ ∀ j, j < k → ¬ Near' x y cs p q j) 4
      ⟨0, rfl, Pre.app _ _, Live.new, rfl, rfl, rfl, rfl, by omega⟩ ?_
    rintro m fr M' ⟨k, hk, hpre, hbox, h1, h2, h3, h8, hl⟩
    have hsl := spreadOf_len (cs := cs) (s := k) hp
    simp (disch := omega) only [h1, h2, h3, h8, hbox.cells, ↓SXd, SXu, slBounds, ↓sop, ↓aop, ↓reduceIte, LV.cells, AOp.dst, LV.I, LV.B, LV.U, LV.S, LV.nil, Nat.reduceEqDiff, Nat.reduceAdd, Nat.reduceMul, Nat.reduceSub, Nat.reduceLeDiff, Nat.reduceBEq, Nat.reduceDiv, Nat.reduceMod, Int.reduceToNat, Int.reduceLT, Int.reduceLE, Int.reduceAdd, Int.reduceSub, Int.reduceMul, Int.reduceEq, Int.reduceNeg, reduceCtorEq, resV, resAll, ARes.ev, LV.flat, ite_true, ite_false, exists_eq_left', exists_eq_left, keyOf, implies_true, fillC, capOf]
    refine callK_of (h_l10Spread (h.pre hpre) hn hH hp) ?_
    simp (disch := omega) only [h1, h2, h3, h8, intL_get, ↓SXd, SXu, slBounds, ↓sop, ↓aop, ↓reduceIte, LV.cells, AOp.dst, LV.I, LV.B, LV.U, LV.S, LV.nil, Nat.reduceEqDiff, Nat.reduceAdd, Nat.reduceMul, Nat.reduceSub, Nat.reduceLeDiff, Nat.reduceBEq, Nat.reduceDiv, Nat.reduceMod, Int.reduceToNat, Int.reduceLT, Int.reduceLE, Int.reduceAdd, Int.reduceSub, Int.reduceMul, Int.reduceEq, Int.reduceNeg, reduceCtorEq, resV, resAll, ARes.ev, LV.flat, ite_true, ite_false, exists_eq_left', exists_eq_left, keyOf, implies_true, fillC, capOf]
    refine condC_dec (fun hlt => ?_) (fun hlt => ?_)
    · have hk4 : k < 4 := by
        rcases Nat.lt_or_ge k 4 with h4 | h4
        · exact h4
        · have := near4 (cs := cs) hH hp hq h4; unfold Near' at this; omega
      simp (disch := omega) only [h1, h2, h3, h8, ↓SXd, SXu, slBounds, ↓sop, ↓aop, ↓reduceIte, LV.cells, AOp.dst, LV.I, LV.B, LV.U, LV.S, LV.nil, Nat.reduceEqDiff, Nat.reduceAdd, Nat.reduceMul, Nat.reduceSub, Nat.reduceLeDiff, Nat.reduceBEq, Nat.reduceDiv, Nat.reduceMod, Int.reduceToNat, Int.reduceLT, Int.reduceLE, Int.reduceAdd, Int.reduceSub, Int.reduceMul, Int.reduceEq, Int.reduceNeg, reduceCtorEq, resV, resAll, ARes.ev, LV.flat, ite_true, ite_false, exists_eq_left', exists_eq_left, keyOf, implies_true, fillC, capOf]
      refine ⟨m - 1, by omega, k + 1, by omega, hpre.app', hbox.app, h1, h2, h3, eqI (natI _), fun j hj => ?_⟩
      rcases Nat.lt_or_ge j k with h4 | h4
      · exact hl j h4
      · rw [show j = k by omega]; unfold Near'; omega
    · simp (disch := omega) only [h1, h2, h3, h8, ↓SXd, SXu, slBounds, ↓sop, ↓aop, ↓reduceIte, LV.cells, AOp.dst, LV.I, LV.B, LV.U, LV.S, LV.nil, Nat.reduceEqDiff, Nat.reduceAdd, Nat.reduceMul, Nat.reduceSub, Nat.reduceLeDiff, Nat.reduceBEq, Nat.reduceDiv, Nat.reduceMod, Int.reduceToNat, Int.reduceLT, Int.reduceLE, Int.reduceAdd, Int.reduceSub, Int.reduceMul, Int.reduceEq, Int.reduceNeg, reduceCtorEq, resV, resAll, ARes.ev, LV.flat, ite_true, ite_false, exists_eq_left', exists_eq_left, keyOf, implies_true, fillC, capOf]
      rw [leastN_eq (k := k) (show Near' x y cs p q k by unfold Near'; omega) hl]
      exact cmp_pre hpre.app' rfl
  · rw [if_neg hV]
    simp (disch := omega) only [hV, ↓SXd, SXu, slBounds, ↓sop, ↓aop, ↓reduceIte, LV.cells, AOp.dst, LV.I, LV.B, LV.U, LV.S, LV.nil, Nat.reduceEqDiff, Nat.reduceAdd, Nat.reduceMul, Nat.reduceSub, Nat.reduceLeDiff, Nat.reduceBEq, Nat.reduceDiv, Nat.reduceMod, Int.reduceToNat, Int.reduceLT, Int.reduceLE, Int.reduceAdd, Int.reduceSub, Int.reduceMul, Int.reduceEq, Int.reduceNeg, reduceCtorEq, resV, resAll, ARes.ev, LV.flat, ite_true, ite_false, exists_eq_left', exists_eq_left, keyOf, implies_true, fillC, capOf]
    exact cmp_drop rfl

theorem g_LeastReach {x y z p q : Int} {t o : Nat} {cs : List Cell} {M : Mem} (h : Tri M t o cs) (hn : cs.length ≤ 1000000000) :
    CallsTo PG F.impl_LeastReach [.agg [.I x, .I y, .I z, .ref t o cs.length], .I p, .I q] M (.tup [.I ((reachOf x y z cs p q).getD 0 : Nat), .B (reachOf x y z cs p q).isSome]) M := by
  refine calls_run K.impl_LeastReach rfl ?_
  simp (disch := omega) only [C.impl_LeastReach, splice, ↓SXd, SXu, slBounds, ↓sop, ↓aop, ↓reduceIte, LV.cells, AOp.dst, LV.I, LV.B, LV.U, LV.S, LV.nil, Nat.reduceEqDiff, Nat.reduceAdd, Nat.reduceMul, Nat.reduceSub, Nat.reduceLeDiff, Nat.reduceBEq, Nat.reduceDiv, Nat.reduceMod, Int.reduceToNat, Int.reduceLT, Int.reduceLE, Int.reduceAdd, Int.reduceSub, Int.reduceMul, Int.reduceEq, Int.reduceNeg, reduceCtorEq, resV, resAll, ARes.ev, LV.flat, ite_true, ite_false, exists_eq_left', exists_eq_left, keyOf, implies_true, fillC, capOf]
  refine callK_of (g_isTop2 h.app hn (Live.newj (j := 1) rfl)) ?_
  simp (disch := omega) only [↓SXd, SXu, slBounds, ↓sop, ↓aop, ↓reduceIte, LV.cells, AOp.dst, LV.I, LV.B, LV.U, LV.S, LV.nil, Nat.reduceEqDiff, Nat.reduceAdd, Nat.reduceMul, Nat.reduceSub, Nat.reduceLeDiff, Nat.reduceBEq, Nat.reduceDiv, Nat.reduceMod, Int.reduceToNat, Int.reduceLT, Int.reduceLE, Int.reduceAdd, Int.reduceSub, Int.reduceMul, Int.reduceEq, Int.reduceNeg, reduceCtorEq, resV, resAll, ARes.ev, LV.flat, ite_true, ite_false, exists_eq_left', exists_eq_left, keyOf, implies_true, fillC, capOf]
  unfold reachOf
  by_cases hV : (HeapOK x y z cs ∧ (0 ≤ p ∧ p ≤ x * y - 1)) ∧ (0 ≤ q ∧ q ≤ x * y - 1)
  · obtain ⟨⟨hH, hp⟩, hq⟩ := id hV
    have hb := mul_bound hH.1.1 hH.1.2.1
    have htl := topsOf_len x y cs
    rw [if_pos hV]
    simp (disch := omega) only [hH, hp, hq, ↓SXd, SXu, slBounds, ↓sop, ↓aop, ↓reduceIte, LV.cells, AOp.dst, LV.I, LV.B, LV.U, LV.S, LV.nil, Nat.reduceEqDiff, Nat.reduceAdd, Nat.reduceMul, Nat.reduceSub, Nat.reduceLeDiff, Nat.reduceBEq, Nat.reduceDiv, Nat.reduceMod, Int.reduceToNat, Int.reduceLT, Int.reduceLE, Int.reduceAdd, Int.reduceSub, Int.reduceMul, Int.reduceEq, Int.reduceNeg, reduceCtorEq, resV, resAll, ARes.ev, LV.flat, ite_true, ite_false, exists_eq_left', exists_eq_left, keyOf, implies_true, fillC, capOf]
    refine ev_loop (fun m fr M' => ∃ k : Nat, k + m = 4 ∧ Pre M M' ∧ Live M' M.length (.row [.I x, .I y, .I z, .ref t o cs.length] true 0) ∧ fr 1 = .I p ∧ fr 2 = .I q ∧ fr 3 = .ptr M.length 0 ∧ fr 8 = .I k ∧ ∀ j, j < k → ¬ Near' x y cs p q j) 4
      ⟨0, rfl, Pre.app _ _, Live.new, rfl, rfl, rfl, rfl, by omega⟩ ?_
    rintro m fr M' ⟨k, hk, hpre, hbox, h1, h2, h3, h8, hl⟩
    have hsl := spreadOf_len (cs := cs) (s := k) hq
    simp (disch := omega) only [h1, h2, h3, h8, hbox.cells, ↓SXd, SXu, slBounds, ↓sop, ↓aop, ↓reduceIte, LV.cells, AOp.dst, LV.I, LV.B, LV.U, LV.S, LV.nil, Nat.reduceEqDiff, Nat.reduceAdd, Nat.reduceMul, Nat.reduceSub, Nat.reduceLeDiff, Nat.reduceBEq, Nat.reduceDiv, Nat.reduceMod, Int.reduceToNat, Int.reduceLT, Int.reduceLE, Int.reduceAdd, Int.reduceSub, Int.reduceMul, Int.reduceEq, Int.reduceNeg, reduceCtorEq, resV, resAll, ARes.ev, LV.flat, ite_true, ite_false, exists_eq_left', exists_eq_left, keyOf, implies_true, fillC, capOf]
    refine callK_of (g_top (h.pre hpre) hn hH) ?_
    simp (disch := omega) only [h1, h2, h3, h8, ↓SXd, SXu, slBounds, ↓sop, ↓aop, ↓reduceIte, LV.cells, AOp.dst, LV.I, LV.B, LV.U, LV.S, LV.nil, Nat.reduceEqDiff, Nat.reduceAdd, Nat.reduceMul, Nat.reduceSub, Nat.reduceLeDiff, Nat.reduceBEq, Nat.reduceDiv, Nat.reduceMod, Int.reduceToNat, Int.reduceLT, Int.reduceLE, Int.reduceAdd, Int.reduceSub, Int.reduceMul, Int.reduceEq, Int.reduceNeg, reduceCtorEq, resV, resAll, ARes.ev, LV.flat, ite_true, ite_false, exists_eq_left', exists_eq_left, keyOf, implies_true, fillC, capOf]
    refine callK_of (g_distances hH.1.1 hH.1.2.1 hq (Live.new).has htl (topsOf_low hH)) ?_
    simp (disch := omega) only [h1, h2, h3, h8, ↓SXd, SXu, slBounds, ↓sop, ↓aop, ↓reduceIte, LV.cells, AOp.dst, LV.I, LV.B, LV.U, LV.S, LV.nil, Nat.reduceEqDiff, Nat.reduceAdd, Nat.reduceMul, Nat.reduceSub, Nat.reduceLeDiff, Nat.reduceBEq, Nat.reduceDiv, Nat.reduceMod, Int.reduceToNat, Int.reduceLT, Int.reduceLE, Int.reduceAdd, Int.reduceSub, Int.reduceMul, Int.reduceEq, Int.reduceNeg, reduceCtorEq, resV, resAll, ARes.ev, LV.flat, ite_true, ite_false, exists_eq_left', exists_eq_left, keyOf, implies_true, fillC, capOf]
    rw [show farFrom (x * y).toNat (fun r => stepsOf x y (topsOf x y cs) r k) q = spreadOf x y cs q k from rfl]
    simp (disch := omega) only [intL_get, ↓SXd, SXu, slBounds, ↓sop, ↓aop, ↓reduceIte, LV.cells, AOp.dst, LV.I, LV.B, LV.U, LV.S, LV.nil, Nat.reduceEqDiff, Nat.reduceAdd, Nat.reduceMul, Nat.reduceSub, Nat.reduceLeDiff, Nat.reduceBEq, Nat.reduceDiv, Nat.reduceMod, Int.reduceToNat, Int.reduceLT, Int.reduceLE, Int.reduceAdd, Int.reduceSub, Int.reduceMul, Int.reduceEq, Int.reduceNeg, reduceCtorEq, resV, resAll, ARes.ev, LV.flat, ite_true, ite_false, exists_eq_left', exists_eq_left, keyOf, implies_true, fillC, capOf]
    rw [spread_comm hq hp]
    refine condC_dec (fun hlt => ?_) (fun hlt => ?_)
    · have hk4 : k < 4 := by
        rcases Nat.lt_or_ge k 4 with h4 | h4
        · exact h4
        · have := near4 (cs := cs) hH hp hq h4; unfold Near' at this; omega
      simp (disch := omega) only [h1, h2, h3, h8, ↓SXd, SXu, slBounds, ↓sop, ↓aop, ↓reduceIte, LV.cells, AOp.dst, LV.I, LV.B, LV.U, LV.S, LV.nil, Nat.reduceEqDiff, Nat.reduceAdd, Nat.reduceMul, Nat.reduceSub, Nat.reduceLeDiff, Nat.reduceBEq, Nat.reduceDiv, Nat.reduceMod, Int.reduceToNat, Int.reduceLT, Int.reduceLE, Int.reduceAdd, Int.reduceSub, Int.reduceMul, Int.reduceEq, Int.reduceNeg, reduceCtorEq, resV, resAll, ARes.ev, LV.flat, ite_true, ite_false, exists_eq_left', exists_eq_left, keyOf, implies_true, fillC, capOf]
      refine ⟨m - 1, by omega, k + 1, by omega, hpre.app', hbox.app, h1, h2, h3, eqI (natI _), fun j hj => ?_⟩
      rcases Nat.lt_or_ge j k with h4 | h4
      · exact hl j h4
      · rw [show j = k by omega]; unfold Near'; omega
    · simp (disch := omega) only [h1, h2, h3, h8, ↓SXd, SXu, slBounds, ↓sop, ↓aop, ↓reduceIte, LV.cells, AOp.dst, LV.I, LV.B, LV.U, LV.S, LV.nil, Nat.reduceEqDiff, Nat.reduceAdd, Nat.reduceMul, Nat.reduceSub, Nat.reduceLeDiff, Nat.reduceBEq, Nat.reduceDiv, Nat.reduceMod, Int.reduceToNat, Int.reduceLT, Int.reduceLE, Int.reduceAdd, Int.reduceSub, Int.reduceMul, Int.reduceEq, Int.reduceNeg, reduceCtorEq, resV, resAll, ARes.ev, LV.flat, ite_true, ite_false, exists_eq_left', exists_eq_left, keyOf, implies_true, fillC, capOf]
      rw [leastN_eq (k := k) (show Near' x y cs p q k by unfold Near'; omega) hl]
      exact cmp_pre hpre.app' rfl
  · rw [if_neg hV]
    simp (disch := omega) only [hV, ↓SXd, SXu, slBounds, ↓sop, ↓aop, ↓reduceIte, LV.cells, AOp.dst, LV.I, LV.B, LV.U, LV.S, LV.nil, Nat.reduceEqDiff, Nat.reduceAdd, Nat.reduceMul, Nat.reduceSub, Nat.reduceLeDiff, Nat.reduceBEq, Nat.reduceDiv, Nat.reduceMod, Int.reduceToNat, Int.reduceLT, Int.reduceLE, Int.reduceAdd, Int.reduceSub, Int.reduceMul, Int.reduceEq, Int.reduceNeg, reduceCtorEq, resV, resAll, ARes.ev, LV.flat, ite_true, ite_false, exists_eq_left', exists_eq_left, keyOf, implies_true, fillC, capOf]
    exact cmp_drop rfl
end Go.Ab

/- Plain words: least climbs. -/
namespace Go.Ab

def relax1 (ts : List Int) (a c : Int) (st : List Int × Bool) (b : Int) : List Int × Bool :=
  if st.1.getD b.toNat 0 < 0 ∨ c + max (ts.getD b.toNat 0 - ts.getD a.toNat 0) 0 < st.1.getD b.toNat 0 then (st.1.set b.toNat (c + max (ts.getD b.toNat 0 - ts.getD a.toNat 0) 0), true) else st
def relaxCol (ts : List Int) (St : Int → List Int) (st : List Int × Bool) (a : Int) : List Int × Bool :=
  if st.1.getD a.toNat 0 < 0 then st else (St a).foldl (relax1 ts a (st.1.getD a.toNat 0)) st
def climbRound (ts : List Int) (St : Int → List Int) (c : Nat) (best : List Int) : List Int × Bool := (nums c).foldl (relaxCol ts St) (best, false)
def climbLoop (ts : List Int) (St : Int → List Int) (c : Nat) : Nat → List Int → List Int
  | 0, best => best
  | f + 1, best => if (climbRound ts St c best).2 then climbLoop ts St c f (climbRound ts St c best).1 else (climbRound ts St c best).1

theorem climb_step {ts : List Int} {St : Int → List Int} {c f : Nat} {best R : List Int} (h : climbLoop ts St c (f + 1) best = R) {r : List Int × Bool} (hr : (nums c).foldl (relaxCol ts St) (best, false) = r) :
    (r.2 = true → climbLoop ts St c f r.1 = R) ∧ (r.2 = false → r.1 = R) := by
  have hr' : climbRound ts St c best = r := hr
  simp only [climbLoop, hr'] at h
  exact ⟨fun e => by rw [if_pos e] at h; exact h, fun e => by rw [e] at h; simpa using h⟩
def phiOf (v : Int) : Nat := if v < 0 then 100 else v.toNat
def phi (best : List Int) : Nat := (best.map phiOf).sum

theorem phi_set : ∀ {l : List Int} {i : Nat} {v : Int}, i < l.length → phi (l.set i v) + phiOf (l.getD i 0) = phi l + phiOf v
  | [], _, _, h => by simp at h
  | a :: l, 0, v, _ => by simp only [phi, List.set_cons_zero, List.map_cons, List.sum_cons, List.getD_cons_zero]; omega
  | a :: l, i + 1, v, h => by
    have := phi_set (l := l) (i := i) (v := v) (by simpa using h)
    simp only [phi, List.set_cons_succ, List.map_cons, List.sum_cons, List.getD_cons_succ] at this ⊢
    omega

def cnt0 (l : List Int) : Nat := l.countP fun v => decide (0 ≤ v)
theorem cnt0_set : ∀ {l : List Int} {i : Nat} {v : Int}, i < l.length → 0 ≤ v → cnt0 l ≤ cnt0 (l.set i v) ∧ (l.getD i 0 < 0 → cnt0 l + 1 ≤ cnt0 (l.set i v))
  | [], _, _, h, _ => by simp at h
  | a :: l, 0, v, _, hv => by
    simp only [cnt0, List.set_cons_zero, List.countP_cons, List.getD_cons_zero, decide_eq_true_eq, hv, if_true]
    constructor
    · split <;> omega
    · intro h; rw [if_neg (by omega)]; omega
  | a :: l, i + 1, v, h, hv => by
    have := cnt0_set (l := l) (i := i) (v := v) (by simpa using h) hv
    simp only [cnt0, List.set_cons_succ, List.countP_cons, List.getD_cons_succ] at this ⊢
    exact ⟨by omega, fun h => by have := this.2 h; omega⟩

structure CI (c : Nat) (N : Int → List Int) (p : Int) (best : List Int) : Prop where
  len : best.length = c
  lo : ∀ k, k < c → -1 ≤ best.getD k 0
  hi : ∀ k, k < c → best.getD k 0 ≤ 4 * (cnt0 best : Int) - 4
  root : 0 ≤ best.getD p.toNat 0
  way : ∀ v : Int, 0 ≤ v → v < c → 0 ≤ best.getD v.toNat 0 → ∃ n, Way N p n v

theorem CI.top {c : Nat} {N : Int → List Int} {p : Int} {best : List Int} (h : CI c N p best) (hc : c ≤ 16) : ∀ k, k < c → best.getD k 0 ≤ 60 := fun k hk => by
  have h1 := h.hi k hk
  have h2 : cnt0 best ≤ best.length := List.countP_le_length
  have h3 := h.len
  omega

section
variable {c : Nat} {N : Int → List Int} {p : Int} {ts : List Int} (hN : ∀ p q, q ∈ N p → 0 ≤ q ∧ q < (c : Int)) (hne : ∀ p, p ∉ N p) (hts : ∀ k, 0 ≤ ts.getD k 0 ∧ ts.getD k 0 ≤ 4) (hc : c ≤ 16)
include hN hne hts hc

/-- One look at a neighbour. -/
theorem relax1_ok {a b v : Int} {st : List Int × Bool} (ha : 0 ≤ a ∧ a < c) (h : CI c N p st.1) (hv : st.1.getD a.toNat 0 = v) (hv0 : 0 ≤ v) (hb : b ∈ N a) :
    CI c N p (relax1 ts a v st b).1 ∧ (relax1 ts a v st b).1.getD a.toNat 0 = v ∧ phi (relax1 ts a v st b).1 + (if (relax1 ts a v st b).2 then 1 else 0) ≤ phi st.1 + (if st.2 then 1 else 0) ∧
      ((relax1 ts a v st b).2 = false → relax1 ts a v st b = st ∧ 0 ≤ st.1.getD b.toNat 0) := by
  have hbc := hN a b hb
  have hab : a ≠ b := fun e => hne a (by rw [← e] at hb; exact hb)
  have hbl : b.toNat < st.1.length := by rw [h.len]; omega
  unfold relax1
  split
  · rename_i hlt
    have ht1 := hts b.toNat
    have ht2 := hts a.toNat
    have hva := h.hi a.toNat (by omega)
    have hcs := cnt0_set (l := st.1) (i := b.toNat) (v := v + max (ts.getD b.toNat 0 - ts.getD a.toNat 0) 0) hbl (by omega)
    have hph := phi_set (l := st.1) (i := b.toNat) (v := v + max (ts.getD b.toNat 0 - ts.getD a.toNat 0) 0) hbl
    have hbl2 := h.lo b.toNat (by omega)
    have htop := h.top hc a.toNat (by omega)
    refine ⟨⟨by simpa using h.len, fun k hk => ?_, fun k hk => ?_, ?_, fun w h0 hw hd => ?_⟩, ?_, ?_, fun e => by cases e⟩
    · rw [getD_set]; have := h.lo k hk; split <;> omega
    · show (st.1.set b.toNat _).getD k 0 ≤ 4 * (cnt0 (st.1.set b.toNat (v + max (ts.getD b.toNat 0 - ts.getD a.toNat 0) 0)) : Int) - 4
      rw [getD_set]
      have h1 := h.hi k hk
      split
      · by_cases hn : st.1.getD b.toNat 0 < 0
        · have := hcs.2 hn; omega
        · have h2 := h.hi b.toNat (by omega); omega
      · omega
    · rw [getD_set]; have := h.root; split <;> omega
    · rw [getD_set] at hd
      by_cases e : w.toNat = b.toNat
      · obtain ⟨n, hn⟩ := h.way a ha.1 ha.2 (by omega)
        rw [show w = b by omega]
        exact ⟨n + 1, .snoc hn hb⟩
      · rw [if_neg (fun x => e x.1)] at hd
        exact h.way w h0 hw hd
    · simp only [getD_set]; rw [if_neg (fun x => hab (by omega))]; exact hv
    · simp only [if_true]
      have : phiOf (v + max (ts.getD b.toNat 0 - ts.getD a.toNat 0) 0) + 1 ≤ phiOf (st.1.getD b.toNat 0) := by
        unfold phiOf
        rw [if_neg (by omega)]
        split <;> omega
      omega
  · rename_i hge
    exact ⟨h, hv, by omega, fun _ => ⟨rfl, by omega⟩⟩

theorem relaxL_ok {a v : Int} (ha : 0 ≤ a ∧ a < c) (hv0 : 0 ≤ v) : ∀ (l : List Int) (st : List Int × Bool), CI c N p st.1 → st.1.getD a.toNat 0 = v → (∀ b ∈ l, b ∈ N a) →
    CI c N p (l.foldl (relax1 ts a v) st).1 ∧ (l.foldl (relax1 ts a v) st).1.getD a.toNat 0 = v ∧ phi (l.foldl (relax1 ts a v) st).1 + (if (l.foldl (relax1 ts a v) st).2 then 1 else 0) ≤ phi st.1 + (if st.2 then 1 else 0) ∧
      ((l.foldl (relax1 ts a v) st).2 = false → l.foldl (relax1 ts a v) st = st ∧ ∀ b ∈ l, 0 ≤ st.1.getD b.toNat 0) := by
  intro l
  induction l with
  | nil => intro st h hv _; exact ⟨h, hv, Nat.le_refl _, fun _ => ⟨rfl, fun b hb => by cases hb⟩⟩
  | cons b l ih =>
    intro st h hv hl
    obtain ⟨h1, h2, h3, h4⟩ := relax1_ok (p := p) hN hne hts hc ha h hv hv0 (hl b (by simp))
    obtain ⟨k1, k2, k3, k4⟩ := ih _ h1 h2 fun r hr => hl r (by simp [hr])
    refine ⟨k1, k2, Nat.le_trans k3 h3, fun e => ?_⟩
    obtain ⟨e1, e2⟩ := k4 e
    have e3 : (relax1 ts a v st b).2 = false := by rw [List.foldl_cons] at e; rw [← e1]; exact e
    obtain ⟨e4, e5⟩ := h4 e3
    rw [e4] at e1 e2
    exact ⟨by rw [List.foldl_cons, e4]; exact e1, fun r hr => by
      rcases List.mem_cons.1 hr with rfl | hr
      · exact e5
      · exact e2 r hr⟩

theorem relaxCol_ok {a : Int} (ha : 0 ≤ a ∧ a < c) (st : List Int × Bool) (h : CI c N p st.1) :
    CI c N p (relaxCol ts N st a).1 ∧ phi (relaxCol ts N st a).1 + (if (relaxCol ts N st a).2 then 1 else 0) ≤ phi st.1 + (if st.2 then 1 else 0) ∧
      ((relaxCol ts N st a).2 = false → relaxCol ts N st a = st ∧ (0 ≤ st.1.getD a.toNat 0 → ∀ b ∈ N a, 0 ≤ st.1.getD b.toNat 0)) := by
  unfold relaxCol
  split
  · rename_i hlt; exact ⟨h, Nat.le_refl _, fun _ => ⟨rfl, fun h => by omega⟩⟩
  · rename_i hge
    obtain ⟨k1, _, k3, k4⟩ := relaxL_ok hN hne hts hc ha (v := st.1.getD a.toNat 0) (by omega) (N a) st h rfl fun b hb => hb
    exact ⟨k1, k3, fun e => ⟨(k4 e).1, fun _ => (k4 e).2⟩⟩

theorem roundL_ok : ∀ (k : Nat) (best : List Int), k ≤ c → CI c N p best →
    CI c N p ((nums k).foldl (relaxCol ts N) (best, false)).1 ∧ phi ((nums k).foldl (relaxCol ts N) (best, false)).1 + (if ((nums k).foldl (relaxCol ts N) (best, false)).2 then 1 else 0) ≤ phi best ∧
      (((nums k).foldl (relaxCol ts N) (best, false)).2 = false → (nums k).foldl (relaxCol ts N) (best, false) = (best, false) ∧ ∀ a : Int, 0 ≤ a → a < k → 0 ≤ best.getD a.toNat 0 → ∀ b ∈ N a, 0 ≤ best.getD b.toNat 0) := by
  intro k
  induction k with
  | zero => intro best _ h; exact ⟨h, Nat.le_refl _, fun _ => ⟨rfl, fun a h1 h2 => by omega⟩⟩
  | succ k ih =>
    intro best hk h
    obtain ⟨h1, h2, h3⟩ := ih best (by omega) h
    rw [nums_succ, List.foldl_append]
    obtain ⟨k1, k2, k3⟩ := relaxCol_ok (a := (k : Int)) hN hne hts hc (by omega) _ h1
    refine ⟨k1, Nat.le_trans k2 h2, fun e => ?_⟩
    obtain ⟨e1, e2⟩ := k3 e
    have e3 : ((nums k).foldl (relaxCol ts N) (best, false)).2 = false := by rw [← e1]; exact e
    obtain ⟨e4, e5⟩ := h3 e3
    rw [e4] at e1 e2
    refine ⟨by rw [e4]; exact e1, fun a ha1 ha2 hd b hb => ?_⟩
    rcases Int.lt_or_le a k with h5 | h5
    · exact e5 a ha1 h5 hd b hb
    · rw [show a = (k : Int) by omega] at hd hb; exact e2 hd b hb

theorem climb_ok : ∀ (f : Nat) (best : List Int), phi best < f → CI c N p best → CI c N p (climbLoop ts N c f best) ∧
    ∀ a : Int, 0 ≤ a → a < c → 0 ≤ (climbLoop ts N c f best).getD a.toNat 0 → ∀ b ∈ N a, 0 ≤ (climbLoop ts N c f best).getD b.toNat 0 := by
  intro f
  induction f with
  | zero => intro best hf; omega
  | succ f ih =>
    intro best hf h
    obtain ⟨h1, h2, h3⟩ : CI c N p (climbRound ts N c best).1 ∧ phi (climbRound ts N c best).1 + (if (climbRound ts N c best).2 then 1 else 0) ≤ phi best ∧ ((climbRound ts N c best).2 = false → climbRound ts N c best = (best, false) ∧ ∀ a : Int, 0 ≤ a → a < c → 0 ≤ best.getD a.toNat 0 → ∀ b ∈ N a, 0 ≤ best.getD b.toNat 0) :=
      roundL_ok (p := p) hN hne hts hc c best (Nat.le_refl _) h
    simp only [climbLoop]
    by_cases hch : (climbRound ts N c best).2 = true
    · simp only [hch, if_true] at h2 ⊢
      exact ih _ (by omega) h1
    · obtain ⟨e1, e2⟩ := h3 (by simpa using hch)
      rw [if_neg hch, e1]
      exact ⟨h, e2⟩

/-- A climb is known just of the columns that are reached. -/
theorem climb_iff {f : Nat} {best : List Int} (hf : phi best < f) (h : CI c N p best) (hp : 0 ≤ p ∧ p < c) {q : Int} (hq : 0 ≤ q ∧ q < c) : 0 ≤ (climbLoop ts N c f best).getD q.toNat 0 ↔ 0 ≤ (farFrom c N p).getD q.toNat 0 := by
  obtain ⟨h1, h2⟩ := climb_ok hN hne hts hc f best hf h
  constructor
  · intro hd
    obtain ⟨n, hn⟩ := h1.way q hq.1 hq.2 hd
    exact (far_le hN hp hn).1
  · intro hd
    have hw := far_way hN hp hq (n := ((farFrom c N p).getD q.toNat 0).toNat) (by omega)
    have key : ∀ {n : Nat} {q : Int}, Way N p n q → 0 ≤ (climbLoop ts N c f best).getD q.toNat 0 := by
      intro n q w
      induction w with
      | nil => exact h1.root
      | snoc w' hb ih => exact h2 _ (w'.in_ hN hp).1 (w'.in_ hN hp).2 ih _ hb
    exact key hw
end

def climbStart (c : Nat) (p : Int) : List Int := (List.replicate c (-1)).set p.toNat 0
theorem climbStart_ok {c : Nat} {N : Int → List Int} {p : Int} (hp : 0 ≤ p ∧ p < c) (hc : c ≤ 16) : CI c N p (climbStart c p) ∧ phi (climbStart c p) < 2000 := by
  have hpl : p.toNat < (List.replicate c (-1 : Int)).length := by simp; omega
  have hd : ∀ k, k < c → (climbStart c p).getD k 0 = if k = p.toNat then 0 else -1 := fun k hk => by
    unfold climbStart
    rw [getD_set]
    by_cases e : k = p.toNat
    · rw [if_pos ⟨e, hpl⟩, if_pos e]
    · rw [if_neg (fun h => e h.1), if_neg e]; simp [hk]
  have hcn := (cnt0_set (l := List.replicate c (-1)) (i := p.toNat) (v := 0) hpl (by omega)).2 (by simp [List.getD_eq_getElem?_getD, List.getElem?_replicate]; rw [if_pos (by omega)]; simp)
  refine ⟨⟨by simp [climbStart], fun k hk => ?_, fun k hk => ?_, ?_, fun v h0 h1 h2 => ?_⟩, ?_⟩
  · rw [hd k hk]; split <;> omega
  · rw [hd k hk]
    unfold climbStart
    split <;> omega
  · rw [hd _ (by omega), if_pos rfl]; exact Int.le_refl 0
  · rw [hd _ (by omega)] at h2
    split at h2
    · rw [show v = p by omega]; exact ⟨0, .nil⟩
    · omega
  · have := phi_set (l := List.replicate c (-1)) (i := p.toNat) (v := 0) hpl
    have h2 : phi (List.replicate c (-1)) = c * 100 := by
      unfold phi
      rw [List.map_replicate, List.sum_replicate_nat]; rfl
    unfold climbStart
    have h3 : phiOf 0 = 0 := rfl
    omega
end Go.Ab

/- Contracts: least climbs, both sides. -/
namespace Go.Ab
open Go
set_option linter.unusedSimpArgs false
set_option linter.unusedVariables false

/-- The least climbs from a column to all others. -/
def climbs (x y : Int) (cs : List Cell) (p s : Int) : List Int := climbLoop (topsOf x y cs) (fun r => stepsOf x y (topsOf x y cs) r s) (x * y).toNat 2000 (climbStart (x * y).toNat p)
/-- What LeastClimb answers. -/
noncomputable def climbOf (x y z : Int) (cs : List Cell) (p q s : Int) : Option Int := by
  classical
  exact if ((HeapOK x y z cs ∧ (0 ≤ p ∧ p ≤ x * y - 1)) ∧ (0 ≤ q ∧ q ≤ x * y - 1) ∧ 0 ≤ s) ∧ 0 ≤ (spreadOf x y cs p s).getD q.toNat 0 then some ((climbs x y cs p s).getD q.toNat 0) else none

theorem climbs_iff {x y z p q s : Int} {cs : List Cell} (hH : HeapOK x y z cs) (hp : 0 ≤ p ∧ p ≤ x * y - 1) (hq : 0 ≤ q ∧ q ≤ x * y - 1) : 0 ≤ (climbs x y cs p s).getD q.toNat 0 ↔ 0 ≤ (spreadOf x y cs p s).getD q.toNat 0 := by
  have hb := mul_bound hH.1.1 hH.1.2.1
  obtain ⟨h1, h2⟩ := climbStart_ok (c := (x * y).toNat) (N := fun r => stepsOf x y (topsOf x y cs) r s) (p := p) (by omega) (by omega)
  exact climb_iff steps_in (fun _ => steps_ne) (topsOf_low4 hH) (by omega) h2 h1 (by omega) (by omega)

theorem nums_take_succ {α : Type} (f : α → Int → α) (b : α) (l : List Int) (k : Nat) (h : k < l.length) : (l.take (k + 1)).foldl f b = f ((l.take k).foldl f b) (l.getD k 0) := take_succ_foldl f b l k 0 h

section
variable {x y z s p : Int} {cs : List Cell} (hH : HeapOK x y z cs)
include hH

/-- What is known within a round. -/
theorem mid_ok {k : Nat} {best : List Int} (hk : k ≤ (x * y).toNat) (h : CI (x * y).toNat (fun r => stepsOf x y (topsOf x y cs) r s) p best) :
    CI (x * y).toNat (fun r => stepsOf x y (topsOf x y cs) r s) p ((nums k).foldl (relaxCol (topsOf x y cs) (fun r => stepsOf x y (topsOf x y cs) r s)) (best, false)).1 := by
  have hb := mul_bound hH.1.1 hH.1.2.1
  exact (roundL_ok steps_in (fun _ => steps_ne) (topsOf_low4 hH) (by omega) k best hk h).1
theorem in_ok {k i : Nat} {v : Int} {st : List Int × Bool} (hk : k < (x * y).toNat) (h : CI (x * y).toNat (fun r => stepsOf x y (topsOf x y cs) r s) p st.1) (hv : st.1.getD k 0 = v) (hv0 : 0 ≤ v) :
    CI (x * y).toNat (fun r => stepsOf x y (topsOf x y cs) r s) p (((stepsOf x y (topsOf x y cs) k s).take i).foldl (relax1 (topsOf x y cs) k v) st).1 ∧
      (((stepsOf x y (topsOf x y cs) k s).take i).foldl (relax1 (topsOf x y cs) k v) st).1.getD k 0 = v := by
  have hb := mul_bound hH.1.1 hH.1.2.1
  obtain ⟨h1, h2, _⟩ := relaxL_ok (N := fun r => stepsOf x y (topsOf x y cs) r s) steps_in (fun _ => steps_ne) (topsOf_low4 hH) (by omega) (a := (k : Int)) (v := v) (by omega) hv0 ((stepsOf x y (topsOf x y cs) k s).take i) st h hv (fun b hb => List.mem_of_mem_take hb)
  exact ⟨h1, h2⟩
end

theorem h_sLeastClimb {x y z p q s : Int} {t o : Nat} {cs : List Cell} {M : Mem} (h : Tri M t o cs) (hn : cs.length ≤ 1000000000) :
    CallsTo PG F.spec_LeastClimb [.agg [.I x, .I y, .I z, .ref t o cs.length], .I p, .I q, .I s] M (.tup [.I ((climbOf x y z cs p q s).getD 0), .B (climbOf x y z cs p q s).isSome]) M := by
  refine calls_run K.spec_LeastClimb rfl ?_
  simp (disch := omega) only [C.spec_LeastClimb, ↓SXd, SXu, slBounds, ↓sop, ↓aop, ↓reduceIte, LV.cells, AOp.dst, LV.I, LV.B, LV.U, LV.S, LV.nil, Nat.reduceEqDiff, Nat.reduceAdd, Nat.reduceMul, Nat.reduceSub, Nat.reduceLeDiff, Nat.reduceBEq, Nat.reduceDiv, Nat.reduceMod, Int.reduceToNat, Int.reduceLT, Int.reduceLE, Int.reduceAdd, Int.reduceSub, Int.reduceMul, Int.reduceEq, Int.reduceNeg, reduceCtorEq, resV, resAll, ARes.ev, LV.flat, ite_true, ite_false, exists_eq_left', exists_eq_left, keyOf, implies_true, fillC, capOf]
  refine callK_of (h_l10Both h.app hn) ?_
  simp (disch := omega) only [↓SXd, SXu, slBounds, ↓sop, ↓aop, ↓reduceIte, LV.cells, AOp.dst, LV.I, LV.B, LV.U, LV.S, LV.nil, Nat.reduceEqDiff, Nat.reduceAdd, Nat.reduceMul, Nat.reduceSub, Nat.reduceLeDiff, Nat.reduceBEq, Nat.reduceDiv, Nat.reduceMod, Int.reduceToNat, Int.reduceLT, Int.reduceLE, Int.reduceAdd, Int.reduceSub, Int.reduceMul, Int.reduceEq, Int.reduceNeg, reduceCtorEq, resV, resAll, ARes.ev, LV.flat, ite_true, ite_false, exists_eq_left', exists_eq_left, keyOf, implies_true, fillC, capOf]
  unfold climbOf
  by_cases hV : (HeapOK x y z cs ∧ (0 ≤ p ∧ p ≤ x * y - 1)) ∧ (0 ≤ q ∧ q ≤ x * y - 1) ∧ 0 ≤ s
  · obtain ⟨⟨hH, hp⟩, hq, hs⟩ := id hV
    have hb := mul_bound hH.1.1 hH.1.2.1
    have hsl := spreadOf_len (cs := cs) (s := s) hp
    have htl := topsOf_len x y cs
    simp (disch := omega) only [hV, ↓SXd, SXu, slBounds, ↓sop, ↓aop, ↓reduceIte, LV.cells, AOp.dst, LV.I, LV.B, LV.U, LV.S, LV.nil, Nat.reduceEqDiff, Nat.reduceAdd, Nat.reduceMul, Nat.reduceSub, Nat.reduceLeDiff, Nat.reduceBEq, Nat.reduceDiv, Nat.reduceMod, Int.reduceToNat, Int.reduceLT, Int.reduceLE, Int.reduceAdd, Int.reduceSub, Int.reduceMul, Int.reduceEq, Int.reduceNeg, reduceCtorEq, resV, resAll, ARes.ev, LV.flat, ite_true, ite_false, exists_eq_left', exists_eq_left, keyOf, implies_true, fillC, capOf]
    refine callK_of (h_l10Spread h.app hn hH hp) ?_
    simp (disch := omega) only [intL_get, ↓SXd, SXu, slBounds, ↓sop, ↓aop, ↓reduceIte, LV.cells, AOp.dst, LV.I, LV.B, LV.U, LV.S, LV.nil, Nat.reduceEqDiff, Nat.reduceAdd, Nat.reduceMul, Nat.reduceSub, Nat.reduceLeDiff, Nat.reduceBEq, Nat.reduceDiv, Nat.reduceMod, Int.reduceToNat, Int.reduceLT, Int.reduceLE, Int.reduceAdd, Int.reduceSub, Int.reduceMul, Int.reduceEq, Int.reduceNeg, reduceCtorEq, resV, resAll, ARes.ev, LV.flat, ite_true, ite_false, exists_eq_left', exists_eq_left, keyOf, implies_true, fillC, capOf]
    refine condC_dec (fun hneg => ?_) (fun hneg => ?_)
    · rw [if_neg (fun e => by omega)]
      simp (disch := omega) only [↓SXd, SXu, slBounds, ↓sop, ↓aop, ↓reduceIte, LV.cells, AOp.dst, LV.I, LV.B, LV.U, LV.S, LV.nil, Nat.reduceEqDiff, Nat.reduceAdd, Nat.reduceMul, Nat.reduceSub, Nat.reduceLeDiff, Nat.reduceBEq, Nat.reduceDiv, Nat.reduceMod, Int.reduceToNat, Int.reduceLT, Int.reduceLE, Int.reduceAdd, Int.reduceSub, Int.reduceMul, Int.reduceEq, Int.reduceNeg, reduceCtorEq, resV, resAll, ARes.ev, LV.flat, ite_true, ite_false, exists_eq_left', exists_eq_left, keyOf, implies_true, fillC, capOf]
      exact cmp_drop rfl
    · rw [if_pos (show 0 ≤ (spreadOf x y cs p s).getD q.toNat 0 by omega)]
      simp (disch := omega) only [made_int, fillC, ↓SXd, SXu, slBounds, ↓sop, ↓aop, ↓reduceIte, LV.cells, AOp.dst, LV.I, LV.B, LV.U, LV.S, LV.nil, Nat.reduceEqDiff, Nat.reduceAdd, Nat.reduceMul, Nat.reduceSub, Nat.reduceLeDiff, Nat.reduceBEq, Nat.reduceDiv, Nat.reduceMod, Int.reduceToNat, Int.reduceLT, Int.reduceLE, Int.reduceAdd, Int.reduceSub, Int.reduceMul, Int.reduceEq, Int.reduceNeg, reduceCtorEq, resV, resAll, ARes.ev, LV.flat, ite_true, ite_false, exists_eq_left', exists_eq_left, keyOf, implies_true, fillC, capOf]
      refine callK_of (h_l2Tops h.app hn hH) ?_
      simp (disch := omega) only [↓SXd, SXu, slBounds, ↓sop, ↓aop, ↓reduceIte, LV.cells, AOp.dst, LV.I, LV.B, LV.U, LV.S, LV.nil, Nat.reduceEqDiff, Nat.reduceAdd, Nat.reduceMul, Nat.reduceSub, Nat.reduceLeDiff, Nat.reduceBEq, Nat.reduceDiv, Nat.reduceMod, Int.reduceToNat, Int.reduceLT, Int.reduceLE, Int.reduceAdd, Int.reduceSub, Int.reduceMul, Int.reduceEq, Int.reduceNeg, reduceCtorEq, resV, resAll, ARes.ev, LV.flat, ite_true, ite_false, exists_eq_left', exists_eq_left, keyOf, implies_true, fillC, capOf]
      have hci := climbStart_ok (c := (x * y).toNat) (N := fun r => stepsOf x y (topsOf x y cs) r s) (p := p) (by omega) (by omega)
      refine ev_loop (fun m fr M' => ∃ k : Nat, k + m = (x * y).toNat ∧ M' = M ++ [some (Blk.row [.I x, .I y, .I z, .ref t o cs.length] true 0), some (.row (intL (spreadOf x y cs p s)) true 1), some (.row (intL (List.replicate k (-1) ++ List.replicate ((x * y).toNat - k) 0)) true 1), some (.row (intL (topsOf x y cs)) true 1)] ∧
        fr 1 = .I p ∧ fr 2 = .I q ∧ fr 3 = .I s ∧ fr 4 = .ptr M.length 0 ∧ fr 10 = .ref (M.length + 2) 0 (x * y).toNat ∧ fr 11 = .ref (M.length + 3) 0 (x * y).toNat ∧ fr 12 = .I k) (x * y).toNat
        ⟨0, by omega, rfl, rfl, rfl, rfl, rfl, rfl, rfl, rfl⟩ ?_
      rintro m fr M' ⟨k, hk, rfl, f1, f2, f3, f4, f10, f11, f12⟩
      have hlen : (List.replicate k (-1 : Int) ++ List.replicate ((x * y).toNat - k) 0).length = (x * y).toNat := by simp; omega
      simp (disch := omega) only [f1, f2, f3, f4, f10, f11, f12, ↓SXd, SXu, slBounds, ↓sop, ↓aop, ↓reduceIte, LV.cells, AOp.dst, LV.I, LV.B, LV.U, LV.S, LV.nil, Nat.reduceEqDiff, Nat.reduceAdd, Nat.reduceMul, Nat.reduceSub, Nat.reduceLeDiff, Nat.reduceBEq, Nat.reduceDiv, Nat.reduceMod, Int.reduceToNat, Int.reduceLT, Int.reduceLE, Int.reduceAdd, Int.reduceSub, Int.reduceMul, Int.reduceEq, Int.reduceNeg, reduceCtorEq, resV, resAll, ARes.ev, LV.flat, ite_true, ite_false, exists_eq_left', exists_eq_left, keyOf, implies_true, fillC, capOf]
      refine condC_dec (fun hlt => ?_) (fun hlt => ?_)
      · simp (disch := omega) only [f1, f2, f3, f4, f10, f11, f12, intL_len, hlen, splice_int, ↓SXd, SXu, slBounds, ↓sop, ↓aop, ↓reduceIte, LV.cells, AOp.dst, LV.I, LV.B, LV.U, LV.S, LV.nil, Nat.reduceEqDiff, Nat.reduceAdd, Nat.reduceMul, Nat.reduceSub, Nat.reduceLeDiff, Nat.reduceBEq, Nat.reduceDiv, Nat.reduceMod, Int.reduceToNat, Int.reduceLT, Int.reduceLE, Int.reduceAdd, Int.reduceSub, Int.reduceMul, Int.reduceEq, Int.reduceNeg, reduceCtorEq, resV, resAll, ARes.ev, LV.flat, ite_true, ite_false, exists_eq_left', exists_eq_left, keyOf, implies_true, fillC, capOf]
        refine ⟨m - 1, by omega, k + 1, by omega, ?_, f1, f2, f3, f4, f10, f11, eqI (natI _)⟩
        rw [← fill_rep (by omega)]
      · have hk' : k = (x * y).toNat := by omega
        subst hk'
        have hCl : (List.replicate (x * y).toNat (-1 : Int)).length = (x * y).toNat := by simp
        simp (disch := omega) only [f1, f2, f3, f4, f10, f11, f12, intL_len, hCl, hlen, splice_int, Nat.sub_self, List.replicate_zero, List.append_nil, ↓SXd, SXu, slBounds, ↓sop, ↓aop, ↓reduceIte, LV.cells, AOp.dst, LV.I, LV.B, LV.U, LV.S, LV.nil, Nat.reduceEqDiff, Nat.reduceAdd, Nat.reduceMul, Nat.reduceSub, Nat.reduceLeDiff, Nat.reduceBEq, Nat.reduceDiv, Nat.reduceMod, Int.reduceToNat, Int.reduceLT, Int.reduceLE, Int.reduceAdd, Int.reduceSub, Int.reduceMul, Int.reduceEq, Int.reduceNeg, reduceCtorEq, resV, resAll, ARes.ev, LV.flat, ite_true, ite_false, exists_eq_left', exists_eq_left, keyOf, implies_true, fillC, capOf]
        rw [show (List.replicate (x * y).toNat (-1 : Int)).set p.toNat 0 = climbStart (x * y).toNat p from rfl]
        obtain ⟨hci, hphi⟩ := hci
        have hR : climbs x y cs p s = climbLoop (topsOf x y cs) (fun r => stepsOf x y (topsOf x y cs) r s) (x * y).toNat 2000 (climbStart (x * y).toNat p) := rfl
        generalize climbs x y cs p s = R at hR ⊢
        clear hlen hk hlt
        refine ev_loop (fun m fr M' => ∃ (best : List Int) (ch : Bool), CI (x * y).toNat (fun r => stepsOf x y (topsOf x y cs) r s) p best ∧ (ch = true → phi best < m ∧ climbLoop (topsOf x y cs) (fun r => stepsOf x y (topsOf x y cs) r s) (x * y).toNat m best = R) ∧ (ch = false → best = R) ∧
          Pre M M' ∧ Live M' M.length (.row [.I x, .I y, .I z, .ref t o cs.length] true 0) ∧ Live M' (M.length + 2) (.row (intL best) true 1) ∧ Live M' (M.length + 3) (.row (intL (topsOf x y cs)) true 1) ∧
          fr 2 = .I q ∧ fr 3 = .I s ∧ fr 4 = .ptr M.length 0 ∧ fr 10 = .ref (M.length + 2) 0 (x * y).toNat ∧ fr 11 = .ref (M.length + 3) 0 (x * y).toNat ∧ fr 13 = .B ch) 2000
          ⟨_, true, hci, fun _ => ⟨hphi, hR.symm⟩, fun e => (by cases e), Pre.app _ _, Live.new, Live.newj rfl, Live.newj rfl, f2, f3, f4, f10, f11, rfl⟩ ?_
        clear f1 f2 f3 f4 f10 f11 f12 hci hphi hR
        rintro m fr M' ⟨best, ch, hci, hch1, hch2, hpre, hbox, hbest, htop, f2, f3, f4, f10, f11, f13⟩
        have hbl := hci.len
        cases ch with
        | false =>
          simp (disch := omega) only [f2, f3, f4, f10, f11, f13, intL_get, hbest.cell, ↓SXd, SXu, slBounds, ↓sop, ↓aop, ↓reduceIte, LV.cells, AOp.dst, LV.I, LV.B, LV.U, LV.S, LV.nil, Nat.reduceEqDiff, Nat.reduceAdd, Nat.reduceMul, Nat.reduceSub, Nat.reduceLeDiff, Nat.reduceBEq, Nat.reduceDiv, Nat.reduceMod, Int.reduceToNat, Int.reduceLT, Int.reduceLE, Int.reduceAdd, Int.reduceSub, Int.reduceMul, Int.reduceEq, Int.reduceNeg, reduceCtorEq, resV, resAll, ARes.ev, LV.flat, ite_true, ite_false, exists_eq_left', exists_eq_left, keyOf, implies_true, fillC, capOf]
          rw [hch2 rfl]
          exact cmp_pre hpre rfl
        | true =>
          obtain ⟨hphi, hloop⟩ := hch1 rfl
          simp (disch := omega) only [f2, f3, f4, f10, f11, f13, ↓SXd, SXu, slBounds, ↓sop, ↓aop, ↓reduceIte, LV.cells, AOp.dst, LV.I, LV.B, LV.U, LV.S, LV.nil, Nat.reduceEqDiff, Nat.reduceAdd, Nat.reduceMul, Nat.reduceSub, Nat.reduceLeDiff, Nat.reduceBEq, Nat.reduceDiv, Nat.reduceMod, Int.reduceToNat, Int.reduceLT, Int.reduceLE, Int.reduceAdd, Int.reduceSub, Int.reduceMul, Int.reduceEq, Int.reduceNeg, reduceCtorEq, resV, resAll, ARes.ev, LV.flat, ite_true, ite_false, exists_eq_left', exists_eq_left, keyOf, implies_true, fillC, capOf]
          have hRD := roundL_ok (N := fun r => stepsOf x y (topsOf x y cs) r s) steps_in (fun _ => steps_ne) (topsOf_low4 hH) (by omega) (x * y).toNat best (Nat.le_refl _) hci
          obtain ⟨m', rfl⟩ : ∃ m', m = m' + 1 := ⟨m - 1, by omega⟩
          have hstep2 := climb_step hloop rfl
          clear hloop
          generalize hr : (nums (x * y).toNat).foldl (relaxCol (topsOf x y cs) (fun r => stepsOf x y (topsOf x y cs) r s)) (best, false) = r at hRD hstep2
          refine ev_loop (fun m2 fr N => ∃ (k : Nat) (st : List Int × Bool), k + m2 = (x * y).toNat ∧ st = (nums k).foldl (relaxCol (topsOf x y cs) (fun r => stepsOf x y (topsOf x y cs) r s)) (best, false) ∧
            Pre M N ∧ Live N M.length (.row [.I x, .I y, .I z, .ref t o cs.length] true 0) ∧ Live N (M.length + 2) (.row (intL st.1) true 1) ∧ Live N (M.length + 3) (.row (intL (topsOf x y cs)) true 1) ∧
            fr 2 = .I q ∧ fr 3 = .I s ∧ fr 4 = .ptr M.length 0 ∧ fr 10 = .ref (M.length + 2) 0 (x * y).toNat ∧ fr 11 = .ref (M.length + 3) 0 (x * y).toNat ∧ fr 13 = .B st.2 ∧ fr 14 = .I k) (x * y).toNat
            ⟨0, (best, false), by omega, rfl, hpre, hbox, hbest, htop, f2, f3, f4, f10, f11, rfl, rfl⟩ ?_
          clear f2 f3 f4 f10 f11 f13 hpre hbox hbest htop
          rintro m2 fr N ⟨k, st, hk, hst, hpre, hbox, hbest, htop, f2, f3, f4, f10, f11, f13, f14⟩
          simp (disch := omega) only [f2, f3, f4, f10, f11, f13, f14, ↓SXd, SXu, slBounds, ↓sop, ↓aop, ↓reduceIte, LV.cells, AOp.dst, LV.I, LV.B, LV.U, LV.S, LV.nil, Nat.reduceEqDiff, Nat.reduceAdd, Nat.reduceMul, Nat.reduceSub, Nat.reduceLeDiff, Nat.reduceBEq, Nat.reduceDiv, Nat.reduceMod, Int.reduceToNat, Int.reduceLT, Int.reduceLE, Int.reduceAdd, Int.reduceSub, Int.reduceMul, Int.reduceEq, Int.reduceNeg, reduceCtorEq, resV, resAll, ARes.ev, LV.flat, ite_true, ite_false, exists_eq_left', exists_eq_left, keyOf, implies_true, fillC, capOf]
          refine condC_dec (fun hlt => ?_) (fun hlt => ?_)
          · have hmid := mid_ok (s := s) (p := p) (k := k) hH (by omega) hci
            rw [← hst] at hmid
            have hml := hmid.len
            have hnext : (nums (k + 1)).foldl (relaxCol (topsOf x y cs) (fun r => stepsOf x y (topsOf x y cs) r s)) (best, false) = relaxCol (topsOf x y cs) (fun r => stepsOf x y (topsOf x y cs) r s) st k := by
              rw [nums_succ, List.foldl_append, ← hst]; rfl
            simp (disch := omega) only [f2, f3, f4, f10, f11, f13, f14, hbox.cells, ↓SXd, SXu, slBounds, ↓sop, ↓aop, ↓reduceIte, LV.cells, AOp.dst, LV.I, LV.B, LV.U, LV.S, LV.nil, Nat.reduceEqDiff, Nat.reduceAdd, Nat.reduceMul, Nat.reduceSub, Nat.reduceLeDiff, Nat.reduceBEq, Nat.reduceDiv, Nat.reduceMod, Int.reduceToNat, Int.reduceLT, Int.reduceLE, Int.reduceAdd, Int.reduceSub, Int.reduceMul, Int.reduceEq, Int.reduceNeg, reduceCtorEq, resV, resAll, ARes.ev, LV.flat, ite_true, ite_false, exists_eq_left', exists_eq_left, keyOf, implies_true, fillC, capOf]
            refine callN_of (h_l10Steps hH.1 (by omega) htop.has htl (topsOf_low hH)) ?_
            intro tn N0 htn hp0 hnx0
            simp (disch := omega) only [f2, f3, f4, f10, f11, f13, f14, ↓SXd, SXu, slBounds, ↓sop, ↓aop, ↓reduceIte, LV.cells, AOp.dst, LV.I, LV.B, LV.U, LV.S, LV.nil, Nat.reduceEqDiff, Nat.reduceAdd, Nat.reduceMul, Nat.reduceSub, Nat.reduceLeDiff, Nat.reduceBEq, Nat.reduceDiv, Nat.reduceMod, Int.reduceToNat, Int.reduceLT, Int.reduceLE, Int.reduceAdd, Int.reduceSub, Int.reduceMul, Int.reduceEq, Int.reduceNeg, reduceCtorEq, resV, resAll, ARes.ev, LV.flat, ite_true, ite_false, exists_eq_left', exists_eq_left, keyOf, implies_true, fillC, capOf]
            have hnl := stepsOf_len (p := (k : Int)) (s := s) (ts := topsOf x y cs) hb.2
            have hmem : ∀ j, j < (stepsOf x y (topsOf x y cs) k s).length → 0 ≤ (stepsOf x y (topsOf x y cs) k s).getD j 0 ∧ (stepsOf x y (topsOf x y cs) k s).getD j 0 < x * y := fun j hj => stepsOf_mem (getD_mem hj)
            have hlM := htop.lt
            by_cases hv0 : st.1.getD k 0 < 0
            · refine ev_loop (fun m3 fr' N' => N' = N0 ∧ fr' 2 = .I q ∧ fr' 3 = .I s ∧ fr' 4 = .ptr M.length 0 ∧ fr' 10 = .ref (M.length + 2) 0 (x * y).toNat ∧ fr' 11 = .ref (M.length + 3) 0 (x * y).toNat ∧ fr' 13 = .B st.2 ∧ fr' 14 = .I k ∧ fr' 15 = .ref tn 0 (stepsOf x y (topsOf x y cs) k s).length ∧ fr' 16 = .I 0) 0
                ⟨rfl, f2, f3, f4, f10, f11, f13, f14, rfl, rfl⟩ ?_
              rintro m3 fr' N' ⟨rfl, f2, f3, f4, f10, f11, f13, f14, f15, f16⟩
              have hfin : ∃ m', m' < m2 ∧ ∃ (k' : Nat) (st' : List Int × Bool), k' + m' = (x * y).toNat ∧ k' = k + 1 ∧ st' = st ∧ st' = (nums k').foldl (relaxCol (topsOf x y cs) (fun r => stepsOf x y (topsOf x y cs) r s)) (best, false) := ⟨m2 - 1, by omega, k + 1, st, by omega, rfl, rfl, by rw [hnext]; unfold relaxCol; rw [if_pos (by simpa using hv0)]⟩
              obtain ⟨m', hm', k', st', e1, rfl, rfl, e4⟩ := hfin
              by_cases hz : 0 < (stepsOf x y (topsOf x y cs) k s).length
              · simp (disch := omega) only [f2, f3, f4, f10, f11, f13, f14, f15, f16, (hbest.pre hp0).cell, intL_get, ↓SXd, SXu, slBounds, ↓sop, ↓aop, ↓reduceIte, LV.cells, AOp.dst, LV.I, LV.B, LV.U, LV.S, LV.nil, Nat.reduceEqDiff, Nat.reduceAdd, Nat.reduceMul, Nat.reduceSub, Nat.reduceLeDiff, Nat.reduceBEq, Nat.reduceDiv, Nat.reduceMod, Int.reduceToNat, Int.reduceLT, Int.reduceLE, Int.reduceAdd, Int.reduceSub, Int.reduceMul, Int.reduceEq, Int.reduceNeg, reduceCtorEq, resV, resAll, ARes.ev, LV.flat, ite_true, ite_false, exists_eq_left', exists_eq_left, keyOf, implies_true, fillC, capOf]
                exact ⟨m', hm', k + 1, st', e1, e4, hpre.trans hp0, hbox.pre hp0, hbest.pre hp0, htop.pre hp0, f2, f3, f4, f10, f11, f13, eqI (natI _)⟩
              · simp (disch := omega) only [f2, f3, f4, f10, f11, f13, f14, f15, f16, ↓SXd, SXu, slBounds, ↓sop, ↓aop, ↓reduceIte, LV.cells, AOp.dst, LV.I, LV.B, LV.U, LV.S, LV.nil, Nat.reduceEqDiff, Nat.reduceAdd, Nat.reduceMul, Nat.reduceSub, Nat.reduceLeDiff, Nat.reduceBEq, Nat.reduceDiv, Nat.reduceMod, Int.reduceToNat, Int.reduceLT, Int.reduceLE, Int.reduceAdd, Int.reduceSub, Int.reduceMul, Int.reduceEq, Int.reduceNeg, reduceCtorEq, resV, resAll, ARes.ev, LV.flat, ite_true, ite_false, exists_eq_left', exists_eq_left, keyOf, implies_true, fillC, capOf]
                exact ⟨m', hm', k + 1, st', e1, e4, hpre.trans hp0, hbox.pre hp0, hbest.pre hp0, htop.pre hp0, f2, f3, f4, f10, f11, f13, eqI (natI _)⟩
            · generalize hv : st.1.getD k 0 = v at hv0
              have hrc : relaxCol (topsOf x y cs) (fun r => stepsOf x y (topsOf x y cs) r s) st k = (stepsOf x y (topsOf x y cs) k s).foldl (relax1 (topsOf x y cs) k v) st := by
                unfold relaxCol
                rw [Int.toNat_natCast, hv, if_neg hv0]
              have hin := fun i => in_ok (s := s) (p := p) (i := i) (v := v) hH (show k < (x * y).toNat by omega) hmid hv (by omega)
              generalize hnxt : stepsOf x y (topsOf x y cs) k s = nx at hnl hmem hnx0 hrc hin ⊢
              refine ev_loop (fun m3 fr' N' => ∃ (i : Nat) (st' : List Int × Bool), i + m3 = nx.length ∧ st' = (nx.take i).foldl (relax1 (topsOf x y cs) k v) st ∧
                Pre M N' ∧ Live N' M.length (.row [.I x, .I y, .I z, .ref t o cs.length] true 0) ∧ Live N' (M.length + 2) (.row (intL st'.1) true 1) ∧ Live N' (M.length + 3) (.row (intL (topsOf x y cs)) true 1) ∧ Live N' tn (.row (intL nx) true 1) ∧
                fr' 2 = .I q ∧ fr' 3 = .I s ∧ fr' 4 = .ptr M.length 0 ∧ fr' 10 = .ref (M.length + 2) 0 (x * y).toNat ∧ fr' 11 = .ref (M.length + 3) 0 (x * y).toNat ∧ fr' 13 = .B st'.2 ∧ fr' 14 = .I k ∧ fr' 15 = .ref tn 0 nx.length ∧ fr' 16 = .I i) nx.length
                ⟨0, st, by omega, rfl, hpre.trans hp0, hbox.pre hp0, hbest.pre hp0, htop.pre hp0, hnx0, f2, f3, f4, f10, f11, f13, f14, rfl, rfl⟩ ?_
              clear f2 f3 f4 f10 f11 f13 f14
              rintro m3 fr' N' ⟨i, st', hi, hst', hpre', hbox', hbest', htop', hnx', f2, f3, f4, f10, f11, f13, f14, f15, f16⟩
              obtain ⟨hc1, hc2⟩ := hin i
              rw [← hst'] at hc1 hc2
              have hcl := hc1.len
              have hctop := hc1.top (by omega) k (by omega)
              by_cases hil : i < nx.length
              · have hmi := hmem i hil
                have hyt := hc1.top (by omega) (nx.getD i 0).toNat (by omega)
                have hyl := hc1.lo (nx.getD i 0).toNat (by omega)
                have ht1 := topsOf_low4 hH (nx.getD i 0).toNat
                have ht2 := topsOf_low4 hH k
                have hstep : (nx.take (i + 1)).foldl (relax1 (topsOf x y cs) k v) st = relax1 (topsOf x y cs) k v st' (nx.getD i 0) := by
                  rw [nums_take_succ _ _ _ _ hil, ← hst']
                have hv0' : (v ≥ 0) := by omega
                simp (disch := omega) only [f2, f3, f4, f10, f11, f13, f14, f15, f16, hbest'.cell, intL_get, hc2, hnx'.cell, htop'.cell, hv0', ↓SXd, SXu, slBounds, ↓sop, ↓aop, ↓reduceIte, LV.cells, AOp.dst, LV.I, LV.B, LV.U, LV.S, LV.nil, Nat.reduceEqDiff, Nat.reduceAdd, Nat.reduceMul, Nat.reduceSub, Nat.reduceLeDiff, Nat.reduceBEq, Nat.reduceDiv, Nat.reduceMod, Int.reduceToNat, Int.reduceLT, Int.reduceLE, Int.reduceAdd, Int.reduceSub, Int.reduceMul, Int.reduceEq, Int.reduceNeg, reduceCtorEq, resV, resAll, ARes.ev, LV.flat, ite_true, ite_false, exists_eq_left', exists_eq_left, keyOf, implies_true, fillC, capOf]
                refine callK_of (h_l1Most) ?_
                simp (disch := omega) only [f2, f3, f4, f10, f11, f13, f14, f15, f16, hbest'.cell, ↓SXd, SXu, slBounds, ↓sop, ↓aop, ↓reduceIte, LV.cells, AOp.dst, LV.I, LV.B, LV.U, LV.S, LV.nil, Nat.reduceEqDiff, Nat.reduceAdd, Nat.reduceMul, Nat.reduceSub, Nat.reduceLeDiff, Nat.reduceBEq, Nat.reduceDiv, Nat.reduceMod, Int.reduceToNat, Int.reduceLT, Int.reduceLE, Int.reduceAdd, Int.reduceSub, Int.reduceMul, Int.reduceEq, Int.reduceNeg, reduceCtorEq, resV, resAll, ARes.ev, LV.flat, ite_true, ite_false, exists_eq_left', exists_eq_left, keyOf, implies_true, fillC, capOf]
                have hcond : (relax1 (topsOf x y cs) k v st' (nx.getD i 0) = (st'.1.set (nx.getD i 0).toNat (v + max ((topsOf x y cs).getD (nx.getD i 0).toNat 0 - (topsOf x y cs).getD k 0) 0), true) ∧ (st'.1.getD (nx.getD i 0).toNat 0 < 0 ∨ v + max ((topsOf x y cs).getD (nx.getD i 0).toNat 0 - (topsOf x y cs).getD k 0) 0 < st'.1.getD (nx.getD i 0).toNat 0)) ∨
                    (relax1 (topsOf x y cs) k v st' (nx.getD i 0) = st' ∧ ¬ (st'.1.getD (nx.getD i 0).toNat 0 < 0 ∨ v + max ((topsOf x y cs).getD (nx.getD i 0).toNat 0 - (topsOf x y cs).getD k 0) 0 < st'.1.getD (nx.getD i 0).toNat 0)) := by
                  unfold relax1
                  by_cases hh : st'.1.getD (nx.getD i 0).toNat 0 < 0 ∨ v + max ((topsOf x y cs).getD (nx.getD i 0).toNat 0 - (topsOf x y cs).getD k 0) 0 < st'.1.getD (nx.getD i 0).toNat 0
                  · left; exact ⟨by rw [if_pos (by simpa using hh)]; simp, hh⟩
                  · right; exact ⟨by rw [if_neg (by simpa using hh)], hh⟩
                have hlMN := hp0.1
                have hlN := hpre.1
                rcases hcond with ⟨he, hh⟩ | ⟨he, hh⟩
                · by_cases h1 : st'.1.getD (nx.getD i 0).toNat 0 < 0
                  · simp (disch := omega) only [f2, f3, f4, f10, f11, f13, f14, f15, f16, hbest'.cell, intL_get, ↓SXd, SXu, slBounds, ↓sop, ↓aop, ↓reduceIte, LV.cells, AOp.dst, LV.I, LV.B, LV.U, LV.S, LV.nil, Nat.reduceEqDiff, Nat.reduceAdd, Nat.reduceMul, Nat.reduceSub, Nat.reduceLeDiff, Nat.reduceBEq, Nat.reduceDiv, Nat.reduceMod, Int.reduceToNat, Int.reduceLT, Int.reduceLE, Int.reduceAdd, Int.reduceSub, Int.reduceMul, Int.reduceEq, Int.reduceNeg, reduceCtorEq, resV, resAll, ARes.ev, LV.flat, ite_true, ite_false, exists_eq_left', exists_eq_left, keyOf, implies_true, fillC, capOf]
                    refine memK_int hbest' (by omega) fun N'' l1 l2 l3 => ?_
                    simp (disch := omega) only [f2, f3, f4, f10, f11, f13, f14, f15, f16, ↓SXd, SXu, slBounds, ↓sop, ↓aop, ↓reduceIte, LV.cells, AOp.dst, LV.I, LV.B, LV.U, LV.S, LV.nil, Nat.reduceEqDiff, Nat.reduceAdd, Nat.reduceMul, Nat.reduceSub, Nat.reduceLeDiff, Nat.reduceBEq, Nat.reduceDiv, Nat.reduceMod, Int.reduceToNat, Int.reduceLT, Int.reduceLE, Int.reduceAdd, Int.reduceSub, Int.reduceMul, Int.reduceEq, Int.reduceNeg, reduceCtorEq, resV, resAll, ARes.ev, LV.flat, ite_true, ite_false, exists_eq_left', exists_eq_left, keyOf, implies_true, fillC, capOf]
                    refine ⟨m3 - 1, by omega, i + 1, relax1 (topsOf x y cs) k v st' (nx.getD i 0), by omega, hstep.symm, pre_step hpre' (by omega) (j := 0) l1 l3, live_step hbox' (by omega) l3, ?_, live_step htop' (by omega) l3, live_step hnx' (by omega) l3, f2, f3, f4, f10, f11, ?_, f14, f15, eqI (natI _)⟩
                    · rw [he]; exact l2
                    · rw [he]; rfl
                  · have h2 := hh.resolve_left h1
                    simp (disch := omega) only [f2, f3, f4, f10, f11, f13, f14, f15, f16, hbest'.cell, intL_get, ↓SXd, SXu, slBounds, ↓sop, ↓aop, ↓reduceIte, LV.cells, AOp.dst, LV.I, LV.B, LV.U, LV.S, LV.nil, Nat.reduceEqDiff, Nat.reduceAdd, Nat.reduceMul, Nat.reduceSub, Nat.reduceLeDiff, Nat.reduceBEq, Nat.reduceDiv, Nat.reduceMod, Int.reduceToNat, Int.reduceLT, Int.reduceLE, Int.reduceAdd, Int.reduceSub, Int.reduceMul, Int.reduceEq, Int.reduceNeg, reduceCtorEq, resV, resAll, ARes.ev, LV.flat, ite_true, ite_false, exists_eq_left', exists_eq_left, keyOf, implies_true, fillC, capOf]
                    refine memK_int hbest' (by omega) fun N'' l1 l2 l3 => ?_
                    simp (disch := omega) only [f2, f3, f4, f10, f11, f13, f14, f15, f16, ↓SXd, SXu, slBounds, ↓sop, ↓aop, ↓reduceIte, LV.cells, AOp.dst, LV.I, LV.B, LV.U, LV.S, LV.nil, Nat.reduceEqDiff, Nat.reduceAdd, Nat.reduceMul, Nat.reduceSub, Nat.reduceLeDiff, Nat.reduceBEq, Nat.reduceDiv, Nat.reduceMod, Int.reduceToNat, Int.reduceLT, Int.reduceLE, Int.reduceAdd, Int.reduceSub, Int.reduceMul, Int.reduceEq, Int.reduceNeg, reduceCtorEq, resV, resAll, ARes.ev, LV.flat, ite_true, ite_false, exists_eq_left', exists_eq_left, keyOf, implies_true, fillC, capOf]
                    refine ⟨m3 - 1, by omega, i + 1, relax1 (topsOf x y cs) k v st' (nx.getD i 0), by omega, hstep.symm, pre_step hpre' (by omega) (j := 0) l1 l3, live_step hbox' (by omega) l3, ?_, live_step htop' (by omega) l3, live_step hnx' (by omega) l3, f2, f3, f4, f10, f11, ?_, f14, f15, eqI (natI _)⟩
                    · rw [he]; exact l2
                    · rw [he]; rfl
                · have h12 := not_or.1 hh
                  obtain ⟨h1, h2⟩ := h12
                  simp (disch := omega) only [f2, f3, f4, f10, f11, f13, f14, f15, f16, hbest'.cell, intL_get, ↓SXd, SXu, slBounds, ↓sop, ↓aop, ↓reduceIte, LV.cells, AOp.dst, LV.I, LV.B, LV.U, LV.S, LV.nil, Nat.reduceEqDiff, Nat.reduceAdd, Nat.reduceMul, Nat.reduceSub, Nat.reduceLeDiff, Nat.reduceBEq, Nat.reduceDiv, Nat.reduceMod, Int.reduceToNat, Int.reduceLT, Int.reduceLE, Int.reduceAdd, Int.reduceSub, Int.reduceMul, Int.reduceEq, Int.reduceNeg, reduceCtorEq, resV, resAll, ARes.ev, LV.flat, ite_true, ite_false, exists_eq_left', exists_eq_left, keyOf, implies_true, fillC, capOf]
                  exact ⟨m3 - 1, by omega, i + 1, st', by omega, by rw [hstep, he], hpre', hbox', hbest', htop', hnx', f2, f3, f4, f10, f11, f13, f14, f15, eqI (natI _)⟩
              · simp (disch := omega) only [f2, f3, f4, f10, f11, f13, f14, f15, f16, ↓SXd, SXu, slBounds, ↓sop, ↓aop, ↓reduceIte, LV.cells, AOp.dst, LV.I, LV.B, LV.U, LV.S, LV.nil, Nat.reduceEqDiff, Nat.reduceAdd, Nat.reduceMul, Nat.reduceSub, Nat.reduceLeDiff, Nat.reduceBEq, Nat.reduceDiv, Nat.reduceMod, Int.reduceToNat, Int.reduceLT, Int.reduceLE, Int.reduceAdd, Int.reduceSub, Int.reduceMul, Int.reduceEq, Int.reduceNeg, reduceCtorEq, resV, resAll, ARes.ev, LV.flat, ite_true, ite_false, exists_eq_left', exists_eq_left, keyOf, implies_true, fillC, capOf]
                have : i = nx.length := by omega
                subst this
                rw [List.take_length] at hst'
                exact ⟨m2 - 1, by omega, k + 1, st', by omega, by rw [hnext, hrc]; exact hst', hpre', hbox', hbest', htop', f2, f3, f4, f10, f11, f13, eqI (natI _)⟩
          · simp (disch := omega) only [f2, f3, f4, f10, f11, f13, f14, ↓SXd, SXu, slBounds, ↓sop, ↓aop, ↓reduceIte, LV.cells, AOp.dst, LV.I, LV.B, LV.U, LV.S, LV.nil, Nat.reduceEqDiff, Nat.reduceAdd, Nat.reduceMul, Nat.reduceSub, Nat.reduceLeDiff, Nat.reduceBEq, Nat.reduceDiv, Nat.reduceMod, Int.reduceToNat, Int.reduceLT, Int.reduceLE, Int.reduceAdd, Int.reduceSub, Int.reduceMul, Int.reduceEq, Int.reduceNeg, reduceCtorEq, resV, resAll, ARes.ev, LV.flat, ite_true, ite_false, exists_eq_left', exists_eq_left, keyOf, implies_true, fillC, capOf]
            have : k = (x * y).toNat := by omega
            subst this
            rw [hr] at hst
            subst hst
            refine ⟨m', by omega, st.1, st.2, hRD.1, fun e => ?_, fun e => ?_, hpre, hbox, hbest, htop, f2, f3, f4, f10, f11, f13⟩
            · have := hRD.2.1
              rw [if_pos e] at this
              exact ⟨by omega, hstep2.1 e⟩
            · exact hstep2.2 e
  · rw [if_neg (fun e => hV e.1)]
    simp (disch := omega) only [hV, ↓SXd, SXu, slBounds, ↓sop, ↓aop, ↓reduceIte, LV.cells, AOp.dst, LV.I, LV.B, LV.U, LV.S, LV.nil, Nat.reduceEqDiff, Nat.reduceAdd, Nat.reduceMul, Nat.reduceSub, Nat.reduceLeDiff, Nat.reduceBEq, Nat.reduceDiv, Nat.reduceMod, Int.reduceToNat, Int.reduceLT, Int.reduceLE, Int.reduceAdd, Int.reduceSub, Int.reduceMul, Int.reduceEq, Int.reduceNeg, reduceCtorEq, resV, resAll, ARes.ev, LV.flat, ite_true, ite_false, exists_eq_left', exists_eq_left, keyOf, implies_true, fillC, capOf]
    exact cmp_drop rfl
end Go.Ab

/- Contracts: least climbs, the program's side. -/
namespace Go.Ab
open Go
set_option linter.unusedSimpArgs false
set_option linter.unusedVariables false

theorem g_LeastClimb {x y z p q s : Int} {t o : Nat} {cs : List Cell} {M : Mem} (h : Tri M t o cs) (hn : cs.length ≤ 1000000000) :
    CallsTo PG F.impl_LeastClimb [.agg [.I x, .I y, .I z, .ref t o cs.length], .I p, .I q, .I s] M (.tup [.I ((climbOf x y z cs p q s).getD 0), .B (climbOf x y z cs p q s).isSome]) M := by
  refine calls_run K.impl_LeastClimb rfl ?_
  simp (disch := omega) only [C.impl_LeastClimb, splice, ↓SXd, SXu, slBounds, ↓sop, ↓aop, ↓reduceIte, LV.cells, AOp.dst, LV.I, LV.B, LV.U, LV.S, LV.nil, Nat.reduceEqDiff, Nat.reduceAdd, Nat.reduceMul, Nat.reduceSub, Nat.reduceLeDiff, Nat.reduceBEq, Nat.reduceDiv, Nat.reduceMod, Int.reduceToNat, Int.reduceLT, Int.reduceLE, Int.reduceAdd, Int.reduceSub, Int.reduceMul, Int.reduceEq, Int.reduceNeg, reduceCtorEq, resV, resAll, ARes.ev, LV.flat, ite_true, ite_false, exists_eq_left', exists_eq_left, keyOf, implies_true, fillC, capOf]
  refine callK_of (g_isTop2 h.app hn (Live.newj (j := 1) rfl)) ?_
  simp (disch := omega) only [↓SXd, SXu, slBounds, ↓sop, ↓aop, ↓reduceIte, LV.cells, AOp.dst, LV.I, LV.B, LV.U, LV.S, LV.nil, Nat.reduceEqDiff, Nat.reduceAdd, Nat.reduceMul, Nat.reduceSub, Nat.reduceLeDiff, Nat.reduceBEq, Nat.reduceDiv, Nat.reduceMod, Int.reduceToNat, Int.reduceLT, Int.reduceLE, Int.reduceAdd, Int.reduceSub, Int.reduceMul, Int.reduceEq, Int.reduceNeg, reduceCtorEq, resV, resAll, ARes.ev, LV.flat, ite_true, ite_false, exists_eq_left', exists_eq_left, keyOf, implies_true, fillC, capOf]
  unfold climbOf
  by_cases hV : (HeapOK x y z cs ∧ (0 ≤ p ∧ p ≤ x * y - 1)) ∧ (0 ≤ q ∧ q ≤ x * y - 1) ∧ 0 ≤ s
  · obtain ⟨⟨hH, hp⟩, hq, hs⟩ := id hV
    have hb := mul_bound hH.1.1 hH.1.2.1
    have htl := topsOf_len x y cs
    have hiff := climbs_iff (s := s) hH hp hq
    simp (disch := omega) only [hV, ↓SXd, SXu, slBounds, ↓sop, ↓aop, ↓reduceIte, LV.cells, AOp.dst, LV.I, LV.B, LV.U, LV.S, LV.nil, Nat.reduceEqDiff, Nat.reduceAdd, Nat.reduceMul, Nat.reduceSub, Nat.reduceLeDiff, Nat.reduceBEq, Nat.reduceDiv, Nat.reduceMod, Int.reduceToNat, Int.reduceLT, Int.reduceLE, Int.reduceAdd, Int.reduceSub, Int.reduceMul, Int.reduceEq, Int.reduceNeg, reduceCtorEq, resV, resAll, ARes.ev, LV.flat, ite_true, ite_false, exists_eq_left', exists_eq_left, keyOf, implies_true, fillC, capOf]
    refine callK_of (g_top h.app hn hH) ?_
    simp (disch := omega) only [splice, ↓SXd, SXu, slBounds, ↓sop, ↓aop, ↓reduceIte, LV.cells, AOp.dst, LV.I, LV.B, LV.U, LV.S, LV.nil, Nat.reduceEqDiff, Nat.reduceAdd, Nat.reduceMul, Nat.reduceSub, Nat.reduceLeDiff, Nat.reduceBEq, Nat.reduceDiv, Nat.reduceMod, Int.reduceToNat, Int.reduceLT, Int.reduceLE, Int.reduceAdd, Int.reduceSub, Int.reduceMul, Int.reduceEq, Int.reduceNeg, reduceCtorEq, resV, resAll, ARes.ev, LV.flat, ite_true, ite_false, exists_eq_left', exists_eq_left, keyOf, implies_true, fillC, capOf]
    refine callK_of (g_Repeat (n := (x * y).toNat) (v := -1) (Live.newj (j := 4) rfl).has (by omega) (by omega)) ?_
    simp (disch := omega) only [intL_len, splice_int, ↓SXd, SXu, slBounds, ↓sop, ↓aop, ↓reduceIte, LV.cells, AOp.dst, LV.I, LV.B, LV.U, LV.S, LV.nil, Nat.reduceEqDiff, Nat.reduceAdd, Nat.reduceMul, Nat.reduceSub, Nat.reduceLeDiff, Nat.reduceBEq, Nat.reduceDiv, Nat.reduceMod, Int.reduceToNat, Int.reduceLT, Int.reduceLE, Int.reduceAdd, Int.reduceSub, Int.reduceMul, Int.reduceEq, Int.reduceNeg, reduceCtorEq, resV, resAll, ARes.ev, LV.flat, ite_true, ite_false, exists_eq_left', exists_eq_left, keyOf, implies_true, fillC, capOf]
    have hRl : (List.replicate (x * y).toNat (-1 : Int)).length = (x * y).toNat := by simp
    simp (disch := omega) only [intL_len, hRl, splice_int, ↓SXd, SXu, slBounds, ↓sop, ↓aop, ↓reduceIte, LV.cells, AOp.dst, LV.I, LV.B, LV.U, LV.S, LV.nil, Nat.reduceEqDiff, Nat.reduceAdd, Nat.reduceMul, Nat.reduceSub, Nat.reduceLeDiff, Nat.reduceBEq, Nat.reduceDiv, Nat.reduceMod, Int.reduceToNat, Int.reduceLT, Int.reduceLE, Int.reduceAdd, Int.reduceSub, Int.reduceMul, Int.reduceEq, Int.reduceNeg, reduceCtorEq, resV, resAll, ARes.ev, LV.flat, ite_true, ite_false, exists_eq_left', exists_eq_left, keyOf, implies_true, fillC, capOf]
    rw [show (List.replicate (x * y).toNat (-1 : Int)).set p.toNat 0 = climbStart (x * y).toNat p from rfl]
    obtain ⟨hci, hphi⟩ := climbStart_ok (c := (x * y).toNat) (N := fun r => stepsOf x y (topsOf x y cs) r s) (p := p) (by omega) (by omega)
    have hR : climbs x y cs p s = climbLoop (topsOf x y cs) (fun r => stepsOf x y (topsOf x y cs) r s) (x * y).toNat 2000 (climbStart (x * y).toNat p) := rfl
    generalize climbs x y cs p s = R at hR hiff ⊢
    refine ev_loop (fun m fr M' => ∃ (best : List Int) (ch : Bool), CI (x * y).toNat (fun r => stepsOf x y (topsOf x y cs) r s) p best ∧ (ch = true → phi best < m ∧ climbLoop (topsOf x y cs) (fun r => stepsOf x y (topsOf x y cs) r s) (x * y).toNat m best = R) ∧ (ch = false → best = R) ∧
      Pre M M' ∧ Live M' (M.length + 2) (.row (intL (topsOf x y cs)) true 1) ∧ Live M' (M.length + 3) (.row [.ref (M.length + 2) 0 (x * y).toNat, .I y] true 0) ∧ Live M' (M.length + 5) (.row (intL best) true 1) ∧
      fr 2 = .I q ∧ fr 3 = .I s ∧ fr 10 = .ptr (M.length + 3) 0 ∧ fr 11 = .ref (M.length + 5) 0 (x * y).toNat ∧ fr 12 = .B ch) 2000
      ⟨_, true, hci, fun _ => ⟨hphi, hR.symm⟩, fun e => (by cases e), Pre.app _ _, Live.newj rfl, Live.newj rfl, Live.newj rfl, rfl, rfl, rfl, rfl, rfl⟩ ?_
    clear hci hphi hR
    rintro m fr M' ⟨best, ch, hci, hch1, hch2, hpre, htop, htb, hbest, f2, f3, f10, f11, f12⟩
    have hbl := hci.len
    cases ch with
    | false =>
      simp (disch := omega) only [f2, f3, f10, f11, f12, intL_get, hbest.cell, ↓SXd, SXu, slBounds, ↓sop, ↓aop, ↓reduceIte, LV.cells, AOp.dst, LV.I, LV.B, LV.U, LV.S, LV.nil, Nat.reduceEqDiff, Nat.reduceAdd, Nat.reduceMul, Nat.reduceSub, Nat.reduceLeDiff, Nat.reduceBEq, Nat.reduceDiv, Nat.reduceMod, Int.reduceToNat, Int.reduceLT, Int.reduceLE, Int.reduceAdd, Int.reduceSub, Int.reduceMul, Int.reduceEq, Int.reduceNeg, reduceCtorEq, resV, resAll, ARes.ev, LV.flat, ite_true, ite_false, exists_eq_left', exists_eq_left, keyOf, implies_true, fillC, capOf]
      refine callK_of (g_found) ?_
      simp (disch := omega) only [↓SXd, SXu, slBounds, ↓sop, ↓aop, ↓reduceIte, LV.cells, AOp.dst, LV.I, LV.B, LV.U, LV.S, LV.nil, Nat.reduceEqDiff, Nat.reduceAdd, Nat.reduceMul, Nat.reduceSub, Nat.reduceLeDiff, Nat.reduceBEq, Nat.reduceDiv, Nat.reduceMod, Int.reduceToNat, Int.reduceLT, Int.reduceLE, Int.reduceAdd, Int.reduceSub, Int.reduceMul, Int.reduceEq, Int.reduceNeg, reduceCtorEq, resV, resAll, ARes.ev, LV.flat, ite_true, ite_false, exists_eq_left', exists_eq_left, keyOf, implies_true, fillC, capOf]
      have hb2 := hch2 rfl
      subst hb2
      by_cases hreach : 0 ≤ (spreadOf x y cs p s).getD q.toNat 0
      · have := hiff.2 hreach
        rw [if_pos hreach, show max (best.getD q.toNat 0) 0 = best.getD q.toNat 0 by omega]
        rw [decide_eq_true this]
        exact cmp_pre hpre rfl
      · have := fun e => hreach (hiff.1 e)
        rw [if_neg hreach, show max (best.getD q.toNat 0) 0 = 0 by omega, decide_eq_false this]
        exact cmp_pre hpre rfl
    | true =>
      obtain ⟨hphi, hloop⟩ := hch1 rfl
      simp (disch := omega) only [f2, f3, f10, f11, f12, ↓SXd, SXu, slBounds, ↓sop, ↓aop, ↓reduceIte, LV.cells, AOp.dst, LV.I, LV.B, LV.U, LV.S, LV.nil, Nat.reduceEqDiff, Nat.reduceAdd, Nat.reduceMul, Nat.reduceSub, Nat.reduceLeDiff, Nat.reduceBEq, Nat.reduceDiv, Nat.reduceMod, Int.reduceToNat, Int.reduceLT, Int.reduceLE, Int.reduceAdd, Int.reduceSub, Int.reduceMul, Int.reduceEq, Int.reduceNeg, reduceCtorEq, resV, resAll, ARes.ev, LV.flat, ite_true, ite_false, exists_eq_left', exists_eq_left, keyOf, implies_true, fillC, capOf]
      have hRD := roundL_ok (N := fun r => stepsOf x y (topsOf x y cs) r s) steps_in (fun _ => steps_ne) (topsOf_low4 hH) (by omega) (x * y).toNat best (Nat.le_refl _) hci
      obtain ⟨m', rfl⟩ : ∃ m', m = m' + 1 := ⟨m - 1, by omega⟩
      have hstep2 := climb_step hloop rfl
      clear hloop
      generalize hr : (nums (x * y).toNat).foldl (relaxCol (topsOf x y cs) (fun r => stepsOf x y (topsOf x y cs) r s)) (best, false) = r at hRD hstep2
      refine ev_loop (fun m2 fr N => ∃ (k : Nat) (st : List Int × Bool), k + m2 = (x * y).toNat ∧ st = (nums k).foldl (relaxCol (topsOf x y cs) (fun r => stepsOf x y (topsOf x y cs) r s)) (best, false) ∧
        Pre M N ∧ Live N (M.length + 2) (.row (intL (topsOf x y cs)) true 1) ∧ Live N (M.length + 3) (.row [.ref (M.length + 2) 0 (x * y).toNat, .I y] true 0) ∧ Live N (M.length + 5) (.row (intL st.1) true 1) ∧
        fr 2 = .I q ∧ fr 3 = .I s ∧ fr 10 = .ptr (M.length + 3) 0 ∧ fr 11 = .ref (M.length + 5) 0 (x * y).toNat ∧ fr 12 = .B st.2 ∧ fr 36 = .ref (M.length + 5) 0 (x * y).toNat ∧ fr 37 = .I (x * y).toNat ∧ fr 38 = .I k) (x * y).toNat
        ⟨0, (best, false), by omega, rfl, hpre, htop, htb, hbest, f2, f3, f10, f11, rfl, rfl, rfl, rfl⟩ ?_
      clear f2 f3 f10 f11 f12 hpre htop htb hbest
      rintro m2 fr N ⟨k, st, hk, hst, hpre, htop, htb, hbest, f2, f3, f10, f11, f12, f36, f37, f38⟩
      simp (disch := omega) only [f2, f3, f10, f11, f12, f36, f37, f38, ↓SXd, SXu, slBounds, ↓sop, ↓aop, ↓reduceIte, LV.cells, AOp.dst, LV.I, LV.B, LV.U, LV.S, LV.nil, Nat.reduceEqDiff, Nat.reduceAdd, Nat.reduceMul, Nat.reduceSub, Nat.reduceLeDiff, Nat.reduceBEq, Nat.reduceDiv, Nat.reduceMod, Int.reduceToNat, Int.reduceLT, Int.reduceLE, Int.reduceAdd, Int.reduceSub, Int.reduceMul, Int.reduceEq, Int.reduceNeg, reduceCtorEq, resV, resAll, ARes.ev, LV.flat, ite_true, ite_false, exists_eq_left', exists_eq_left, keyOf, implies_true, fillC, capOf]
      refine condC_dec (fun hlt => ?_) (fun hlt => ?_)
      rotate_left
      · simp (disch := omega) only [f2, f3, f10, f11, f12, f36, f37, f38, ↓SXd, SXu, slBounds, ↓sop, ↓aop, ↓reduceIte, LV.cells, AOp.dst, LV.I, LV.B, LV.U, LV.S, LV.nil, Nat.reduceEqDiff, Nat.reduceAdd, Nat.reduceMul, Nat.reduceSub, Nat.reduceLeDiff, Nat.reduceBEq, Nat.reduceDiv, Nat.reduceMod, Int.reduceToNat, Int.reduceLT, Int.reduceLE, Int.reduceAdd, Int.reduceSub, Int.reduceMul, Int.reduceEq, Int.reduceNeg, reduceCtorEq, resV, resAll, ARes.ev, LV.flat, ite_true, ite_false, exists_eq_left', exists_eq_left, keyOf, implies_true, fillC, capOf]
        have : k = (x * y).toNat := by omega
        subst this
        rw [hr] at hst
        subst hst
        refine ⟨m', by omega, st.1, st.2, hRD.1, fun e => ?_, fun e => ?_, hpre, htop, htb, hbest, f2, f3, f10, f11, f12⟩
        · have := hRD.2.1
          rw [if_pos e] at this
          exact ⟨by omega, hstep2.1 e⟩
        · exact hstep2.2 e
      · have hmid := mid_ok (s := s) (p := p) (k := k) hH (by omega) hci
        rw [← hst] at hmid
        have hml := hmid.len
        have hnext : (nums (k + 1)).foldl (relaxCol (topsOf x y cs) (fun r => stepsOf x y (topsOf x y cs) r s)) (best, false) = relaxCol (topsOf x y cs) (fun r => stepsOf x y (topsOf x y cs) r s) st k := by
          rw [nums_succ, List.foldl_append, ← hst]; rfl
        simp (disch := omega) only [f2, f3, f10, f11, f12, f36, f37, f38, hbest.cell, intL_get, ↓SXd, SXu, slBounds, ↓sop, ↓aop, ↓reduceIte, LV.cells, AOp.dst, LV.I, LV.B, LV.U, LV.S, LV.nil, Nat.reduceEqDiff, Nat.reduceAdd, Nat.reduceMul, Nat.reduceSub, Nat.reduceLeDiff, Nat.reduceBEq, Nat.reduceDiv, Nat.reduceMod, Int.reduceToNat, Int.reduceLT, Int.reduceLE, Int.reduceAdd, Int.reduceSub, Int.reduceMul, Int.reduceEq, Int.reduceNeg, reduceCtorEq, resV, resAll, ARes.ev, LV.flat, ite_true, ite_false, exists_eq_left', exists_eq_left, keyOf, implies_true, fillC, capOf]
        refine condC_dec (fun hv0 => ?_) (fun hv0 => ?_)
        · simp (disch := omega) only [f2, f3, f10, f11, f12, f36, f37, f38, ↓SXd, SXu, slBounds, ↓sop, ↓aop, ↓reduceIte, LV.cells, AOp.dst, LV.I, LV.B, LV.U, LV.S, LV.nil, Nat.reduceEqDiff, Nat.reduceAdd, Nat.reduceMul, Nat.reduceSub, Nat.reduceLeDiff, Nat.reduceBEq, Nat.reduceDiv, Nat.reduceMod, Int.reduceToNat, Int.reduceLT, Int.reduceLE, Int.reduceAdd, Int.reduceSub, Int.reduceMul, Int.reduceEq, Int.reduceNeg, reduceCtorEq, resV, resAll, ARes.ev, LV.flat, ite_true, ite_false, exists_eq_left', exists_eq_left, keyOf, implies_true, fillC, capOf]
          exact ⟨m2 - 1, by omega, k + 1, st, by omega, by rw [hnext]; unfold relaxCol; rw [Int.toNat_natCast, if_pos hv0], hpre, htop, htb, hbest, f2, f3, f10, f11, f12, f36, f37, eqI (natI _)⟩
        · simp (disch := omega) only [f2, f3, f10, f11, f12, f36, f37, f38, htb.cells, ↓SXd, SXu, slBounds, ↓sop, ↓aop, ↓reduceIte, LV.cells, AOp.dst, LV.I, LV.B, LV.U, LV.S, LV.nil, Nat.reduceEqDiff, Nat.reduceAdd, Nat.reduceMul, Nat.reduceSub, Nat.reduceLeDiff, Nat.reduceBEq, Nat.reduceDiv, Nat.reduceMod, Int.reduceToNat, Int.reduceLT, Int.reduceLE, Int.reduceAdd, Int.reduceSub, Int.reduceMul, Int.reduceEq, Int.reduceNeg, reduceCtorEq, resV, resAll, ARes.ev, LV.flat, ite_true, ite_false, exists_eq_left', exists_eq_left, keyOf, implies_true, fillC, capOf]
          refine callN_of (g_steps hH.1.1 hH.1.2.1 (by omega) htop.has htl (topsOf_low hH)) ?_
          intro tn N0 htn hp0 hnx0
          simp (disch := omega) only [f2, f3, f10, f11, f12, f36, f37, f38, ↓SXd, SXu, slBounds, ↓sop, ↓aop, ↓reduceIte, LV.cells, AOp.dst, LV.I, LV.B, LV.U, LV.S, LV.nil, Nat.reduceEqDiff, Nat.reduceAdd, Nat.reduceMul, Nat.reduceSub, Nat.reduceLeDiff, Nat.reduceBEq, Nat.reduceDiv, Nat.reduceMod, Int.reduceToNat, Int.reduceLT, Int.reduceLE, Int.reduceAdd, Int.reduceSub, Int.reduceMul, Int.reduceEq, Int.reduceNeg, reduceCtorEq, resV, resAll, ARes.ev, LV.flat, ite_true, ite_false, exists_eq_left', exists_eq_left, keyOf, implies_true, fillC, capOf]
          have hnl := stepsOf_len (p := (k : Int)) (s := s) (ts := topsOf x y cs) hb.2
          have hmem : ∀ j, j < (stepsOf x y (topsOf x y cs) k s).length → 0 ≤ (stepsOf x y (topsOf x y cs) k s).getD j 0 ∧ (stepsOf x y (topsOf x y cs) k s).getD j 0 < x * y := fun j hj => stepsOf_mem (getD_mem hj)
          have hlM := hbest.lt
          generalize hv : st.1.getD k 0 = v at hv0 ⊢
          have hrc : relaxCol (topsOf x y cs) (fun r => stepsOf x y (topsOf x y cs) r s) st k = (stepsOf x y (topsOf x y cs) k s).foldl (relax1 (topsOf x y cs) k v) st := by
            unfold relaxCol
            rw [Int.toNat_natCast, hv, if_neg hv0]
          have hin := fun i => in_ok (s := s) (p := p) (i := i) (v := v) hH (show k < (x * y).toNat by omega) hmid hv (by omega)
          unfold stepRow at hnx0
          generalize hnxt : stepsOf x y (topsOf x y cs) k s = nx at hnl hmem hnx0 hrc hin ⊢
          generalize List.replicate ((nexts x y k).length - nx.length) (0 : Int) = ex at hnx0
          refine ev_loop (fun m3 fr' N' => ∃ (i : Nat) (st' : List Int × Bool), i + m3 = nx.length ∧ st' = (nx.take i).foldl (relax1 (topsOf x y cs) k v) st ∧
            Pre M N' ∧ Live N' (M.length + 2) (.row (intL (topsOf x y cs)) true 1) ∧ Live N' (M.length + 3) (.row [.ref (M.length + 2) 0 (x * y).toNat, .I y] true 0) ∧ Live N' (M.length + 5) (.row (intL st'.1) true 1) ∧ Live N' tn (.row (intL (nx ++ ex)) true 1) ∧
            fr' 2 = .I q ∧ fr' 3 = .I s ∧ fr' 10 = .ptr (M.length + 3) 0 ∧ fr' 11 = .ref (M.length + 5) 0 (x * y).toNat ∧ fr' 12 = .B st'.2 ∧ fr' 36 = .ref (M.length + 5) 0 (x * y).toNat ∧ fr' 37 = .I (x * y).toNat ∧ fr' 38 = .I k ∧ fr' 13 = .I k ∧ fr' 14 = .I v ∧ fr' 48 = .ref tn 0 nx.length ∧ fr' 49 = .I nx.length ∧ fr' 50 = .I i) nx.length
            ⟨0, st, by omega, rfl, hpre.trans hp0, htop.pre hp0, htb.pre hp0, hbest.pre hp0, hnx0, f2, f3, f10, f11, f12, f36, f37, f38, rfl, rfl, rfl, rfl, rfl⟩ ?_
          clear f2 f3 f10 f11 f12 f36 f37 f38
          rintro m3 fr' N' ⟨i, st', hi, hst', hpre', htop', htb', hbest', hnx', f2, f3, f10, f11, f12, f36, f37, f38, f13, f14, f48, f49, f50⟩
          obtain ⟨hc1, hc2⟩ := hin i
          rw [← hst'] at hc1 hc2
          have hcl := hc1.len
          have hctop := hc1.top (by omega) k (by omega)
          simp (disch := omega) only [f2, f3, f10, f11, f12, f36, f37, f38, f13, f14, f48, f49, f50, ↓SXd, SXu, slBounds, ↓sop, ↓aop, ↓reduceIte, LV.cells, AOp.dst, LV.I, LV.B, LV.U, LV.S, LV.nil, Nat.reduceEqDiff, Nat.reduceAdd, Nat.reduceMul, Nat.reduceSub, Nat.reduceLeDiff, Nat.reduceBEq, Nat.reduceDiv, Nat.reduceMod, Int.reduceToNat, Int.reduceLT, Int.reduceLE, Int.reduceAdd, Int.reduceSub, Int.reduceMul, Int.reduceEq, Int.reduceNeg, reduceCtorEq, resV, resAll, ARes.ev, LV.flat, ite_true, ite_false, exists_eq_left', exists_eq_left, keyOf, implies_true, fillC, capOf]
          refine condC_dec (fun hil => ?_) (fun hil => ?_)
          · have hil : i < nx.length := by omega
            have hmi := hmem i hil
            have hyt := hc1.top (by omega) (nx.getD i 0).toNat (by omega)
            have hyl := hc1.lo (nx.getD i 0).toNat (by omega)
            have ht1 := topsOf_low4 hH (nx.getD i 0).toNat
            have ht2 := topsOf_low4 hH k
            have hxl : i < (nx ++ ex).length := by simp; omega
            have hxe : (nx ++ ex).getD i 0 = nx.getD i 0 := by simp only [List.getD_eq_getElem?_getD]; rw [List.getElem?_append_left hil]
            have hstep : (nx.take (i + 1)).foldl (relax1 (topsOf x y cs) k v) st = relax1 (topsOf x y cs) k v st' (nx.getD i 0) := by
              rw [nums_take_succ _ _ _ _ hil, ← hst']
            have hcond : (relax1 (topsOf x y cs) k v st' (nx.getD i 0) = (st'.1.set (nx.getD i 0).toNat (v + max ((topsOf x y cs).getD (nx.getD i 0).toNat 0 - (topsOf x y cs).getD k 0) 0), true) ∧ (st'.1.getD (nx.getD i 0).toNat 0 < 0 ∨ v + max ((topsOf x y cs).getD (nx.getD i 0).toNat 0 - (topsOf x y cs).getD k 0) 0 < st'.1.getD (nx.getD i 0).toNat 0)) ∨
                (relax1 (topsOf x y cs) k v st' (nx.getD i 0) = st' ∧ ¬ (st'.1.getD (nx.getD i 0).toNat 0 < 0 ∨ v + max ((topsOf x y cs).getD (nx.getD i 0).toNat 0 - (topsOf x y cs).getD k 0) 0 < st'.1.getD (nx.getD i 0).toNat 0)) := by
              unfold relax1
              by_cases hh : st'.1.getD (nx.getD i 0).toNat 0 < 0 ∨ v + max ((topsOf x y cs).getD (nx.getD i 0).toNat 0 - (topsOf x y cs).getD k 0) 0 < st'.1.getD (nx.getD i 0).toNat 0
              · left; exact ⟨by rw [if_pos (by simpa using hh)]; simp, hh⟩
              · right; exact ⟨by rw [if_neg (by simpa using hh)], hh⟩
            simp (disch := omega) only [f2, f3, f10, f11, f12, f36, f37, f38, f13, f14, f48, f49, f50, hnx'.cell, intL_get, hxe, htb'.cell, htop'.cell, hbest'.cell, maxV, if_true, ite_true, ↓SXd, SXu, slBounds, ↓sop, ↓aop, ↓reduceIte, LV.cells, AOp.dst, LV.I, LV.B, LV.U, LV.S, LV.nil, Nat.reduceEqDiff, Nat.reduceAdd, Nat.reduceMul, Nat.reduceSub, Nat.reduceLeDiff, Nat.reduceBEq, Nat.reduceDiv, Nat.reduceMod, Int.reduceToNat, Int.reduceLT, Int.reduceLE, Int.reduceAdd, Int.reduceSub, Int.reduceMul, Int.reduceEq, Int.reduceNeg, reduceCtorEq, resV, resAll, ARes.ev, LV.flat, ite_true, ite_false, exists_eq_left', exists_eq_left, keyOf, implies_true, fillC, capOf]
            rw [show max 0 ((topsOf x y cs).getD (nx.getD i 0).toNat 0 - (topsOf x y cs).getD k 0) = max ((topsOf x y cs).getD (nx.getD i 0).toNat 0 - (topsOf x y cs).getD k 0) 0 from Int.max_comm _ _]
            have hlMN := hp0.1
            have hlN := hpre.1
            rcases hcond with ⟨he, hh⟩ | ⟨he, hh⟩
            · by_cases h1 : st'.1.getD (nx.getD i 0).toNat 0 < 0
              · simp (disch := omega) only [f2, f3, f10, f11, f12, f36, f37, f38, f13, f14, f48, f49, f50, hbest'.cell, intL_get, ↓SXd, SXu, slBounds, ↓sop, ↓aop, ↓reduceIte, LV.cells, AOp.dst, LV.I, LV.B, LV.U, LV.S, LV.nil, Nat.reduceEqDiff, Nat.reduceAdd, Nat.reduceMul, Nat.reduceSub, Nat.reduceLeDiff, Nat.reduceBEq, Nat.reduceDiv, Nat.reduceMod, Int.reduceToNat, Int.reduceLT, Int.reduceLE, Int.reduceAdd, Int.reduceSub, Int.reduceMul, Int.reduceEq, Int.reduceNeg, reduceCtorEq, resV, resAll, ARes.ev, LV.flat, ite_true, ite_false, exists_eq_left', exists_eq_left, keyOf, implies_true, fillC, capOf]
                refine memK_int hbest' (by omega) fun N'' l1 l2 l3 => ?_
                simp (disch := omega) only [f2, f3, f10, f11, f12, f36, f37, f38, f13, f14, f48, f49, f50, ↓SXd, SXu, slBounds, ↓sop, ↓aop, ↓reduceIte, LV.cells, AOp.dst, LV.I, LV.B, LV.U, LV.S, LV.nil, Nat.reduceEqDiff, Nat.reduceAdd, Nat.reduceMul, Nat.reduceSub, Nat.reduceLeDiff, Nat.reduceBEq, Nat.reduceDiv, Nat.reduceMod, Int.reduceToNat, Int.reduceLT, Int.reduceLE, Int.reduceAdd, Int.reduceSub, Int.reduceMul, Int.reduceEq, Int.reduceNeg, reduceCtorEq, resV, resAll, ARes.ev, LV.flat, ite_true, ite_false, exists_eq_left', exists_eq_left, keyOf, implies_true, fillC, capOf]
                refine ⟨m3 - 1, by omega, i + 1, relax1 (topsOf x y cs) k v st' (nx.getD i 0), by omega, hstep.symm, pre_step hpre' (by omega) (j := 0) l1 l3, live_step htop' (by omega) l3, live_step htb' (by omega) l3, ?_, live_step hnx' (by omega) l3, f2, f3, f10, f11, ?_, f36, f37, f38, f13, f14, f48, f49, eqI (natI _)⟩
                · rw [he]; exact l2
                · rw [he]; rfl
              · have h2 := hh.resolve_left h1
                simp (disch := omega) only [f2, f3, f10, f11, f12, f36, f37, f38, f13, f14, f48, f49, f50, hbest'.cell, intL_get, ↓SXd, SXu, slBounds, ↓sop, ↓aop, ↓reduceIte, LV.cells, AOp.dst, LV.I, LV.B, LV.U, LV.S, LV.nil, Nat.reduceEqDiff, Nat.reduceAdd, Nat.reduceMul, Nat.reduceSub, Nat.reduceLeDiff, Nat.reduceBEq, Nat.reduceDiv, Nat.reduceMod, Int.reduceToNat, Int.reduceLT, Int.reduceLE, Int.reduceAdd, Int.reduceSub, Int.reduceMul, Int.reduceEq, Int.reduceNeg, reduceCtorEq, resV, resAll, ARes.ev, LV.flat, ite_true, ite_false, exists_eq_left', exists_eq_left, keyOf, implies_true, fillC, capOf]
                refine memK_int hbest' (by omega) fun N'' l1 l2 l3 => ?_
                simp (disch := omega) only [f2, f3, f10, f11, f12, f36, f37, f38, f13, f14, f48, f49, f50, ↓SXd, SXu, slBounds, ↓sop, ↓aop, ↓reduceIte, LV.cells, AOp.dst, LV.I, LV.B, LV.U, LV.S, LV.nil, Nat.reduceEqDiff, Nat.reduceAdd, Nat.reduceMul, Nat.reduceSub, Nat.reduceLeDiff, Nat.reduceBEq, Nat.reduceDiv, Nat.reduceMod, Int.reduceToNat, Int.reduceLT, Int.reduceLE, Int.reduceAdd, Int.reduceSub, Int.reduceMul, Int.reduceEq, Int.reduceNeg, reduceCtorEq, resV, resAll, ARes.ev, LV.flat, ite_true, ite_false, exists_eq_left', exists_eq_left, keyOf, implies_true, fillC, capOf]
                refine ⟨m3 - 1, by omega, i + 1, relax1 (topsOf x y cs) k v st' (nx.getD i 0), by omega, hstep.symm, pre_step hpre' (by omega) (j := 0) l1 l3, live_step htop' (by omega) l3, live_step htb' (by omega) l3, ?_, live_step hnx' (by omega) l3, f2, f3, f10, f11, ?_, f36, f37, f38, f13, f14, f48, f49, eqI (natI _)⟩
                · rw [he]; exact l2
                · rw [he]; rfl
            · obtain ⟨h1, h2⟩ := not_or.1 hh
              simp (disch := omega) only [f2, f3, f10, f11, f12, f36, f37, f38, f13, f14, f48, f49, f50, hbest'.cell, intL_get, ↓SXd, SXu, slBounds, ↓sop, ↓aop, ↓reduceIte, LV.cells, AOp.dst, LV.I, LV.B, LV.U, LV.S, LV.nil, Nat.reduceEqDiff, Nat.reduceAdd, Nat.reduceMul, Nat.reduceSub, Nat.reduceLeDiff, Nat.reduceBEq, Nat.reduceDiv, Nat.reduceMod, Int.reduceToNat, Int.reduceLT, Int.reduceLE, Int.reduceAdd, Int.reduceSub, Int.reduceMul, Int.reduceEq, Int.reduceNeg, reduceCtorEq, resV, resAll, ARes.ev, LV.flat, ite_true, ite_false, exists_eq_left', exists_eq_left, keyOf, implies_true, fillC, capOf]
              exact ⟨m3 - 1, by omega, i + 1, st', by omega, by rw [hstep, he], hpre', htop', htb', hbest', hnx', f2, f3, f10, f11, f12, f36, f37, f38, f13, f14, f48, f49, eqI (natI _)⟩
          · simp (disch := omega) only [f2, f3, f10, f11, f12, f36, f37, f38, f13, f14, f48, f49, f50, ↓SXd, SXu, slBounds, ↓sop, ↓aop, ↓reduceIte, LV.cells, AOp.dst, LV.I, LV.B, LV.U, LV.S, LV.nil, Nat.reduceEqDiff, Nat.reduceAdd, Nat.reduceMul, Nat.reduceSub, Nat.reduceLeDiff, Nat.reduceBEq, Nat.reduceDiv, Nat.reduceMod, Int.reduceToNat, Int.reduceLT, Int.reduceLE, Int.reduceAdd, Int.reduceSub, Int.reduceMul, Int.reduceEq, Int.reduceNeg, reduceCtorEq, resV, resAll, ARes.ev, LV.flat, ite_true, ite_false, exists_eq_left', exists_eq_left, keyOf, implies_true, fillC, capOf]
            have : i = nx.length := by omega
            subst this
            rw [List.take_length] at hst'
            exact ⟨m2 - 1, by omega, k + 1, st', by omega, by rw [hnext, hrc]; exact hst', hpre', htop', htb', hbest', f2, f3, f10, f11, f12, f36, f37, eqI (natI _)⟩
  · rw [if_neg (fun e => hV e.1)]
    simp (disch := omega) only [hV, ↓SXd, SXu, slBounds, ↓sop, ↓aop, ↓reduceIte, LV.cells, AOp.dst, LV.I, LV.B, LV.U, LV.S, LV.nil, Nat.reduceEqDiff, Nat.reduceAdd, Nat.reduceMul, Nat.reduceSub, Nat.reduceLeDiff, Nat.reduceBEq, Nat.reduceDiv, Nat.reduceMod, Int.reduceToNat, Int.reduceLT, Int.reduceLE, Int.reduceAdd, Int.reduceSub, Int.reduceMul, Int.reduceEq, Int.reduceNeg, reduceCtorEq, resV, resAll, ARes.ev, LV.flat, ite_true, ite_false, exists_eq_left', exists_eq_left, keyOf, implies_true, fillC, capOf]
    exact cmp_drop rfl
end Go.Ab
