/- Parts of the proof of FnTopWalksSaid: C_Ej K_Ej C_Ed2 K_Ed2 C_Ec2 K_Ec2 C_Eg K_Eg C_Ef K_Ef C_Ee K_Ee C_Ed K_Ed C_Ec K_Ec C_Eb3 K_Eb3 C_Eb2 K_Eb2 C_Eb K_Eb C_Ea K_Ea Ma Pg Ea Eb Eb2 Eb3 Sf Mb Mc Md. -/
import Derived.Test.YthgljdbfkojpeaaA3
import Derived.Test.YthgljdbfkojpeaaA4
import Derived.Test.YthgljdbfkojpeaaProg
import Derived.KernelRfl
set_option linter.all false
/- The abstract code of some functions (written by a program of mine from the translation, by way of prepF). -/
namespace Go.Ab.C
open Go.Ab
def spec_LeastClimb : AFn :=
  ⟨4, 120, [.tmp 8, .tmp 9],
    .seq (.ops [(none, .box 4 (.t 0)),
       (none, .mv 8 (.c (.I 0))),
       (none, .mv 9 (.c (.B false)))])
    (.seq (.seq (.ops [(none, .loadN 19 4 (.t 4)),
         (none, .mv 20 (.t 1)),
         (none, .mv 21 (.t 2)),
         (none, .mv 22 (.t 3)),
         (none, .call (some 23) F.spec_l10Both [(.t 19), (.t 20), (.t 21), (.t 22)]),
         (none, .un 24 .not (.t 23)),
         (none, .mv 25 (.t 24)),
         (some (25, false), .loadN 26 4 (.t 4)),
         (some (25, false), .mv 27 (.t 1)),
         (some (25, false), .mv 28 (.t 3)),
         (some (25, false), .call (some 29) F.spec_l10Spread [(.t 26), (.t 27), (.t 28)]),
         (some (25, false), .mv 30 (.t 2)),
         (some (25, false), .idxS 31 1 (.t 29) (.t 30)),
         (some (25, false), .load1 32 (.t 31)),
         (some (25, false), .bin 33 .lss (.t 32) (.c (.I 0))),
         (none, .pick 34 (.t 25) (.c (.B true)) (.t 33))])
      (.cond (.t 34) (.seq (.ops [(none, .mv 8 (.c (.I 0))),
           (none, .mv 9 (.c (.B false)))])
        (.ret))
       (.skip)))
     (.seq (.draw [⟨(none, .fieldAddr 35 (.t 4) 0), [], []⟩,
         ⟨(none, .load1 36 (.t 35)), [], []⟩,
         ⟨(none, .fieldAddr 37 (.t 4) 1), [], []⟩,
         ⟨(none, .load1 38 (.t 37)), [], []⟩,
         ⟨(none, .bin 39 .mul (.t 36) (.t 38)), [], []⟩,
         ⟨(none, .loadN 41 4 (.t 4)), [], []⟩,
         ⟨(none, .mksl 40 1 8 [(.I 0)] (.t 39) (.t 39)), [], []⟩,
         ⟨(none, .call (some 42) F.spec_l2Tops [(.t 41)]), [6], [0, 1, 2, 3, 4]⟩,
         ⟨(none, .mv 10 (.t 40)), [], []⟩,
         ⟨(none, .mv 11 (.t 42)), [], []⟩])
      (.seq (.seq (.ops [(none, .mv 12 (.c (.I 0)))])
        (.block 0 (.loop (.seq (.seq (.ops [(none, .mv 43 (.t 12)),
               (none, .mv 44 (.t 10)),
               (none, .len 45 (.t 44)),
               (none, .bin 46 .lss (.t 43) (.t 45))])
            (.cond (.t 46) (.skip)
             (.exit 0)))
           (.seq (.block 1 (.ops [(none, .mv 49 (.t 10)),
                (none, .mv 50 (.t 12)),
                (none, .idxS 51 1 (.t 49) (.t 50)),
                (none, .store 1 (.t 51) (.c (.I (-1))))]))
            (.ops [(none, .mv 47 (.t 12)),
               (none, .bin 48 .add (.t 47) (.c (.I 1))),
               (none, .mv 12 (.t 48))]))))))
       (.seq (.ops [(none, .mv 52 (.t 10)),
           (none, .mv 53 (.t 1)),
           (none, .idxS 54 1 (.t 52) (.t 53)),
           (none, .store 1 (.t 54) (.c (.I 0)))])
        (.seq (.seq (.ops [(none, .mv 13 (.c (.B true)))])
          (.block 2 (.loop (.seq (.seq (.ops [(none, .mv 55 (.t 13))])
              (.cond (.t 55) (.skip)
               (.exit 2)))
             (.block 3 (.seq (.ops [(none, .mv 13 (.c (.B false)))])
               (.seq (.ops [(none, .mv 14 (.c (.I 0)))])
                (.block 4 (.loop (.seq (.seq (.ops [(none, .mv 56 (.t 14)),
                       (none, .mv 57 (.t 10)),
                       (none, .len 58 (.t 57)),
                       (none, .bin 59 .lss (.t 56) (.t 58))])
                    (.cond (.t 59) (.skip)
                     (.exit 4)))
                   (.seq (.block 5 (.seq (.ops [(none, .loadN 62 4 (.t 4)),
                         (none, .mv 63 (.t 11)),
                         (none, .mv 64 (.t 14)),
                         (none, .mv 65 (.t 3)),
                         (none, .call (some 66) F.spec_l10Steps [(.t 62), (.t 63), (.t 64), (.t 65)]),
                         (none, .mv 15 (.t 66))])
                      (.seq (.ops [(none, .mv 16 (.c (.I 0)))])
                       (.block 6 (.loop (.seq (.seq (.ops [(none, .mv 67 (.t 16)),
                              (none, .mv 68 (.t 15)),
                              (none, .len 69 (.t 68)),
                              (none, .bin 70 .lss (.t 67) (.t 69)),
                              (none, .mv 71 (.t 70)),
                              (some (71, true), .mv 72 (.t 10)),
                              (some (71, true), .mv 73 (.t 14)),
                              (some (71, true), .idxS 74 1 (.t 72) (.t 73)),
                              (some (71, true), .load1 75 (.t 74)),
                              (some (71, true), .bin 76 .geq (.t 75) (.c (.I 0))),
                              (none, .pick 77 (.t 71) (.t 76) (.c (.B false)))])
                           (.cond (.t 77) (.skip)
                            (.exit 6)))
                          (.seq (.block 7 (.seq (.ops [(none, .mv 80 (.t 15)),
                                (none, .mv 81 (.t 16)),
                                (none, .idxS 82 1 (.t 80) (.t 81)),
                                (none, .load1 83 (.t 82)),
                                (none, .mv 17 (.t 83))])
                             (.seq (.draw [⟨(none, .mv 84 (.t 10)), [], []⟩,
                                 ⟨(none, .mv 85 (.t 14)), [], []⟩,
                                 ⟨(none, .idxS 86 1 (.t 84) (.t 85)), [], []⟩,
                                 ⟨(none, .load1 87 (.t 86)), [], []⟩,
                                 ⟨(none, .mv 88 (.t 11)), [], []⟩,
                                 ⟨(none, .mv 89 (.t 17)), [], []⟩,
                                 ⟨(none, .idxS 90 1 (.t 88) (.t 89)), [], []⟩,
                                 ⟨(none, .load1 91 (.t 90)), [], []⟩,
                                 ⟨(none, .mv 92 (.t 11)), [], []⟩,
                                 ⟨(none, .mv 93 (.t 14)), [], []⟩,
                                 ⟨(none, .idxS 94 1 (.t 92) (.t 93)), [], []⟩,
                                 ⟨(none, .load1 95 (.t 94)), [], []⟩,
                                 ⟨(none, .bin 96 .sub (.t 91) (.t 95)), [], []⟩,
                                 ⟨(none, .call (some 97) F.spec_l1Most [(.t 96), (.c (.I 0))]), [], [0, 1, 2, 3]⟩,
                                 ⟨(none, .bin 98 .add (.t 87) (.t 97)), [], []⟩,
                                 ⟨(none, .mv 18 (.t 98)), [], []⟩])
                              (.seq (.ops [(none, .mv 99 (.t 10)),
                                  (none, .mv 100 (.t 17)),
                                  (none, .idxS 101 1 (.t 99) (.t 100)),
                                  (none, .load1 102 (.t 101)),
                                  (none, .bin 103 .lss (.t 102) (.c (.I 0))),
                                  (none, .mv 104 (.t 103)),
                                  (some (104, false), .mv 105 (.t 18)),
                                  (some (104, false), .mv 106 (.t 10)),
                                  (some (104, false), .mv 107 (.t 17)),
                                  (some (104, false), .idxS 108 1 (.t 106) (.t 107)),
                                  (some (104, false), .load1 109 (.t 108)),
                                  (some (104, false), .bin 110 .lss (.t 105) (.t 109)),
                                  (none, .pick 111 (.t 104) (.c (.B true)) (.t 110))])
                               (.cond (.t 111) (.seq (.ops [(none, .mv 112 (.t 10)),
                                    (none, .mv 113 (.t 17)),
                                    (none, .mv 114 (.t 18)),
                                    (none, .idxS 115 1 (.t 112) (.t 113)),
                                    (none, .store 1 (.t 115) (.t 114))])
                                 (.ops [(none, .mv 13 (.c (.B true)))]))
                                (.skip))))))
                           (.ops [(none, .mv 78 (.t 16)),
                              (none, .bin 79 .add (.t 78) (.c (.I 1))),
                              (none, .mv 16 (.t 79))]))))))))
                    (.ops [(none, .mv 60 (.t 14)),
                       (none, .bin 61 .add (.t 60) (.c (.I 1))),
                       (none, .mv 14 (.t 61))]))))))))))))
         (.seq (.ops [(none, .mv 116 (.t 10)),
             (none, .mv 117 (.t 2)),
             (none, .idxS 118 1 (.t 116) (.t 117)),
             (none, .load1 119 (.t 118)),
             (none, .mv 8 (.t 119)),
             (none, .mv 9 (.c (.B true)))])
          (.ret)))))))⟩
end Go.Ab.C

/- That the program has this code. -/
namespace Go.Ab.K
open Go Go.Ab
theorem spec_LeastClimb : prepF Go.Proofs.Try.prog F.spec_LeastClimb = some C.spec_LeastClimb := by kernel_rfl
end Go.Ab.K

/- The abstract code of some functions (written by a program of mine from the translation, by way of prepF). -/
namespace Go.Ab.C
open Go.Ab
def spec_LeastReach : AFn :=
  ⟨3, 25, [.tmp 6, .tmp 7],
    .seq (.ops [(none, .box 3 (.t 0)),
       (none, .mv 6 (.c (.I 0))),
       (none, .mv 7 (.c (.B false)))])
    (.seq (.seq (.ops [(none, .loadN 9 4 (.t 3)),
         (none, .mv 10 (.t 1)),
         (none, .mv 11 (.t 2)),
         (none, .call (some 12) F.spec_l10Both [(.t 9), (.t 10), (.t 11), (.c (.I 0))]),
         (none, .un 13 .not (.t 12))])
      (.cond (.t 13) (.seq (.ops [(none, .mv 6 (.c (.I 0))),
           (none, .mv 7 (.c (.B false)))])
        (.ret))
       (.skip)))
     (.seq (.ops [(none, .mv 8 (.c (.I 0)))])
      (.seq (.block 0 (.loop (.seq (.seq (.ops [(none, .loadN 14 4 (.t 3)),
              (none, .mv 15 (.t 1)),
              (none, .mv 16 (.t 8)),
              (none, .call (some 17) F.spec_l10Spread [(.t 14), (.t 15), (.t 16)]),
              (none, .mv 18 (.t 2)),
              (none, .idxS 19 1 (.t 17) (.t 18)),
              (none, .load1 20 (.t 19)),
              (none, .bin 21 .lss (.t 20) (.c (.I 0)))])
           (.cond (.t 21) (.skip)
            (.exit 0)))
          (.block 1 (.ops [(none, .mv 22 (.t 8)),
              (none, .bin 23 .add (.t 22) (.c (.I 1))),
              (none, .mv 8 (.t 23))])))))
       (.seq (.ops [(none, .mv 24 (.t 8)),
           (none, .mv 6 (.t 24)),
           (none, .mv 7 (.c (.B true)))])
        (.ret)))))⟩
def impl_LeastReach : AFn :=
  ⟨3, 27, [.tmp 6, .tmp 7],
    .seq (.ops [(none, .box 3 (.t 0)),
       (none, .mv 6 (.c (.I 0))),
       (none, .mv 7 (.c (.B false)))])
    (.seq (.seq (.ops [(none, .loadN 9 4 (.t 3)),
         (none, .mv 10 (.t 1)),
         (none, .mv 11 (.t 2)),
         (none, .buildSl 12 2 1 [(.I 0), (.I 0)] [(0, 1, (.t 10)), (1, 1, (.t 11))]),
         (none, .call (some 13) F.impl_isTop [(.t 9), (.c (.I 0)), (.t 12)]),
         (none, .un 14 .not (.t 13))])
      (.cond (.t 14) (.seq (.ops [(none, .mv 6 (.c (.I 0))),
           (none, .mv 7 (.c (.B false)))])
        (.ret))
       (.skip)))
     (.seq (.ops [(none, .mv 8 (.c (.I 0)))])
      (.seq (.block 0 (.loop (.seq (.seq (.ops [(none, .loadN 15 4 (.t 3)),
              (none, .call (some 16) F.impl_Heap_top [(.t 15)]),
              (none, .mv 17 (.t 2)),
              (none, .mv 18 (.t 8)),
              (none, .call (some 19) F.impl_top_distances [(.t 16), (.t 17), (.t 18)]),
              (none, .mv 20 (.t 1)),
              (none, .idxS 21 1 (.t 19) (.t 20)),
              (none, .load1 22 (.t 21)),
              (none, .bin 23 .lss (.t 22) (.c (.I 0)))])
           (.cond (.t 23) (.skip)
            (.exit 0)))
          (.block 1 (.ops [(none, .mv 24 (.t 8)),
              (none, .bin 25 .add (.t 24) (.c (.I 1))),
              (none, .mv 8 (.t 25))])))))
       (.seq (.ops [(none, .mv 26 (.t 8)),
           (none, .mv 6 (.t 26)),
           (none, .mv 7 (.c (.B true)))])
        (.ret)))))⟩
end Go.Ab.C

/- That the program has this code. -/
namespace Go.Ab.K
open Go Go.Ab
theorem spec_LeastReach : prepF Go.Proofs.Try.prog F.spec_LeastReach = some C.spec_LeastReach := by kernel_rfl
theorem impl_LeastReach : prepF Go.Proofs.Try.prog F.impl_LeastReach = some C.impl_LeastReach := by kernel_rfl
end Go.Ab.K

/- The abstract code of some functions (written by a program of mine from the translation, by way of prepF). -/
namespace Go.Ab.C
open Go.Ab
def spec_l10Both : AFn :=
  ⟨4, 21, [.tmp 8],
    .seq (.ops [(none, .box 4 (.t 0)),
       (none, .mv 8 (.c (.B false)))])
    (.seq (.ops [(none, .loadN 9 4 (.t 4)),
        (none, .mv 10 (.t 1)),
        (none, .call (some 11) F.spec_l10Column [(.t 9), (.t 10)]),
        (none, .mv 12 (.t 11)),
        (some (12, true), .loadN 13 4 (.t 4)),
        (some (12, true), .mv 14 (.t 2)),
        (some (12, true), .call (some 15) F.spec_l10Column [(.t 13), (.t 14)]),
        (none, .pick 16 (.t 12) (.t 15) (.c (.B false))),
        (none, .mv 17 (.t 16)),
        (some (17, true), .mv 18 (.t 3)),
        (some (17, true), .bin 19 .geq (.t 18) (.c (.I 0))),
        (none, .pick 20 (.t 17) (.t 19) (.c (.B false))),
        (none, .mv 8 (.t 20))])
     (.ret))⟩
def spec_TopDistance : AFn :=
  ⟨4, 28, [.tmp 8, .tmp 9],
    .seq (.ops [(none, .box 4 (.t 0)),
       (none, .mv 8 (.c (.I 0))),
       (none, .mv 9 (.c (.B false)))])
    (.seq (.seq (.ops [(none, .loadN 11 4 (.t 4)),
         (none, .mv 12 (.t 1)),
         (none, .mv 13 (.t 2)),
         (none, .mv 14 (.t 3)),
         (none, .call (some 15) F.spec_l10Both [(.t 11), (.t 12), (.t 13), (.t 14)]),
         (none, .un 16 .not (.t 15))])
      (.cond (.t 16) (.seq (.ops [(none, .mv 8 (.c (.I 0))),
           (none, .mv 9 (.c (.B false)))])
        (.ret))
       (.skip)))
     (.seq (.ops [(none, .loadN 17 4 (.t 4)),
         (none, .mv 18 (.t 1)),
         (none, .mv 19 (.t 3)),
         (none, .call (some 20) F.spec_l10Spread [(.t 17), (.t 18), (.t 19)]),
         (none, .mv 21 (.t 2)),
         (none, .idxS 22 1 (.t 20) (.t 21)),
         (none, .load1 23 (.t 22)),
         (none, .mv 10 (.t 23))])
      (.seq (.ops [(none, .mv 24 (.t 10)),
          (none, .call (some 25) F.spec_l1Most [(.t 24), (.c (.I 0))]),
          (none, .mv 26 (.t 10)),
          (none, .bin 27 .geq (.t 26) (.c (.I 0))),
          (none, .mv 8 (.t 25)),
          (none, .mv 9 (.t 27))])
       (.ret))))⟩
def impl_found : AFn :=
  ⟨1, 8, [.tmp 2, .tmp 3],
    .seq (.ops [(none, .mv 2 (.c (.I 0))),
       (none, .mv 3 (.c (.B false)))])
    (.seq (.ops [(none, .mv 4 (.t 0)),
        (none, .mm 5 true [(.c (.I 0)), (.t 4)]),
        (none, .mv 6 (.t 0)),
        (none, .bin 7 .geq (.t 6) (.c (.I 0))),
        (none, .mv 2 (.t 5)),
        (none, .mv 3 (.t 7))])
     (.ret))⟩
def impl_TopDistance : AFn :=
  ⟨4, 28, [.tmp 8, .tmp 9],
    .seq (.ops [(none, .box 4 (.t 0)),
       (none, .mv 8 (.c (.I 0))),
       (none, .mv 9 (.c (.B false)))])
    (.seq (.seq (.ops [(none, .loadN 10 4 (.t 4)),
         (none, .mv 11 (.t 3)),
         (none, .mv 12 (.t 1)),
         (none, .mv 13 (.t 2)),
         (none, .buildSl 14 2 1 [(.I 0), (.I 0)] [(0, 1, (.t 12)), (1, 1, (.t 13))]),
         (none, .call (some 15) F.impl_isTop [(.t 10), (.t 11), (.t 14)]),
         (none, .un 16 .not (.t 15))])
      (.cond (.t 16) (.seq (.ops [(none, .mv 8 (.c (.I 0))),
           (none, .mv 9 (.c (.B false)))])
        (.ret))
       (.skip)))
     (.seq (.ops [(none, .loadN 17 4 (.t 4)),
         (none, .call (some 18) F.impl_Heap_top [(.t 17)]),
         (none, .mv 19 (.t 2)),
         (none, .mv 20 (.t 3)),
         (none, .call (some 21) F.impl_top_distances [(.t 18), (.t 19), (.t 20)]),
         (none, .mv 22 (.t 1)),
         (none, .idxS 23 1 (.t 21) (.t 22)),
         (none, .load1 24 (.t 23)),
         (none, .call (some 25) F.impl_found [(.t 24)]),
         (none, .extract 26 (.t 25) 0),
         (none, .extract 27 (.t 25) 1),
         (none, .mv 8 (.t 26)),
         (none, .mv 9 (.t 27))])
      (.ret)))⟩
end Go.Ab.C

/- That the program has this code. -/
namespace Go.Ab.K
open Go Go.Ab
theorem spec_l10Both : prepF Go.Proofs.Try.prog F.spec_l10Both = some C.spec_l10Both := by kernel_rfl
theorem spec_TopDistance : prepF Go.Proofs.Try.prog F.spec_TopDistance = some C.spec_TopDistance := by kernel_rfl
theorem impl_found : prepF Go.Proofs.Try.prog F.impl_found = some C.impl_found := by kernel_rfl
theorem impl_TopDistance : prepF Go.Proofs.Try.prog F.impl_TopDistance = some C.impl_TopDistance := by kernel_rfl
end Go.Ab.K

/- The abstract code of some functions (written by a program of mine from the translation, by way of prepF). -/
namespace Go.Ab.C
open Go.Ab
def impl_CountRegions_1 : AFn :=
  ⟨1, 5, [.tmp 2],
    .seq (.ops [(none, .mv 2 (.c (.B false)))])
    (.seq (.ops [(none, .mv 3 (.t 0)),
        (none, .bin 4 .geq (.t 3) (.c (.I 0))),
        (none, .mv 2 (.t 4))])
     (.ret))⟩
def impl_CountRegions : AFn :=
  ⟨2, 32, [.tmp 4, .tmp 5],
    .seq (.ops [(none, .box 2 (.t 0)),
       (none, .mv 4 (.c (.I 0))),
       (none, .mv 5 (.c (.B false)))])
    (.seq (.seq (.ops [(none, .loadN 9 4 (.t 2)),
         (none, .mv 10 (.t 1)),
         (none, .call (some 11) F.impl_isTop [(.t 9), (.t 10), (.c .nil)]),
         (none, .un 12 .not (.t 11))])
      (.cond (.t 12) (.seq (.ops [(none, .mv 4 (.c (.I 0))),
           (none, .mv 5 (.c (.B false)))])
        (.ret))
       (.skip)))
     (.seq (.ops [(none, .loadN 13 4 (.t 2)),
         (none, .call (some 14) F.impl_Heap_top [(.t 13)]),
         (none, .alloc 7 [.nil, (.I 0)]),
         (none, .mv 6 (.c (.I 0))),
         (none, .store 2 (.t 7) (.t 14))])
      (.seq (.seq (.ops [(none, .fieldAddr 15 (.t 7) 0),
           (none, .load1 16 (.t 15)),
           (none, .len 17 (.t 16)),
           (none, .mv 18 (.c (.I 0)))])
        (.block 0 (.loop (.seq (.ops [(none, .bin 19 .lss (.t 18) (.t 17))])
           (.seq (.cond (.t 19) (.skip)
             (.exit 0))
            (.seq (.block 1 (.seq (.ops [(none, .mv 20 (.t 18)),
                  (none, .mv 8 (.t 20))])
               (.seq (.ops [(none, .loadN 21 2 (.t 7)),
                   (none, .mv 22 (.t 8)),
                   (none, .mv 23 (.t 1)),
                   (none, .call (some 24) F.impl_top_distances [(.t 21), (.t 22), (.t 23)]),
                   (none, .call (some 25) F.slices_IndexFunc_Sint_int [(.t 24), (.c (.clo F.impl_CountRegions_1 []))]),
                   (none, .mv 26 (.t 8)),
                   (none, .bin 27 .eql (.t 25) (.t 26))])
                (.cond (.t 27) (.ops [(none, .mv 28 (.t 6)),
                    (none, .bin 29 .add (.t 28) (.c (.I 1))),
                    (none, .mv 6 (.t 29))])
                 (.skip)))))
             (.ops [(none, .bin 30 .add (.t 18) (.c (.I 1))),
                (none, .mv 18 (.t 30))])))))))
       (.seq (.ops [(none, .mv 31 (.t 6)),
           (none, .mv 4 (.t 31)),
           (none, .mv 5 (.c (.B true)))])
        (.ret)))))⟩
def impl_TopRegion : AFn :=
  ⟨3, 37, [.tmp 6, .tmp 7],
    .seq (.ops [(none, .box 3 (.t 0)),
       (none, .mv 6 (.c .nil)),
       (none, .mv 7 (.c (.B false)))])
    (.seq (.seq (.ops [(none, .loadN 11 4 (.t 3)),
         (none, .mv 12 (.t 2)),
         (none, .mv 13 (.t 1)),
         (none, .buildSl 14 1 1 [(.I 0)] [(0, 1, (.t 13))]),
         (none, .call (some 15) F.impl_isTop [(.t 11), (.t 12), (.t 14)]),
         (none, .un 16 .not (.t 15))])
      (.cond (.t 16) (.seq (.ops [(none, .mv 6 (.c .nil)),
           (none, .mv 7 (.c (.B false)))])
        (.ret))
       (.skip)))
     (.seq (.ops [(none, .buildSl 17 0 1 [] []),
         (none, .mv 8 (.t 17))])
      (.seq (.seq (.ops [(none, .loadN 18 4 (.t 3)),
           (none, .call (some 19) F.impl_Heap_top [(.t 18)]),
           (none, .mv 20 (.t 1)),
           (none, .mv 21 (.t 2)),
           (none, .call (some 22) F.impl_top_distances [(.t 19), (.t 20), (.t 21)]),
           (none, .len 23 (.t 22)),
           (none, .mv 24 (.c (.I 0)))])
        (.block 0 (.loop (.seq (.ops [(none, .bin 25 .lss (.t 24) (.t 23))])
           (.seq (.cond (.t 25) (.skip)
             (.exit 0))
            (.seq (.block 1 (.seq (.ops [(none, .mv 26 (.t 24)),
                  (none, .idxS 27 1 (.t 22) (.t 24)),
                  (none, .load1 28 (.t 27)),
                  (none, .mv 9 (.t 26)),
                  (none, .mv 10 (.t 28))])
               (.seq (.ops [(none, .mv 29 (.t 10)),
                   (none, .bin 30 .geq (.t 29) (.c (.I 0)))])
                (.cond (.t 30) (.ops [(none, .mv 31 (.t 8)),
                    (none, .mv 32 (.t 9)),
                    (none, .buildSl 33 1 1 [(.I 0)] [(0, 1, (.t 32))]),
                    (none, .append 34 1 8 (.t 31) (.t 33)),
                    (none, .mv 8 (.t 34))])
                 (.skip)))))
             (.ops [(none, .bin 35 .add (.t 24) (.c (.I 1))),
                (none, .mv 24 (.t 35))])))))))
       (.seq (.ops [(none, .mv 36 (.t 8)),
           (none, .mv 6 (.t 36)),
           (none, .mv 7 (.c (.B true)))])
        (.ret)))))⟩
end Go.Ab.C

/- That the program has this code. -/
namespace Go.Ab.K
open Go Go.Ab
theorem impl_CountRegions_1 : prepF Go.Proofs.Try.prog F.impl_CountRegions_1 = some C.impl_CountRegions_1 := by kernel_rfl
theorem impl_CountRegions : prepF Go.Proofs.Try.prog F.impl_CountRegions = some C.impl_CountRegions := by kernel_rfl
theorem impl_TopRegion : prepF Go.Proofs.Try.prog F.impl_TopRegion = some C.impl_TopRegion := by kernel_rfl
end Go.Ab.K

/- The abstract code of some functions (written by a program of mine from the translation, by way of prepF). -/
namespace Go.Ab.C
open Go.Ab
def impl_top_distances : AFn :=
  ⟨3, 62, [.tmp 6],
    .seq (.ops [(none, .box 3 (.t 0)),
       (none, .mv 6 (.c .nil))])
    (.seq (.ops [(none, .buildSl 12 1 1 [(.I 0)] [(0, 1, (.c (.I (-1))))]),
        (none, .fieldAddr 13 (.t 3) 0),
        (none, .load1 14 (.t 13)),
        (none, .len 15 (.t 14)),
        (none, .call (some 16) F.slices_Repeat_Sint_int [(.t 12), (.t 15)]),
        (none, .mv 7 (.t 16))])
     (.seq (.ops [(none, .mv 17 (.t 7)),
         (none, .mv 18 (.t 1)),
         (none, .idxS 19 1 (.t 17) (.t 18)),
         (none, .store 1 (.t 19) (.c (.I 0)))])
      (.seq (.ops [(none, .mv 20 (.t 1)),
          (none, .buildSl 21 1 1 [(.I 0)] [(0, 1, (.t 20))]),
          (none, .mv 8 (.t 21))])
       (.seq (.seq (.ops [(none, .mv 9 (.c (.I 0)))])
         (.block 0 (.loop (.seq (.seq (.ops [(none, .mv 22 (.t 9)),
                (none, .mv 23 (.t 8)),
                (none, .len 24 (.t 23)),
                (none, .bin 25 .lss (.t 22) (.t 24))])
             (.cond (.t 25) (.skip)
              (.exit 0)))
            (.seq (.block 1 (.seq (.draw [⟨(none, .loadN 28 2 (.t 3)), [], []⟩,
                  ⟨(none, .mv 29 (.t 8)), [], []⟩,
                  ⟨(none, .mv 30 (.t 9)), [], []⟩,
                  ⟨(none, .idxS 31 1 (.t 29) (.t 30)), [], []⟩,
                  ⟨(none, .load1 32 (.t 31)), [], []⟩,
                  ⟨(none, .mv 33 (.t 2)), [], []⟩,
                  ⟨(none, .mv 36 (.c (.I 0))), [], []⟩,
                  ⟨(none, .call (some 34) F.impl_top_steps [(.t 28), (.t 32), (.t 33)]), [], [6]⟩,
                  ⟨(none, .len 35 (.t 34)), [], []⟩])
               (.block 2 (.loop (.seq (.ops [(none, .bin 37 .lss (.t 36) (.t 35))])
                  (.seq (.cond (.t 37) (.skip)
                    (.exit 2))
                   (.seq (.block 3 (.seq (.ops [(none, .idxS 38 1 (.t 34) (.t 36)),
                         (none, .load1 39 (.t 38)),
                         (none, .mv 11 (.t 39))])
                      (.seq (.ops [(none, .mv 40 (.t 7)),
                          (none, .mv 41 (.t 11)),
                          (none, .idxS 42 1 (.t 40) (.t 41)),
                          (none, .load1 43 (.t 42)),
                          (none, .bin 44 .lss (.t 43) (.c (.I 0)))])
                       (.cond (.t 44) (.seq (.ops [(none, .mv 45 (.t 7)),
                            (none, .mv 46 (.t 11)),
                            (none, .mv 47 (.t 7)),
                            (none, .mv 48 (.t 8)),
                            (none, .mv 49 (.t 9)),
                            (none, .idxS 50 1 (.t 48) (.t 49)),
                            (none, .load1 51 (.t 50)),
                            (none, .idxS 52 1 (.t 47) (.t 51)),
                            (none, .load1 53 (.t 52)),
                            (none, .bin 54 .add (.t 53) (.c (.I 1))),
                            (none, .idxS 55 1 (.t 45) (.t 46)),
                            (none, .store 1 (.t 55) (.t 54))])
                         (.ops [(none, .mv 56 (.t 8)),
                            (none, .mv 57 (.t 11)),
                            (none, .buildSl 58 1 1 [(.I 0)] [(0, 1, (.t 57))]),
                            (none, .append 59 1 8 (.t 56) (.t 58)),
                            (none, .mv 8 (.t 59))]))
                        (.skip)))))
                    (.ops [(none, .bin 60 .add (.t 36) (.c (.I 1))),
                       (none, .mv 36 (.t 60))]))))))))
             (.ops [(none, .mv 26 (.t 9)),
                (none, .bin 27 .add (.t 26) (.c (.I 1))),
                (none, .mv 9 (.t 27))]))))))
        (.seq (.ops [(none, .mv 61 (.t 7)),
            (none, .mv 6 (.t 61))])
         (.ret))))))⟩
end Go.Ab.C

/- That the program has this code. -/
namespace Go.Ab.K
open Go Go.Ab
theorem impl_top_distances : prepF Go.Proofs.Try.prog F.impl_top_distances = some C.impl_top_distances := by kernel_rfl
end Go.Ab.K

/- The abstract code of some functions (written by a program of mine from the translation, by way of prepF). -/
namespace Go.Ab.C
open Go.Ab
def impl_top_steps : AFn :=
  ⟨3, 12, [.tmp 6],
    .seq (.ops [(none, .box 3 (.t 0)),
       (none, .box 4 (.t 1)),
       (none, .box 5 (.t 2)),
       (none, .mv 6 (.c .nil))])
    (.seq (.ops [(none, .loadN 7 2 (.t 3)),
        (none, .load1 8 (.t 4)),
        (none, .call (some 9) F.impl_top_near [(.t 7), (.t 8)]),
        (none, .mkf 10 F.impl_top_steps_1 [(.t 3), (.t 4), (.t 5)]),
        (none, .call (some 11) F.slices_DeleteFunc_Sint_int [(.t 9), (.t 10)]),
        (none, .mv 6 (.t 11))])
     (.ret))⟩
def math_bits_Mul64 : AFn :=
  ⟨2, 51, [.tmp 4, .tmp 5],
    .seq (.ops [(none, .mv 4 (.c (.U 0))),
       (none, .mv 5 (.c (.U 0)))])
    (.seq (.ops [(none, .mv 14 (.t 0)),
        (none, .bin 15 .and (.t 14) (.c (.U 4294967295))),
        (none, .mv 6 (.t 15))])
     (.seq (.ops [(none, .mv 16 (.t 0)),
         (none, .bin 17 .shr (.t 16) (.c (.U 32))),
         (none, .mv 7 (.t 17))])
      (.seq (.ops [(none, .mv 18 (.t 1)),
          (none, .bin 19 .and (.t 18) (.c (.U 4294967295))),
          (none, .mv 8 (.t 19))])
       (.seq (.ops [(none, .mv 20 (.t 1)),
           (none, .bin 21 .shr (.t 20) (.c (.U 32))),
           (none, .mv 9 (.t 21))])
        (.seq (.ops [(none, .mv 22 (.t 6)),
            (none, .mv 23 (.t 8)),
            (none, .bin 24 .mul (.t 22) (.t 23)),
            (none, .mv 10 (.t 24))])
         (.seq (.ops [(none, .mv 25 (.t 7)),
             (none, .mv 26 (.t 8)),
             (none, .bin 27 .mul (.t 25) (.t 26)),
             (none, .mv 28 (.t 10)),
             (none, .bin 29 .shr (.t 28) (.c (.U 32))),
             (none, .bin 30 .add (.t 27) (.t 29)),
             (none, .mv 11 (.t 30))])
          (.seq (.ops [(none, .mv 31 (.t 11)),
              (none, .bin 32 .and (.t 31) (.c (.U 4294967295))),
              (none, .mv 12 (.t 32))])
           (.seq (.ops [(none, .mv 33 (.t 11)),
               (none, .bin 34 .shr (.t 33) (.c (.U 32))),
               (none, .mv 13 (.t 34))])
            (.seq (.ops [(none, .mv 35 (.t 12)),
                (none, .mv 36 (.t 6)),
                (none, .mv 37 (.t 9)),
                (none, .bin 38 .mul (.t 36) (.t 37)),
                (none, .bin 39 .add (.t 35) (.t 38)),
                (none, .mv 12 (.t 39))])
             (.seq (.ops [(none, .mv 40 (.t 7)),
                 (none, .mv 41 (.t 9)),
                 (none, .bin 42 .mul (.t 40) (.t 41)),
                 (none, .mv 43 (.t 13)),
                 (none, .bin 44 .add (.t 42) (.t 43)),
                 (none, .mv 45 (.t 12)),
                 (none, .bin 46 .shr (.t 45) (.c (.U 32))),
                 (none, .bin 47 .add (.t 44) (.t 46)),
                 (none, .mv 4 (.t 47))])
              (.seq (.ops [(none, .mv 48 (.t 0)),
                  (none, .mv 49 (.t 1)),
                  (none, .bin 50 .mul (.t 48) (.t 49)),
                  (none, .mv 5 (.t 50))])
               (.ret))))))))))))⟩
def math_bits_Mul : AFn :=
  ⟨2, 30, [.tmp 4, .tmp 5],
    .seq (.ops [(none, .mv 4 (.c (.U 0))),
       (none, .mv 5 (.c (.U 0)))])
    (.seq (.cond (.c (.B false)) (.seq (.ops [(none, .mv 11 (.t 0)),
          (none, .conv 12 .u32 (.t 11)),
          (none, .mv 13 (.t 1)),
          (none, .conv 14 .u32 (.t 13)),
          (none, .call (some 15) F.math_bits_Mul32 [(.t 12), (.t 14)]),
          (none, .mv 10 (.t 15)),
          (none, .extract 16 (.t 10) 0),
          (none, .extract 17 (.t 10) 1),
          (none, .mv 6 (.t 16)),
          (none, .mv 7 (.t 17))])
       (.seq (.ops [(none, .mv 18 (.t 6)),
           (none, .conv 19 .u64 (.t 18)),
           (none, .mv 20 (.t 7)),
           (none, .conv 21 .u64 (.t 20)),
           (none, .mv 4 (.t 19)),
           (none, .mv 5 (.t 21))])
        (.ret)))
      (.skip))
     (.seq (.ops [(none, .mv 23 (.t 0)),
         (none, .mv 24 (.t 1)),
         (none, .call (some 25) F.math_bits_Mul64 [(.t 23), (.t 24)]),
         (none, .mv 22 (.t 25)),
         (none, .extract 26 (.t 22) 0),
         (none, .extract 27 (.t 22) 1),
         (none, .mv 8 (.t 26)),
         (none, .mv 9 (.t 27))])
      (.seq (.ops [(none, .mv 28 (.t 8)),
          (none, .mv 29 (.t 9)),
          (none, .mv 4 (.t 28)),
          (none, .mv 5 (.t 29))])
       (.ret))))⟩
def slices_Repeat_Sint_int : AFn :=
  ⟨2, 48, [.tmp 4],
    .seq (.ops [(none, .mv 4 (.c .nil))])
    (.seq (.seq (.ops [(none, .mv 9 (.t 1)),
         (none, .bin 10 .lss (.t 9) (.c (.I 0)))])
      (.cond (.t 10) (.ops [(none, .bad),
          (none, .bad)])
       (.skip)))
     (.seq (.ops [(none, .mv 13 (.t 0)),
         (none, .len 14 (.t 13)),
         (none, .conv 15 .u64 (.t 14)),
         (none, .mv 16 (.t 1)),
         (none, .conv 17 .u64 (.t 16)),
         (none, .call (some 18) F.math_bits_Mul [(.t 15), (.t 17)]),
         (none, .mv 12 (.t 18)),
         (none, .extract 19 (.t 12) 0),
         (none, .extract 20 (.t 12) 1),
         (none, .mv 5 (.t 19)),
         (none, .mv 6 (.t 20))])
      (.seq (.seq (.ops [(none, .mv 21 (.t 5)),
           (none, .bin 22 .gtr (.t 21) (.c (.U 0))),
           (none, .mv 23 (.t 22)),
           (some (23, false), .mv 24 (.t 6)),
           (some (23, false), .bin 25 .gtr (.t 24) (.c (.U 9223372036854775807))),
           (none, .pick 26 (.t 23) (.c (.B true)) (.t 25))])
        (.cond (.t 26) (.ops [(none, .bad),
            (none, .bad)])
         (.skip)))
       (.seq (.ops [(none, .mv 28 (.t 6)),
           (none, .conv 29 .i64 (.t 28)),
           (none, .mksl 30 1 8 [(.I 0)] (.t 29) (.t 29)),
           (none, .mv 7 (.t 30))])
        (.seq (.ops [(none, .mv 31 (.t 7)),
            (none, .mv 32 (.t 0)),
            (none, .copy 33 1 (.t 31) (.t 32)),
            (none, .mv 8 (.t 33))])
         (.seq (.block 0 (.loop (.seq (.seq (.ops [(none, .mv 34 (.t 8)),
                 (none, .mv 35 (.t 7)),
                 (none, .len 36 (.t 35)),
                 (none, .bin 37 .lss (.t 34) (.t 36))])
              (.cond (.t 37) (.skip)
               (.exit 0)))
             (.block 1 (.draw [⟨(none, .mv 38 (.t 8)), [], []⟩,
                 ⟨(none, .mv 39 (.t 7)), [], []⟩,
                 ⟨(none, .mv 40 (.t 8)), [], []⟩,
                 ⟨(none, .slS 41 1 (.t 39) (some (.t 40)) none), [], []⟩,
                 ⟨(none, .mv 42 (.t 7)), [], []⟩,
                 ⟨(none, .mv 43 (.t 8)), [], []⟩,
                 ⟨(none, .slS 44 1 (.t 42) none (some (.t 43))), [], []⟩,
                 ⟨(none, .copy 45 1 (.t 41) (.t 44)), [], [0]⟩,
                 ⟨(none, .bin 46 .add (.t 38) (.t 45)), [], []⟩,
                 ⟨(none, .mv 8 (.t 46)), [], []⟩])))))
          (.seq (.ops [(none, .mv 47 (.t 7)),
              (none, .mv 4 (.t 47))])
           (.ret))))))))⟩
end Go.Ab.C

/- That the program has this code. -/
namespace Go.Ab.K
open Go Go.Ab
theorem impl_top_steps : prepF Go.Proofs.Try.prog F.impl_top_steps = some C.impl_top_steps := by kernel_rfl
theorem math_bits_Mul64 : prepF Go.Proofs.Try.prog F.math_bits_Mul64 = some C.math_bits_Mul64 := by kernel_rfl
theorem math_bits_Mul : prepF Go.Proofs.Try.prog F.math_bits_Mul = some C.math_bits_Mul := by kernel_rfl
theorem slices_Repeat_Sint_int : prepF Go.Proofs.Try.prog F.slices_Repeat_Sint_int = some C.slices_Repeat_Sint_int := by kernel_rfl
end Go.Ab.K

/- The abstract code of some functions (written by a program of mine from the translation, by way of prepF). -/
namespace Go.Ab.C
open Go.Ab
def slices_IndexFunc_Sint_int : AFn :=
  ⟨2, 19, [.tmp 4],
    .seq (.ops [(none, .mv 4 (.c (.I 0)))])
    (.seq (.seq (.ops [(none, .mv 6 (.t 0)),
         (none, .len 7 (.t 6)),
         (none, .mv 8 (.c (.I 0)))])
      (.block 0 (.loop (.seq (.ops [(none, .bin 9 .lss (.t 8) (.t 7))])
         (.seq (.cond (.t 9) (.skip)
           (.exit 0))
          (.seq (.block 1 (.seq (.ops [(none, .mv 10 (.t 8)),
                (none, .mv 5 (.t 10))])
             (.seq (.ops [(none, .mv 11 (.t 1)),
                 (none, .mv 12 (.t 0)),
                 (none, .mv 13 (.t 5)),
                 (none, .idxS 14 1 (.t 12) (.t 13)),
                 (none, .load1 15 (.t 14)),
                 (none, .callV (some 16) (.t 11) [(.t 15)])])
              (.cond (.t 16) (.seq (.ops [(none, .mv 17 (.t 5)),
                   (none, .mv 4 (.t 17))])
                (.ret))
               (.skip)))))
           (.ops [(none, .bin 18 .add (.t 8) (.c (.I 1))),
              (none, .mv 8 (.t 18))])))))))
     (.seq (.ops [(none, .mv 4 (.c (.I (-1))))])
      (.ret)))⟩
def slices_DeleteFunc_Sint_int : AFn :=
  ⟨2, 42, [.tmp 4],
    .seq (.ops [(none, .mv 4 (.c .nil))])
    (.seq (.ops [(none, .mv 8 (.t 0)),
        (none, .mv 9 (.t 1)),
        (none, .call (some 10) F.slices_IndexFunc_Sint_int [(.t 8), (.t 9)]),
        (none, .mv 5 (.t 10))])
     (.seq (.seq (.ops [(none, .mv 11 (.t 5)),
          (none, .bin 12 .eql (.t 11) (.c (.I (-1))))])
       (.cond (.t 12) (.seq (.ops [(none, .mv 13 (.t 0)),
            (none, .mv 4 (.t 13))])
         (.ret))
        (.skip)))
      (.seq (.seq (.ops [(none, .mv 14 (.t 5)),
           (none, .bin 15 .add (.t 14) (.c (.I 1))),
           (none, .mv 6 (.t 15))])
        (.block 0 (.loop (.seq (.seq (.ops [(none, .mv 16 (.t 6)),
               (none, .mv 17 (.t 0)),
               (none, .len 18 (.t 17)),
               (none, .bin 19 .lss (.t 16) (.t 18))])
            (.cond (.t 19) (.skip)
             (.exit 0)))
           (.seq (.block 1 (.seq (.ops [(none, .mv 22 (.t 0)),
                 (none, .mv 23 (.t 6)),
                 (none, .idxS 24 1 (.t 22) (.t 23)),
                 (none, .load1 25 (.t 24)),
                 (none, .mv 7 (.t 25))])
              (.seq (.ops [(none, .mv 26 (.t 1)),
                  (none, .mv 27 (.t 7)),
                  (none, .callV (some 28) (.t 26) [(.t 27)]),
                  (none, .un 29 .not (.t 28))])
               (.cond (.t 29) (.seq (.ops [(none, .mv 30 (.t 0)),
                    (none, .mv 31 (.t 5)),
                    (none, .mv 32 (.t 7)),
                    (none, .idxS 33 1 (.t 30) (.t 31)),
                    (none, .store 1 (.t 33) (.t 32))])
                 (.ops [(none, .mv 34 (.t 5)),
                    (none, .bin 35 .add (.t 34) (.c (.I 1))),
                    (none, .mv 5 (.t 35))]))
                (.skip)))))
            (.ops [(none, .mv 20 (.t 6)),
               (none, .bin 21 .add (.t 20) (.c (.I 1))),
               (none, .mv 6 (.t 21))]))))))
       (.seq (.ops [(none, .mv 36 (.t 0)),
           (none, .mv 37 (.t 5)),
           (none, .slS 38 1 (.t 36) (some (.t 37)) none),
           (none, .clear none 1 [(.I 0)] (.t 38))])
        (.seq (.ops [(none, .mv 39 (.t 0)),
            (none, .mv 40 (.t 5)),
            (none, .slS 41 1 (.t 39) none (some (.t 40))),
            (none, .mv 4 (.t 41))])
         (.ret))))))⟩
end Go.Ab.C

/- That the program has this code. -/
namespace Go.Ab.K
open Go Go.Ab
theorem slices_IndexFunc_Sint_int : prepF Go.Proofs.Try.prog F.slices_IndexFunc_Sint_int = some C.slices_IndexFunc_Sint_int := by kernel_rfl
theorem slices_DeleteFunc_Sint_int : prepF Go.Proofs.Try.prog F.slices_DeleteFunc_Sint_int = some C.slices_DeleteFunc_Sint_int := by kernel_rfl
end Go.Ab.K

/- The abstract code of some functions (written by a program of mine from the translation, by way of prepF). -/
namespace Go.Ab.C
open Go.Ab
def impl_top_near : AFn :=
  ⟨2, 57, [.tmp 4],
    .seq (.ops [(none, .box 2 (.t 0)),
       (none, .mv 4 (.c .nil))])
    (.seq (.ops [(none, .buildSl 6 0 1 [] []),
        (none, .mv 5 (.t 6))])
     (.seq (.seq (.ops [(none, .mv 7 (.t 1)),
          (none, .fieldAddr 8 (.t 2) 1),
          (none, .load1 9 (.t 8)),
          (none, .bin 10 .geq (.t 7) (.t 9))])
       (.cond (.t 10) (.ops [(none, .mv 11 (.t 5)),
           (none, .mv 12 (.t 1)),
           (none, .fieldAddr 13 (.t 2) 1),
           (none, .load1 14 (.t 13)),
           (none, .bin 15 .sub (.t 12) (.t 14)),
           (none, .buildSl 16 1 1 [(.I 0)] [(0, 1, (.t 15))]),
           (none, .append 17 1 8 (.t 11) (.t 16)),
           (none, .mv 5 (.t 17))])
        (.skip)))
      (.seq (.seq (.ops [(none, .mv 18 (.t 1)),
           (none, .fieldAddr 19 (.t 2) 1),
           (none, .load1 20 (.t 19)),
           (none, .bin 21 .rem (.t 18) (.t 20)),
           (none, .bin 22 .gtr (.t 21) (.c (.I 0)))])
        (.cond (.t 22) (.ops [(none, .mv 23 (.t 5)),
            (none, .mv 24 (.t 1)),
            (none, .bin 25 .sub (.t 24) (.c (.I 1))),
            (none, .buildSl 26 1 1 [(.I 0)] [(0, 1, (.t 25))]),
            (none, .append 27 1 8 (.t 23) (.t 26)),
            (none, .mv 5 (.t 27))])
         (.skip)))
       (.seq (.seq (.draw [⟨(none, .mv 28 (.t 1)), [], []⟩,
            ⟨(none, .fieldAddr 29 (.t 2) 1), [], []⟩,
            ⟨(none, .load1 30 (.t 29)), [], []⟩,
            ⟨(none, .bin 31 .rem (.t 28) (.t 30)), [], []⟩,
            ⟨(none, .fieldAddr 32 (.t 2) 1), [], []⟩,
            ⟨(none, .load1 33 (.t 32)), [], []⟩,
            ⟨(none, .bin 34 .sub (.t 33) (.c (.I 1))), [], []⟩,
            ⟨(none, .bin 35 .lss (.t 31) (.t 34)), [], []⟩])
         (.cond (.t 35) (.ops [(none, .mv 36 (.t 5)),
             (none, .mv 37 (.t 1)),
             (none, .bin 38 .add (.t 37) (.c (.I 1))),
             (none, .buildSl 39 1 1 [(.I 0)] [(0, 1, (.t 38))]),
             (none, .append 40 1 8 (.t 36) (.t 39)),
             (none, .mv 5 (.t 40))])
          (.skip)))
        (.seq (.seq (.ops [(none, .mv 41 (.t 1)),
             (none, .fieldAddr 42 (.t 2) 1),
             (none, .load1 43 (.t 42)),
             (none, .bin 44 .add (.t 41) (.t 43)),
             (none, .fieldAddr 45 (.t 2) 0),
             (none, .load1 46 (.t 45)),
             (none, .len 47 (.t 46)),
             (none, .bin 48 .lss (.t 44) (.t 47))])
          (.cond (.t 48) (.ops [(none, .mv 49 (.t 5)),
              (none, .mv 50 (.t 1)),
              (none, .fieldAddr 51 (.t 2) 1),
              (none, .load1 52 (.t 51)),
              (none, .bin 53 .add (.t 50) (.t 52)),
              (none, .buildSl 54 1 1 [(.I 0)] [(0, 1, (.t 53))]),
              (none, .append 55 1 8 (.t 49) (.t 54)),
              (none, .mv 5 (.t 55))])
           (.skip)))
         (.seq (.ops [(none, .mv 56 (.t 5)),
             (none, .mv 4 (.t 56))])
          (.ret)))))))⟩
def impl_top_apart : AFn :=
  ⟨3, 30, [.tmp 6],
    .seq (.ops [(none, .box 3 (.t 0)),
       (none, .mv 6 (.c (.I 0)))])
    (.seq (.draw [⟨(none, .fieldAddr 7 (.t 3) 0), [], []⟩,
        ⟨(none, .load1 8 (.t 7)), [], []⟩,
        ⟨(none, .mv 9 (.t 1)), [], []⟩,
        ⟨(none, .idxS 10 1 (.t 8) (.t 9)), [], []⟩,
        ⟨(none, .load1 11 (.t 10)), [], []⟩,
        ⟨(none, .fieldAddr 12 (.t 3) 0), [], []⟩,
        ⟨(none, .load1 13 (.t 12)), [], []⟩,
        ⟨(none, .mv 14 (.t 2)), [], []⟩,
        ⟨(none, .idxS 15 1 (.t 13) (.t 14)), [], []⟩,
        ⟨(none, .load1 16 (.t 15)), [], []⟩,
        ⟨(none, .bin 17 .sub (.t 11) (.t 16)), [], []⟩,
        ⟨(none, .fieldAddr 18 (.t 3) 0), [], []⟩,
        ⟨(none, .load1 19 (.t 18)), [], []⟩,
        ⟨(none, .mv 20 (.t 2)), [], []⟩,
        ⟨(none, .idxS 21 1 (.t 19) (.t 20)), [], []⟩,
        ⟨(none, .load1 22 (.t 21)), [], []⟩,
        ⟨(none, .fieldAddr 23 (.t 3) 0), [], []⟩,
        ⟨(none, .load1 24 (.t 23)), [], []⟩,
        ⟨(none, .mv 25 (.t 1)), [], []⟩,
        ⟨(none, .idxS 26 1 (.t 24) (.t 25)), [], []⟩,
        ⟨(none, .load1 27 (.t 26)), [], []⟩,
        ⟨(none, .bin 28 .sub (.t 22) (.t 27)), [], []⟩,
        ⟨(none, .mm 29 true [(.t 17), (.t 28)]), [], []⟩,
        ⟨(none, .mv 6 (.t 29)), [], []⟩])
     (.ret))⟩
def impl_top_steps_1 : AFn :=
  ⟨4, 12, [.tmp 5],
    .seq (.ops [(none, .mv 5 (.c (.B false)))])
    (.seq (.draw [⟨(none, .loadN 6 2 (.t 1)), [], []⟩,
        ⟨(none, .load1 7 (.t 2)), [], []⟩,
        ⟨(none, .mv 8 (.t 0)), [], []⟩,
        ⟨(none, .load1 10 (.t 3)), [], []⟩,
        ⟨(none, .call (some 9) F.impl_top_apart [(.t 6), (.t 7), (.t 8)]), [], [3]⟩,
        ⟨(none, .bin 11 .gtr (.t 9) (.t 10)), [], []⟩,
        ⟨(none, .mv 5 (.t 11)), [], []⟩])
     (.ret))⟩
end Go.Ab.C

/- That the program has this code. -/
namespace Go.Ab.K
open Go Go.Ab
theorem impl_top_near : prepF Go.Proofs.Try.prog F.impl_top_near = some C.impl_top_near := by kernel_rfl
theorem impl_top_apart : prepF Go.Proofs.Try.prog F.impl_top_apart = some C.impl_top_apart := by kernel_rfl
theorem impl_top_steps_1 : prepF Go.Proofs.Try.prog F.impl_top_steps_1 = some C.impl_top_steps_1 := by kernel_rfl
end Go.Ab.K

/- The abstract code of some functions (written by a program of mine from the translation, by way of prepF). -/
namespace Go.Ab.C
open Go.Ab
def impl_Heap_top : AFn :=
  ⟨1, 8, [.cellN 2 2],
    .seq (.ops [(none, .box 1 (.t 0)),
       (none, .alloc 2 [.nil, (.I 0)])])
    (.seq (.draw [⟨(none, .loadN 3 4 (.t 1)), [], []⟩,
        ⟨(none, .fieldAddr 5 (.t 1) 1), [], []⟩,
        ⟨(none, .load1 6 (.t 5)), [], []⟩,
        ⟨(none, .call (some 4) F.impl_Heap_heights [(.t 3)]), [], [1, 2]⟩,
        ⟨(none, .build 7 [.nil, (.I 0)] [(0, 1, (.t 4)), (1, 1, (.t 6))]), [], []⟩,
        ⟨(none, .store 2 (.t 2) (.t 7)), [], []⟩])
     (.ret))⟩
def impl_isTop : AFn :=
  ⟨3, 23, [.tmp 6],
    .seq (.ops [(none, .box 3 (.t 0)),
       (none, .mv 6 (.c (.B false)))])
    (.seq (.ops [(none, .loadN 7 4 (.t 3)),
        (none, .call (some 8) F.impl_IsHeap [(.t 7)]),
        (none, .mv 9 (.t 8)),
        (some (9, true), .mv 10 (.t 1)),
        (some (9, true), .bin 11 .geq (.t 10) (.c (.I 0))),
        (none, .pick 12 (.t 9) (.t 11) (.c (.B false))),
        (none, .mv 13 (.t 12)),
        (some (13, true), .mv 14 (.t 2)),
        (some (13, true), .fieldAddr 15 (.t 3) 0),
        (some (13, true), .load1 16 (.t 15)),
        (some (13, true), .fieldAddr 17 (.t 3) 1),
        (some (13, true), .load1 18 (.t 17)),
        (some (13, true), .bin 19 .mul (.t 16) (.t 18)),
        (some (13, true), .bin 20 .sub (.t 19) (.c (.I 1))),
        (some (13, true), .call (some 21) F.impl_allWithin [(.t 14), (.c (.I 0)), (.t 20)]),
        (none, .pick 22 (.t 13) (.t 21) (.c (.B false))),
        (none, .mv 6 (.t 22))])
     (.ret))⟩
end Go.Ab.C

/- That the program has this code. -/
namespace Go.Ab.K
open Go Go.Ab
theorem impl_Heap_top : prepF Go.Proofs.Try.prog F.impl_Heap_top = some C.impl_Heap_top := by kernel_rfl
theorem impl_isTop : prepF Go.Proofs.Try.prog F.impl_isTop = some C.impl_isTop := by kernel_rfl
end Go.Ab.K

/- The abstract code of some functions (written by a program of mine from the translation, by way of prepF). -/
namespace Go.Ab.C
open Go.Ab
def impl_Heap_heights : AFn :=
  ⟨1, 37, [.tmp 2],
    .seq (.ops [(none, .box 1 (.t 0)),
       (none, .mv 2 (.c .nil))])
    (.seq (.ops [(none, .fieldAddr 7 (.t 1) 0),
        (none, .load1 8 (.t 7)),
        (none, .fieldAddr 9 (.t 1) 1),
        (none, .load1 10 (.t 9)),
        (none, .bin 11 .mul (.t 8) (.t 10)),
        (none, .mksl 12 1 8 [(.I 0)] (.t 11) (.t 11)),
        (none, .mv 3 (.t 12))])
     (.seq (.seq (.ops [(none, .fieldAddr 13 (.t 1) 3),
          (none, .load1 14 (.t 13)),
          (none, .len 15 (.t 14)),
          (none, .mv 16 (.c (.I 0)))])
       (.block 0 (.loop (.seq (.ops [(none, .bin 17 .lss (.t 16) (.t 15))])
          (.seq (.cond (.t 17) (.skip)
            (.exit 0))
           (.seq (.block 1 (.seq (.ops [(none, .idxS 18 3 (.t 14) (.t 16)),
                 (none, .loadN 19 3 (.t 18)),
                 (none, .alloc 5 [(.I 0), (.I 0), (.I 0)]),
                 (none, .store 3 (.t 5) (.t 19))])
              (.seq (.draw [⟨(none, .loadN 20 4 (.t 1)), [], []⟩,
                  ⟨(none, .loadN 22 3 (.t 5)), [], []⟩,
                  ⟨(none, .call (some 21) F.impl_Heap_box [(.t 20)]), [], [1]⟩,
                  ⟨(none, .call (some 23) F.impl_box_line [(.t 21), (.t 22), (.c (.I 2))]), [], []⟩,
                  ⟨(none, .mv 6 (.t 23)), [], []⟩])
               (.draw [⟨(none, .mv 24 (.t 3)), [], []⟩,
                  ⟨(none, .mv 25 (.t 6)), [], []⟩,
                  ⟨(none, .mv 26 (.t 3)), [], []⟩,
                  ⟨(none, .mv 27 (.t 6)), [], []⟩,
                  ⟨(none, .idxS 28 1 (.t 26) (.t 27)), [], []⟩,
                  ⟨(none, .load1 29 (.t 28)), [], []⟩,
                  ⟨(none, .idxA 30 3 1 (.t 5) (.c (.I 2))), [], []⟩,
                  ⟨(none, .load1 31 (.t 30)), [], []⟩,
                  ⟨(none, .bin 32 .add (.t 31) (.c (.I 1))), [], []⟩,
                  ⟨(none, .mm 33 true [(.t 29), (.t 32)]), [], []⟩,
                  ⟨(none, .idxS 34 1 (.t 24) (.t 25)), [], []⟩,
                  ⟨(none, .store 1 (.t 34) (.t 33)), [], []⟩]))))
            (.ops [(none, .bin 35 .add (.t 16) (.c (.I 1))),
               (none, .mv 16 (.t 35))])))))))
      (.seq (.ops [(none, .mv 36 (.t 3)),
          (none, .mv 2 (.t 36))])
       (.ret))))⟩
end Go.Ab.C

/- That the program has this code. -/
namespace Go.Ab.K
open Go Go.Ab
theorem impl_Heap_heights : prepF Go.Proofs.Try.prog F.impl_Heap_heights = some C.impl_Heap_heights := by kernel_rfl
end Go.Ab.K

/- The abstract code of some functions (written by a program of mine from the translation, by way of prepF). -/
namespace Go.Ab.C
open Go.Ab
def impl_others : AFn :=
  ⟨1, 9, [.tmp 2, .tmp 3],
    .seq (.ops [(none, .mv 2 (.c (.I 0))),
       (none, .mv 3 (.c (.I 0)))])
    (.seq (.seq (.ops [(none, .mv 4 (.t 0))])
      (.block 0 (.seq (.ops [(none, .bin 6 .eql (.t 4) (.c (.I 0))),
           (none, .mv 5 (.t 6))])
        (.cond (.t 5) (.seq (.ops [(none, .mv 2 (.c (.I 1))),
             (none, .mv 3 (.c (.I 2)))])
          (.ret))
         (.seq (.ops [(none, .bin 8 .eql (.t 4) (.c (.I 1))),
             (none, .mv 7 (.t 8))])
          (.cond (.t 7) (.seq (.ops [(none, .mv 2 (.c (.I 0))),
               (none, .mv 3 (.c (.I 2)))])
            (.ret))
           (.skip)))))))
     (.seq (.ops [(none, .mv 2 (.c (.I 0))),
         (none, .mv 3 (.c (.I 1)))])
      (.ret)))⟩
def impl_box_line : AFn :=
  ⟨3, 25, [.tmp 6],
    .seq (.ops [(none, .box 3 (.t 0)),
       (none, .box 4 (.t 1)),
       (none, .mv 6 (.c (.I 0)))])
    (.seq (.ops [(none, .mv 10 (.t 2)),
        (none, .call (some 11) F.impl_others [(.t 10)]),
        (none, .mv 9 (.t 11)),
        (none, .extract 12 (.t 9) 0),
        (none, .extract 13 (.t 9) 1),
        (none, .mv 7 (.t 12)),
        (none, .mv 8 (.t 13))])
     (.seq (.draw [⟨(none, .mv 14 (.t 7)), [], []⟩,
         ⟨(none, .idxA 15 3 1 (.t 4) (.t 14)), [], []⟩,
         ⟨(none, .load1 16 (.t 15)), [], []⟩,
         ⟨(none, .mv 17 (.t 8)), [], []⟩,
         ⟨(none, .idxA 18 3 1 (.t 3) (.t 17)), [], []⟩,
         ⟨(none, .load1 19 (.t 18)), [], []⟩,
         ⟨(none, .bin 20 .mul (.t 16) (.t 19)), [], []⟩,
         ⟨(none, .mv 21 (.t 8)), [], []⟩,
         ⟨(none, .idxA 22 3 1 (.t 4) (.t 21)), [], []⟩,
         ⟨(none, .load1 23 (.t 22)), [], []⟩,
         ⟨(none, .bin 24 .add (.t 20) (.t 23)), [], []⟩,
         ⟨(none, .mv 6 (.t 24)), [], []⟩])
      (.ret)))⟩
def impl_allWithin : AFn :=
  ⟨3, 21, [.tmp 6],
    .seq (.ops [(none, .mv 6 (.c (.B false)))])
    (.seq (.seq (.ops [(none, .mv 9 (.t 0)),
         (none, .len 10 (.t 9)),
         (none, .mv 11 (.c (.I 0)))])
      (.block 0 (.loop (.seq (.ops [(none, .bin 12 .lss (.t 11) (.t 10))])
         (.seq (.cond (.t 12) (.skip)
           (.exit 0))
          (.seq (.block 1 (.seq (.ops [(none, .idxS 13 1 (.t 9) (.t 11)),
                (none, .load1 14 (.t 13)),
                (none, .mv 8 (.t 14))])
             (.seq (.ops [(none, .mv 15 (.t 8)),
                 (none, .mv 16 (.t 1)),
                 (none, .mv 17 (.t 2)),
                 (none, .call (some 18) F.impl_within [(.t 15), (.t 16), (.t 17)]),
                 (none, .un 19 .not (.t 18))])
              (.cond (.t 19) (.seq (.ops [(none, .mv 6 (.c (.B false)))])
                (.ret))
               (.skip)))))
           (.ops [(none, .bin 20 .add (.t 11) (.c (.I 1))),
              (none, .mv 11 (.t 20))])))))))
     (.seq (.ops [(none, .mv 6 (.c (.B true)))])
      (.ret)))⟩
end Go.Ab.C

/- That the program has this code. -/
namespace Go.Ab.K
open Go Go.Ab
theorem impl_others : prepF Go.Proofs.Try.prog F.impl_others = some C.impl_others := by kernel_rfl
theorem impl_box_line : prepF Go.Proofs.Try.prog F.impl_box_line = some C.impl_box_line := by kernel_rfl
theorem impl_allWithin : prepF Go.Proofs.Try.prog F.impl_allWithin = some C.impl_allWithin := by kernel_rfl
end Go.Ab.K

/- The abstract code of some functions (written by a program of mine from the translation, by way of prepF). -/
namespace Go.Ab.C
open Go.Ab
def cmp_isNaN_int : AFn :=
  ⟨1, 6, [.tmp 2],
    .seq (.ops [(none, .mv 2 (.c (.B false)))])
    (.seq (.ops [(none, .mv 3 (.t 0)),
        (none, .mv 4 (.t 0)),
        (none, .bin 5 .neq (.t 3) (.t 4)),
        (none, .mv 2 (.t 5))])
     (.ret))⟩
def cmp_Compare_int : AFn :=
  ⟨2, 20, [.tmp 4],
    .seq (.ops [(none, .mv 4 (.c (.I 0)))])
    (.seq (.ops [(none, .mv 7 (.t 0)),
        (none, .call (some 8) F.cmp_isNaN_int [(.t 7)]),
        (none, .mv 5 (.t 8))])
     (.seq (.ops [(none, .mv 9 (.t 1)),
         (none, .call (some 10) F.cmp_isNaN_int [(.t 9)]),
         (none, .mv 6 (.t 10))])
      (.seq (.seq (.ops [(none, .mv 11 (.t 5))])
        (.cond (.t 11) (.seq (.seq (.ops [(none, .mv 12 (.t 6))])
           (.cond (.t 12) (.seq (.ops [(none, .mv 4 (.c (.I 0)))])
             (.ret))
            (.skip)))
          (.seq (.ops [(none, .mv 4 (.c (.I (-1))))])
           (.ret)))
         (.skip)))
       (.seq (.seq (.ops [(none, .mv 13 (.t 6))])
         (.cond (.t 13) (.seq (.ops [(none, .mv 4 (.c (.I 1)))])
           (.ret))
          (.skip)))
        (.seq (.seq (.ops [(none, .mv 14 (.t 0)),
             (none, .mv 15 (.t 1)),
             (none, .bin 16 .lss (.t 14) (.t 15))])
          (.cond (.t 16) (.seq (.ops [(none, .mv 4 (.c (.I (-1))))])
            (.ret))
           (.skip)))
         (.seq (.seq (.ops [(none, .mv 17 (.t 0)),
              (none, .mv 18 (.t 1)),
              (none, .bin 19 .gtr (.t 17) (.t 18))])
           (.cond (.t 19) (.seq (.ops [(none, .mv 4 (.c (.I 1)))])
             (.ret))
            (.skip)))
          (.seq (.ops [(none, .mv 4 (.c (.I 0)))])
           (.ret))))))))⟩
def slices_Compare_Sint_int : AFn :=
  ⟨2, 36, [.tmp 4],
    .seq (.ops [(none, .mv 4 (.c (.I 0)))])
    (.seq (.seq (.ops [(none, .mv 9 (.t 0)),
         (none, .len 10 (.t 9)),
         (none, .mv 11 (.c (.I 0)))])
      (.block 0 (.loop (.seq (.ops [(none, .bin 12 .lss (.t 11) (.t 10))])
         (.seq (.cond (.t 12) (.skip)
           (.exit 0))
          (.seq (.block 1 (.seq (.ops [(none, .mv 13 (.t 11)),
                (none, .idxS 14 1 (.t 9) (.t 11)),
                (none, .load1 15 (.t 14)),
                (none, .mv 5 (.t 13)),
                (none, .mv 6 (.t 15))])
             (.seq (.seq (.ops [(none, .mv 16 (.t 5)),
                  (none, .mv 17 (.t 1)),
                  (none, .len 18 (.t 17)),
                  (none, .bin 19 .geq (.t 16) (.t 18))])
               (.cond (.t 19) (.seq (.ops [(none, .mv 4 (.c (.I 1)))])
                 (.ret))
                (.skip)))
              (.seq (.ops [(none, .mv 20 (.t 1)),
                  (none, .mv 21 (.t 5)),
                  (none, .idxS 22 1 (.t 20) (.t 21)),
                  (none, .load1 23 (.t 22)),
                  (none, .mv 7 (.t 23))])
               (.seq (.ops [(none, .mv 24 (.t 6)),
                   (none, .mv 25 (.t 7)),
                   (none, .call (some 26) F.cmp_Compare_int [(.t 24), (.t 25)]),
                   (none, .mv 8 (.t 26))])
                (.seq (.ops [(none, .mv 27 (.t 8)),
                    (none, .bin 28 .neq (.t 27) (.c (.I 0)))])
                 (.cond (.t 28) (.seq (.ops [(none, .mv 29 (.t 8)),
                      (none, .mv 4 (.t 29))])
                   (.ret))
                  (.skip))))))))
           (.ops [(none, .bin 30 .add (.t 11) (.c (.I 1))),
              (none, .mv 11 (.t 30))])))))))
     (.seq (.seq (.ops [(none, .mv 31 (.t 0)),
          (none, .len 32 (.t 31)),
          (none, .mv 33 (.t 1)),
          (none, .len 34 (.t 33)),
          (none, .bin 35 .lss (.t 32) (.t 34))])
       (.cond (.t 35) (.seq (.ops [(none, .mv 4 (.c (.I (-1))))])
         (.ret))
        (.skip)))
      (.seq (.ops [(none, .mv 4 (.c (.I 0)))])
       (.ret))))⟩
def impl_within : AFn :=
  ⟨3, 15, [.tmp 6],
    .seq (.ops [(none, .mv 6 (.c (.B false)))])
    (.seq (.ops [(none, .mv 7 (.t 0)),
        (none, .mv 8 (.t 1)),
        (none, .bin 9 .geq (.t 7) (.t 8)),
        (none, .mv 10 (.t 9)),
        (some (10, true), .mv 11 (.t 0)),
        (some (10, true), .mv 12 (.t 2)),
        (some (10, true), .bin 13 .leq (.t 11) (.t 12)),
        (none, .pick 14 (.t 10) (.t 13) (.c (.B false))),
        (none, .mv 6 (.t 14))])
     (.ret))⟩
def impl_Heap_box : AFn :=
  ⟨1, 10, [.cellN 2 3],
    .seq (.ops [(none, .box 1 (.t 0)),
       (none, .alloc 2 [(.I 0), (.I 0), (.I 0)])])
    (.seq (.ops [(none, .fieldAddr 3 (.t 1) 0),
        (none, .load1 4 (.t 3)),
        (none, .fieldAddr 5 (.t 1) 1),
        (none, .load1 6 (.t 5)),
        (none, .fieldAddr 7 (.t 1) 2),
        (none, .load1 8 (.t 7)),
        (none, .build 9 [(.I 0), (.I 0), (.I 0)] [(0, 1, (.t 4)), (1, 1, (.t 6)), (2, 1, (.t 8))]),
        (none, .store 3 (.t 2) (.t 9))])
     (.ret))⟩
def impl_box_valid : AFn :=
  ⟨1, 16, [.tmp 2],
    .seq (.ops [(none, .box 1 (.t 0)),
       (none, .mv 2 (.c (.B false)))])
    (.seq (.ops [(none, .idxA 3 3 1 (.t 1) (.c (.I 0))),
        (none, .load1 4 (.t 3)),
        (none, .call (some 5) F.impl_within [(.t 4), (.c (.I 1)), (.c (.I 4))]),
        (none, .mv 6 (.t 5)),
        (some (6, true), .idxA 7 3 1 (.t 1) (.c (.I 1))),
        (some (6, true), .load1 8 (.t 7)),
        (some (6, true), .call (some 9) F.impl_within [(.t 8), (.c (.I 1)), (.c (.I 4))]),
        (none, .pick 10 (.t 6) (.t 9) (.c (.B false))),
        (none, .mv 11 (.t 10)),
        (some (11, true), .idxA 12 3 1 (.t 1) (.c (.I 2))),
        (some (11, true), .load1 13 (.t 12)),
        (some (11, true), .call (some 14) F.impl_within [(.t 13), (.c (.I 1)), (.c (.I 4))]),
        (none, .pick 15 (.t 11) (.t 14) (.c (.B false))),
        (none, .mv 2 (.t 15))])
     (.ret))⟩
def impl_box_has : AFn :=
  ⟨2, 27, [.tmp 4],
    .seq (.ops [(none, .box 2 (.t 0)),
       (none, .box 3 (.t 1)),
       (none, .mv 4 (.c (.B false)))])
    (.seq (.ops [(none, .idxA 5 3 1 (.t 3) (.c (.I 0))),
        (none, .load1 6 (.t 5)),
        (none, .idxA 7 3 1 (.t 2) (.c (.I 0))),
        (none, .load1 8 (.t 7)),
        (none, .bin 9 .sub (.t 8) (.c (.I 1))),
        (none, .call (some 10) F.impl_within [(.t 6), (.c (.I 0)), (.t 9)]),
        (none, .mv 11 (.t 10)),
        (some (11, true), .idxA 12 3 1 (.t 3) (.c (.I 1))),
        (some (11, true), .load1 13 (.t 12)),
        (some (11, true), .idxA 14 3 1 (.t 2) (.c (.I 1))),
        (some (11, true), .load1 15 (.t 14)),
        (some (11, true), .bin 16 .sub (.t 15) (.c (.I 1))),
        (some (11, true), .call (some 17) F.impl_within [(.t 13), (.c (.I 0)), (.t 16)]),
        (none, .pick 18 (.t 11) (.t 17) (.c (.B false))),
        (none, .mv 19 (.t 18)),
        (some (19, true), .idxA 20 3 1 (.t 3) (.c (.I 2))),
        (some (19, true), .load1 21 (.t 20)),
        (some (19, true), .idxA 22 3 1 (.t 2) (.c (.I 2))),
        (some (19, true), .load1 23 (.t 22)),
        (some (19, true), .bin 24 .sub (.t 23) (.c (.I 1))),
        (some (19, true), .call (some 25) F.impl_within [(.t 21), (.c (.I 0)), (.t 24)]),
        (none, .pick 26 (.t 19) (.t 25) (.c (.B false))),
        (none, .mv 4 (.t 26))])
     (.ret))⟩
def impl_compareCells : AFn :=
  ⟨2, 8, [.tmp 4],
    .seq (.ops [(none, .box 2 (.t 0)),
       (none, .box 3 (.t 1)),
       (none, .mv 4 (.c (.I 0)))])
    (.seq (.draw [⟨(none, .slA 5 3 1 (.t 2) none none), [], []⟩,
        ⟨(none, .slA 6 3 1 (.t 3) none none), [], []⟩,
        ⟨(none, .call (some 7) F.slices_Compare_Sint_int [(.t 5), (.t 6)]), [], []⟩,
        ⟨(none, .mv 4 (.t 7)), [], []⟩])
     (.ret))⟩
def impl_IsHeap : AFn :=
  ⟨1, 38, [.tmp 2],
    .seq (.ops [(none, .box 1 (.t 0)),
       (none, .mv 2 (.c (.B false)))])
    (.seq (.seq (.ops [(none, .loadN 5 4 (.t 1)),
         (none, .call (some 6) F.impl_Heap_box [(.t 5)]),
         (none, .call (some 7) F.impl_box_valid [(.t 6)]),
         (none, .un 8 .not (.t 7))])
      (.cond (.t 8) (.seq (.ops [(none, .mv 2 (.c (.B false)))])
        (.ret))
       (.skip)))
     (.seq (.seq (.ops [(none, .fieldAddr 9 (.t 1) 3),
          (none, .load1 10 (.t 9)),
          (none, .len 11 (.t 10)),
          (none, .mv 12 (.c (.I 0)))])
       (.block 0 (.loop (.seq (.ops [(none, .bin 13 .lss (.t 12) (.t 11))])
          (.seq (.cond (.t 13) (.skip)
            (.exit 0))
           (.seq (.block 1 (.seq (.ops [(none, .mv 14 (.t 12)),
                 (none, .idxS 15 3 (.t 10) (.t 12)),
                 (none, .loadN 16 3 (.t 15)),
                 (none, .alloc 4 [(.I 0), (.I 0), (.I 0)]),
                 (none, .mv 3 (.t 14)),
                 (none, .store 3 (.t 4) (.t 16))])
              (.seq (.draw [⟨(none, .loadN 17 4 (.t 1)), [], []⟩,
                  ⟨(none, .loadN 19 3 (.t 4)), [], []⟩,
                  ⟨(none, .call (some 18) F.impl_Heap_box [(.t 17)]), [], [1]⟩,
                  ⟨(none, .call (some 20) F.impl_box_has [(.t 18), (.t 19)]), [], []⟩,
                  ⟨(none, .un 21 .not (.t 20)), [], []⟩,
                  ⟨(none, .mv 22 (.t 21)), [], []⟩,
                  ⟨(some (22, false), .mv 23 (.t 3)), [], []⟩,
                  ⟨(some (22, false), .bin 24 .gtr (.t 23) (.c (.I 0))), [], []⟩,
                  ⟨(some (22, false), .mv 25 (.t 24)), [], []⟩,
                  ⟨(some (25, true), .fieldAddr 26 (.t 1) 3), [], []⟩,
                  ⟨(some (25, true), .load1 27 (.t 26)), [], []⟩,
                  ⟨(some (25, true), .mv 28 (.t 3)), [], []⟩,
                  ⟨(some (25, true), .bin 29 .sub (.t 28) (.c (.I 1))), [], []⟩,
                  ⟨(some (25, true), .idxS 30 3 (.t 27) (.t 29)), [], []⟩,
                  ⟨(some (25, true), .loadN 31 3 (.t 30)), [], []⟩,
                  ⟨(some (25, true), .loadN 32 3 (.t 4)), [], []⟩,
                  ⟨(some (25, true), .call (some 33) F.impl_compareCells [(.t 31), (.t 32)]), [], []⟩,
                  ⟨(some (25, true), .bin 34 .geq (.t 33) (.c (.I 0))), [], []⟩,
                  ⟨(some (22, false), .pick 35 (.t 25) (.t 34) (.c (.B false))), [], []⟩,
                  ⟨(none, .pick 36 (.t 22) (.c (.B true)) (.t 35)), [], []⟩])
               (.cond (.t 36) (.seq (.ops [(none, .mv 2 (.c (.B false)))])
                 (.ret))
                (.skip)))))
            (.ops [(none, .bin 37 .add (.t 12) (.c (.I 1))),
               (none, .mv 12 (.t 37))])))))))
      (.seq (.ops [(none, .mv 2 (.c (.B true)))])
       (.ret))))⟩
end Go.Ab.C

/- That the program has this code. -/
namespace Go.Ab.K
open Go Go.Ab
theorem cmp_isNaN_int : prepF Go.Proofs.Try.prog F.cmp_isNaN_int = some C.cmp_isNaN_int := by kernel_rfl
theorem cmp_Compare_int : prepF Go.Proofs.Try.prog F.cmp_Compare_int = some C.cmp_Compare_int := by kernel_rfl
theorem slices_Compare_Sint_int : prepF Go.Proofs.Try.prog F.slices_Compare_Sint_int = some C.slices_Compare_Sint_int := by kernel_rfl
theorem impl_within : prepF Go.Proofs.Try.prog F.impl_within = some C.impl_within := by kernel_rfl
theorem impl_Heap_box : prepF Go.Proofs.Try.prog F.impl_Heap_box = some C.impl_Heap_box := by kernel_rfl
theorem impl_box_valid : prepF Go.Proofs.Try.prog F.impl_box_valid = some C.impl_box_valid := by kernel_rfl
theorem impl_box_has : prepF Go.Proofs.Try.prog F.impl_box_has = some C.impl_box_has := by kernel_rfl
theorem impl_compareCells : prepF Go.Proofs.Try.prog F.impl_compareCells = some C.impl_compareCells := by kernel_rfl
theorem impl_IsHeap : prepF Go.Proofs.Try.prog F.impl_IsHeap = some C.impl_IsHeap := by kernel_rfl
end Go.Ab.K

/- Plain words for heaps: sides, cells, order, heights of columns. -/
namespace Go.Ab

def Sides (x y z : Int) : Prop := (1 ≤ x ∧ x ≤ 4) ∧ (1 ≤ y ∧ y ≤ 4) ∧ (1 ≤ z ∧ z ≤ 4)
instance (x y z : Int) : Decidable (Sides x y z) := by unfold Sides; infer_instance
def Cell.lt (p q : Cell) : Prop := p.a < q.a ∨ (p.a = q.a ∧ (p.b < q.b ∨ (p.b = q.b ∧ p.c < q.c)))
instance (p q : Cell) : Decidable (p.lt q) := by unfold Cell.lt; infer_instance
def Cell.inBox (x y z : Int) (c : Cell) : Prop := (0 ≤ c.a ∧ c.a ≤ x - 1) ∧ (0 ≤ c.b ∧ c.b ≤ y - 1) ∧ (0 ≤ c.c ∧ c.c ≤ z - 1)
instance (x y z : Int) (c : Cell) : Decidable (c.inBox x y z) := by unfold Cell.inBox; infer_instance
/-- A valid heap. -/
def HeapOK (x y z : Int) (cs : List Cell) : Prop :=
  Sides x y z ∧ ∀ k, k < cs.length → (cs.getD k default).inBox x y z ∧ (0 < k → (cs.getD (k - 1) default).lt (cs.getD k default))
noncomputable instance (x y z : Int) (cs : List Cell) : Decidable (HeapOK x y z cs) := Classical.propDecidable _

/-- The heights of columns. -/
def topStep (y : Int) (out : List Int) (c : Cell) : List Int := out.set (c.a * y + c.b).toNat (max (out.getD (c.a * y + c.b).toNat 0) (c.c + 1))
def topsOf (x y : Int) (cs : List Cell) : List Int := cs.foldl (topStep y) (List.replicate (x * y).toNat 0)

def apart (p q : Cell) : Int := max (p.a - q.a) (q.a - p.a) + max (p.b - q.b) (q.b - p.b) + max (p.c - q.c) (q.c - p.c)
def colOf (y p : Int) : Cell := ⟨p.tdiv y, p.tmod y, 0⟩
def nums (n : Nat) : List Int := (List.range n).map Int.ofNat
def nexts (x y p : Int) : List Int := (nums (x * y).toNat).filter fun q => decide (apart (colOf y p) (colOf y q) = 1)
def gap (a b : Int) : Int := max (a - b) (b - a)
def stepsOf (x y : Int) (ts : List Int) (p s : Int) : List Int := (nexts x y p).filter fun q => decide (gap (ts.getD q.toNat 0) (ts.getD p.toNat 0) ≤ s)

theorem nums_len (n : Nat) : (nums n).length = n := by simp [nums]
theorem nums_succ (n : Nat) : nums (n + 1) = nums n ++ [(n : Int)] := by simp [nums, List.range_succ]
theorem topsOf_len (x y : Int) (cs : List Cell) : (topsOf x y cs).length = (x * y).toNat := by
  unfold topsOf
  have : ∀ (cs : List Cell) (out : List Int), (cs.foldl (topStep y) out).length = out.length := by
    intro cs
    induction cs with
    | nil => intro out; rfl
    | cons c cs ih => intro out; rw [List.foldl_cons, ih]; simp [topStep]
  rw [this]; simp
theorem take_succ_foldl {α β : Type} (f : β → α → β) (b : β) (l : List α) (k : Nat) (d : α) (h : k < l.length) : (l.take (k + 1)).foldl f b = f ((l.take k).foldl f b) (l.getD k d) := by
  have e : l[k]? = some l[k] := getElem?_pos l k h
  rw [List.take_add_one, List.foldl_append, e, List.getD_eq_getElem?_getD, e]
  rfl
theorem mul_bound {x y : Int} (hx : 1 ≤ x ∧ x ≤ 4) (hy : 1 ≤ y ∧ y ≤ 4) : 1 ≤ x * y ∧ x * y ≤ 16 := by
  have h1 : x = 1 ∨ x = 2 ∨ x = 3 ∨ x = 4 := by omega
  have h2 : y = 1 ∨ y = 2 ∨ y = 3 ∨ y = 4 := by omega
  rcases h1 with rfl | rfl | rfl | rfl <;> omega
theorem col_bound {x y a b : Int} (hx : 1 ≤ x ∧ x ≤ 4) (hy : 1 ≤ y ∧ y ≤ 4) (ha : 0 ≤ a ∧ a ≤ x - 1) (hb : 0 ≤ b ∧ b ≤ y - 1) : 0 ≤ a * y + b ∧ a * y + b < x * y ∧ 0 ≤ a * y ∧ a * y ≤ 16 := by
  have h2 : y = 1 ∨ y = 2 ∨ y = 3 ∨ y = 4 := by omega
  rcases h2 with rfl | rfl | rfl | rfl <;> omega
theorem div_bound {y p : Int} (hy : 1 ≤ y ∧ y ≤ 4) (hp : 0 ≤ p ∧ p < 16) : 0 ≤ p.tdiv y ∧ p.tdiv y ≤ p ∧ 0 ≤ p.tmod y ∧ p.tmod y < y := by
  have h2 : y = 1 ∨ y = 2 ∨ y = 3 ∨ y = 4 := by omega
  rw [Int.tdiv_eq_ediv_of_nonneg hp.1, Int.tmod_eq_emod_of_nonneg hp.1]
  rcases h2 with rfl | rfl | rfl | rfl <;> omega
end Go.Ab

/- The program of this seat. -/
namespace Go.Ab
noncomputable abbrev PG : Program := Go.Proofs.Try.prog
end Go.Ab

/- Contracts: the program's boxes, cells, valid heaps. -/
namespace Go.Ab
open Go
set_option linter.unusedSimpArgs false
set_option linter.unusedVariables false

theorem g_within {n lo hi : Int} {M : Mem} : CallsTo PG F.impl_within [.I n, .I lo, .I hi] M (.B (decide (lo ≤ n ∧ n ≤ hi))) M := by
  refine calls_run K.impl_within rfl ?_
  simp (disch := omega) only [C.impl_within, ↓SXd, SXu, slBounds, ↓sop, ↓aop, ↓reduceIte, LV.cells, AOp.dst, LV.I, LV.B, LV.U, LV.S, LV.nil, Nat.reduceEqDiff, Nat.reduceAdd, Nat.reduceMul, Nat.reduceSub, Nat.reduceLeDiff, Nat.reduceBEq, Nat.reduceDiv, Nat.reduceMod, Int.reduceToNat, Int.reduceLT, Int.reduceLE, Int.reduceAdd, Int.reduceSub, Int.reduceMul, Int.reduceEq, Int.reduceNeg, reduceCtorEq, resV, resAll, ARes.ev, LV.flat, ite_true, ite_false, exists_eq_left', exists_eq_left, keyOf, implies_true, fillC, capOf]
  by_cases h1 : lo ≤ n
  · simp (disch := omega) only [h1, ↓SXd, SXu, slBounds, ↓sop, ↓aop, ↓reduceIte, LV.cells, AOp.dst, LV.I, LV.B, LV.U, LV.S, LV.nil, Nat.reduceEqDiff, Nat.reduceAdd, Nat.reduceMul, Nat.reduceSub, Nat.reduceLeDiff, Nat.reduceBEq, Nat.reduceDiv, Nat.reduceMod, Int.reduceToNat, Int.reduceLT, Int.reduceLE, Int.reduceAdd, Int.reduceSub, Int.reduceMul, Int.reduceEq, Int.reduceNeg, reduceCtorEq, resV, resAll, ARes.ev, LV.flat, ite_true, ite_false, exists_eq_left', exists_eq_left, keyOf, implies_true, fillC, capOf]
    exact cmp_drop0 rfl
  · simp (disch := omega) only [h1, ↓SXd, SXu, slBounds, ↓sop, ↓aop, ↓reduceIte, LV.cells, AOp.dst, LV.I, LV.B, LV.U, LV.S, LV.nil, Nat.reduceEqDiff, Nat.reduceAdd, Nat.reduceMul, Nat.reduceSub, Nat.reduceLeDiff, Nat.reduceBEq, Nat.reduceDiv, Nat.reduceMod, Int.reduceToNat, Int.reduceLT, Int.reduceLE, Int.reduceAdd, Int.reduceSub, Int.reduceMul, Int.reduceEq, Int.reduceNeg, reduceCtorEq, resV, resAll, ARes.ev, LV.flat, ite_true, ite_false, exists_eq_left', exists_eq_left, keyOf, implies_true, fillC, capOf]
    exact cmp_drop0 rfl

theorem g_box {x y z : Int} {v : LV} {M : Mem} : CallsTo PG F.impl_Heap_box [.agg [.I x, .I y, .I z, v]] M (.agg [.I x, .I y, .I z]) M := by
  refine calls_run K.impl_Heap_box rfl ?_
  simp (disch := omega) only [C.impl_Heap_box, ↓SXd, SXu, slBounds, ↓sop, ↓aop, ↓reduceIte, LV.cells, AOp.dst, LV.I, LV.B, LV.U, LV.S, LV.nil, Nat.reduceEqDiff, Nat.reduceAdd, Nat.reduceMul, Nat.reduceSub, Nat.reduceLeDiff, Nat.reduceBEq, Nat.reduceDiv, Nat.reduceMod, Int.reduceToNat, Int.reduceLT, Int.reduceLE, Int.reduceAdd, Int.reduceSub, Int.reduceMul, Int.reduceEq, Int.reduceNeg, reduceCtorEq, resV, resAll, ARes.ev, LV.flat, ite_true, ite_false, exists_eq_left', exists_eq_left, keyOf, implies_true, fillC, capOf]
  exact cmp_drop rfl

theorem g_valid {x y z : Int} {M : Mem} : CallsTo PG F.impl_box_valid [.agg [.I x, .I y, .I z]] M (.B (decide (Sides x y z))) M := by
  refine calls_run K.impl_box_valid rfl ?_
  simp (disch := omega) only [C.impl_box_valid, ↓SXd, SXu, slBounds, ↓sop, ↓aop, ↓reduceIte, LV.cells, AOp.dst, LV.I, LV.B, LV.U, LV.S, LV.nil, Nat.reduceEqDiff, Nat.reduceAdd, Nat.reduceMul, Nat.reduceSub, Nat.reduceLeDiff, Nat.reduceBEq, Nat.reduceDiv, Nat.reduceMod, Int.reduceToNat, Int.reduceLT, Int.reduceLE, Int.reduceAdd, Int.reduceSub, Int.reduceMul, Int.reduceEq, Int.reduceNeg, reduceCtorEq, resV, resAll, ARes.ev, LV.flat, ite_true, ite_false, exists_eq_left', exists_eq_left, keyOf, implies_true, fillC, capOf]
  refine callK_of g_within ?_
  simp (disch := omega) only [↓SXd, SXu, slBounds, ↓sop, ↓aop, ↓reduceIte, LV.cells, AOp.dst, LV.I, LV.B, LV.U, LV.S, LV.nil, Nat.reduceEqDiff, Nat.reduceAdd, Nat.reduceMul, Nat.reduceSub, Nat.reduceLeDiff, Nat.reduceBEq, Nat.reduceDiv, Nat.reduceMod, Int.reduceToNat, Int.reduceLT, Int.reduceLE, Int.reduceAdd, Int.reduceSub, Int.reduceMul, Int.reduceEq, Int.reduceNeg, reduceCtorEq, resV, resAll, ARes.ev, LV.flat, ite_true, ite_false, exists_eq_left', exists_eq_left, keyOf, implies_true, fillC, capOf]
  unfold Sides
  by_cases h1 : 1 ≤ x ∧ x ≤ 4
  · simp (disch := omega) only [h1, ↓SXd, SXu, slBounds, ↓sop, ↓aop, ↓reduceIte, LV.cells, AOp.dst, LV.I, LV.B, LV.U, LV.S, LV.nil, Nat.reduceEqDiff, Nat.reduceAdd, Nat.reduceMul, Nat.reduceSub, Nat.reduceLeDiff, Nat.reduceBEq, Nat.reduceDiv, Nat.reduceMod, Int.reduceToNat, Int.reduceLT, Int.reduceLE, Int.reduceAdd, Int.reduceSub, Int.reduceMul, Int.reduceEq, Int.reduceNeg, reduceCtorEq, resV, resAll, ARes.ev, LV.flat, ite_true, ite_false, exists_eq_left', exists_eq_left, keyOf, implies_true, fillC, capOf]
    refine callK_of g_within ?_
    simp (disch := omega) only [↓SXd, SXu, slBounds, ↓sop, ↓aop, ↓reduceIte, LV.cells, AOp.dst, LV.I, LV.B, LV.U, LV.S, LV.nil, Nat.reduceEqDiff, Nat.reduceAdd, Nat.reduceMul, Nat.reduceSub, Nat.reduceLeDiff, Nat.reduceBEq, Nat.reduceDiv, Nat.reduceMod, Int.reduceToNat, Int.reduceLT, Int.reduceLE, Int.reduceAdd, Int.reduceSub, Int.reduceMul, Int.reduceEq, Int.reduceNeg, reduceCtorEq, resV, resAll, ARes.ev, LV.flat, ite_true, ite_false, exists_eq_left', exists_eq_left, keyOf, implies_true, fillC, capOf]
    by_cases h2 : 1 ≤ y ∧ y ≤ 4
    · simp (disch := omega) only [h2, ↓SXd, SXu, slBounds, ↓sop, ↓aop, ↓reduceIte, LV.cells, AOp.dst, LV.I, LV.B, LV.U, LV.S, LV.nil, Nat.reduceEqDiff, Nat.reduceAdd, Nat.reduceMul, Nat.reduceSub, Nat.reduceLeDiff, Nat.reduceBEq, Nat.reduceDiv, Nat.reduceMod, Int.reduceToNat, Int.reduceLT, Int.reduceLE, Int.reduceAdd, Int.reduceSub, Int.reduceMul, Int.reduceEq, Int.reduceNeg, reduceCtorEq, resV, resAll, ARes.ev, LV.flat, ite_true, ite_false, exists_eq_left', exists_eq_left, keyOf, implies_true, fillC, capOf]
      refine callK_of g_within ?_
      simp (disch := omega) only [↓SXd, SXu, slBounds, ↓sop, ↓aop, ↓reduceIte, LV.cells, AOp.dst, LV.I, LV.B, LV.U, LV.S, LV.nil, Nat.reduceEqDiff, Nat.reduceAdd, Nat.reduceMul, Nat.reduceSub, Nat.reduceLeDiff, Nat.reduceBEq, Nat.reduceDiv, Nat.reduceMod, Int.reduceToNat, Int.reduceLT, Int.reduceLE, Int.reduceAdd, Int.reduceSub, Int.reduceMul, Int.reduceEq, Int.reduceNeg, reduceCtorEq, resV, resAll, ARes.ev, LV.flat, ite_true, ite_false, exists_eq_left', exists_eq_left, keyOf, implies_true, fillC, capOf]
      exact cmp_drop rfl
    · simp (disch := omega) only [h2, false_and, ↓SXd, SXu, slBounds, ↓sop, ↓aop, ↓reduceIte, LV.cells, AOp.dst, LV.I, LV.B, LV.U, LV.S, LV.nil, Nat.reduceEqDiff, Nat.reduceAdd, Nat.reduceMul, Nat.reduceSub, Nat.reduceLeDiff, Nat.reduceBEq, Nat.reduceDiv, Nat.reduceMod, Int.reduceToNat, Int.reduceLT, Int.reduceLE, Int.reduceAdd, Int.reduceSub, Int.reduceMul, Int.reduceEq, Int.reduceNeg, reduceCtorEq, resV, resAll, ARes.ev, LV.flat, ite_true, ite_false, exists_eq_left', exists_eq_left, keyOf, implies_true, fillC, capOf]
      exact cmp_drop rfl
  · simp (disch := omega) only [h1, false_and, ↓SXd, SXu, slBounds, ↓sop, ↓aop, ↓reduceIte, LV.cells, AOp.dst, LV.I, LV.B, LV.U, LV.S, LV.nil, Nat.reduceEqDiff, Nat.reduceAdd, Nat.reduceMul, Nat.reduceSub, Nat.reduceLeDiff, Nat.reduceBEq, Nat.reduceDiv, Nat.reduceMod, Int.reduceToNat, Int.reduceLT, Int.reduceLE, Int.reduceAdd, Int.reduceSub, Int.reduceMul, Int.reduceEq, Int.reduceNeg, reduceCtorEq, resV, resAll, ARes.ev, LV.flat, ite_true, ite_false, exists_eq_left', exists_eq_left, keyOf, implies_true, fillC, capOf]
    exact cmp_drop rfl

theorem g_has {x y z a b c : Int} {M : Mem} (hS : Sides x y z) : CallsTo PG F.impl_box_has [.agg [.I x, .I y, .I z], .agg [.I a, .I b, .I c]] M (.B (decide (Cell.inBox x y z ⟨a, b, c⟩))) M := by
  obtain ⟨hx, hy, hz⟩ := hS
  refine calls_run K.impl_box_has rfl ?_
  simp (disch := omega) only [C.impl_box_has, ↓SXd, SXu, slBounds, ↓sop, ↓aop, ↓reduceIte, LV.cells, AOp.dst, LV.I, LV.B, LV.U, LV.S, LV.nil, Nat.reduceEqDiff, Nat.reduceAdd, Nat.reduceMul, Nat.reduceSub, Nat.reduceLeDiff, Nat.reduceBEq, Nat.reduceDiv, Nat.reduceMod, Int.reduceToNat, Int.reduceLT, Int.reduceLE, Int.reduceAdd, Int.reduceSub, Int.reduceMul, Int.reduceEq, Int.reduceNeg, reduceCtorEq, resV, resAll, ARes.ev, LV.flat, ite_true, ite_false, exists_eq_left', exists_eq_left, keyOf, implies_true, fillC, capOf]
  refine callK_of g_within ?_
  simp (disch := omega) only [↓SXd, SXu, slBounds, ↓sop, ↓aop, ↓reduceIte, LV.cells, AOp.dst, LV.I, LV.B, LV.U, LV.S, LV.nil, Nat.reduceEqDiff, Nat.reduceAdd, Nat.reduceMul, Nat.reduceSub, Nat.reduceLeDiff, Nat.reduceBEq, Nat.reduceDiv, Nat.reduceMod, Int.reduceToNat, Int.reduceLT, Int.reduceLE, Int.reduceAdd, Int.reduceSub, Int.reduceMul, Int.reduceEq, Int.reduceNeg, reduceCtorEq, resV, resAll, ARes.ev, LV.flat, ite_true, ite_false, exists_eq_left', exists_eq_left, keyOf, implies_true, fillC, capOf]
  unfold Cell.inBox
  by_cases h1 : 0 ≤ a ∧ a ≤ x - 1
  · simp (disch := omega) only [h1, ↓SXd, SXu, slBounds, ↓sop, ↓aop, ↓reduceIte, LV.cells, AOp.dst, LV.I, LV.B, LV.U, LV.S, LV.nil, Nat.reduceEqDiff, Nat.reduceAdd, Nat.reduceMul, Nat.reduceSub, Nat.reduceLeDiff, Nat.reduceBEq, Nat.reduceDiv, Nat.reduceMod, Int.reduceToNat, Int.reduceLT, Int.reduceLE, Int.reduceAdd, Int.reduceSub, Int.reduceMul, Int.reduceEq, Int.reduceNeg, reduceCtorEq, resV, resAll, ARes.ev, LV.flat, ite_true, ite_false, exists_eq_left', exists_eq_left, keyOf, implies_true, fillC, capOf]
    refine callK_of g_within ?_
    simp (disch := omega) only [↓SXd, SXu, slBounds, ↓sop, ↓aop, ↓reduceIte, LV.cells, AOp.dst, LV.I, LV.B, LV.U, LV.S, LV.nil, Nat.reduceEqDiff, Nat.reduceAdd, Nat.reduceMul, Nat.reduceSub, Nat.reduceLeDiff, Nat.reduceBEq, Nat.reduceDiv, Nat.reduceMod, Int.reduceToNat, Int.reduceLT, Int.reduceLE, Int.reduceAdd, Int.reduceSub, Int.reduceMul, Int.reduceEq, Int.reduceNeg, reduceCtorEq, resV, resAll, ARes.ev, LV.flat, ite_true, ite_false, exists_eq_left', exists_eq_left, keyOf, implies_true, fillC, capOf]
    by_cases h2 : 0 ≤ b ∧ b ≤ y - 1
    · simp (disch := omega) only [h2, ↓SXd, SXu, slBounds, ↓sop, ↓aop, ↓reduceIte, LV.cells, AOp.dst, LV.I, LV.B, LV.U, LV.S, LV.nil, Nat.reduceEqDiff, Nat.reduceAdd, Nat.reduceMul, Nat.reduceSub, Nat.reduceLeDiff, Nat.reduceBEq, Nat.reduceDiv, Nat.reduceMod, Int.reduceToNat, Int.reduceLT, Int.reduceLE, Int.reduceAdd, Int.reduceSub, Int.reduceMul, Int.reduceEq, Int.reduceNeg, reduceCtorEq, resV, resAll, ARes.ev, LV.flat, ite_true, ite_false, exists_eq_left', exists_eq_left, keyOf, implies_true, fillC, capOf]
      refine callK_of g_within ?_
      simp (disch := omega) only [↓SXd, SXu, slBounds, ↓sop, ↓aop, ↓reduceIte, LV.cells, AOp.dst, LV.I, LV.B, LV.U, LV.S, LV.nil, Nat.reduceEqDiff, Nat.reduceAdd, Nat.reduceMul, Nat.reduceSub, Nat.reduceLeDiff, Nat.reduceBEq, Nat.reduceDiv, Nat.reduceMod, Int.reduceToNat, Int.reduceLT, Int.reduceLE, Int.reduceAdd, Int.reduceSub, Int.reduceMul, Int.reduceEq, Int.reduceNeg, reduceCtorEq, resV, resAll, ARes.ev, LV.flat, ite_true, ite_false, exists_eq_left', exists_eq_left, keyOf, implies_true, fillC, capOf]
      exact cmp_drop rfl
    · simp (disch := omega) only [h2, false_and, ↓SXd, SXu, slBounds, ↓sop, ↓aop, ↓reduceIte, LV.cells, AOp.dst, LV.I, LV.B, LV.U, LV.S, LV.nil, Nat.reduceEqDiff, Nat.reduceAdd, Nat.reduceMul, Nat.reduceSub, Nat.reduceLeDiff, Nat.reduceBEq, Nat.reduceDiv, Nat.reduceMod, Int.reduceToNat, Int.reduceLT, Int.reduceLE, Int.reduceAdd, Int.reduceSub, Int.reduceMul, Int.reduceEq, Int.reduceNeg, reduceCtorEq, resV, resAll, ARes.ev, LV.flat, ite_true, ite_false, exists_eq_left', exists_eq_left, keyOf, implies_true, fillC, capOf]
      exact cmp_drop rfl
  · simp (disch := omega) only [h1, false_and, ↓SXd, SXu, slBounds, ↓sop, ↓aop, ↓reduceIte, LV.cells, AOp.dst, LV.I, LV.B, LV.U, LV.S, LV.nil, Nat.reduceEqDiff, Nat.reduceAdd, Nat.reduceMul, Nat.reduceSub, Nat.reduceLeDiff, Nat.reduceBEq, Nat.reduceDiv, Nat.reduceMod, Int.reduceToNat, Int.reduceLT, Int.reduceLE, Int.reduceAdd, Int.reduceSub, Int.reduceMul, Int.reduceEq, Int.reduceNeg, reduceCtorEq, resV, resAll, ARes.ev, LV.flat, ite_true, ite_false, exists_eq_left', exists_eq_left, keyOf, implies_true, fillC, capOf]
    exact cmp_drop rfl

theorem g_isNaN {n : Int} {M : Mem} : CallsTo PG F.cmp_isNaN_int [.I n] M (.B false) M := by
  refine calls_run K.cmp_isNaN_int rfl ?_
  simp (disch := omega) only [C.cmp_isNaN_int, ↓SXd, SXu, slBounds, ↓sop, ↓aop, ↓reduceIte, LV.cells, AOp.dst, LV.I, LV.B, LV.U, LV.S, LV.nil, Nat.reduceEqDiff, Nat.reduceAdd, Nat.reduceMul, Nat.reduceSub, Nat.reduceLeDiff, Nat.reduceBEq, Nat.reduceDiv, Nat.reduceMod, Int.reduceToNat, Int.reduceLT, Int.reduceLE, Int.reduceAdd, Int.reduceSub, Int.reduceMul, Int.reduceEq, Int.reduceNeg, reduceCtorEq, resV, resAll, ARes.ev, LV.flat, ite_true, ite_false, exists_eq_left', exists_eq_left, keyOf, implies_true, fillC, capOf]
  exact cmp_drop0 rfl

def cmpI (a b : Int) : Int := if a < b then -1 else if b < a then 1 else 0
theorem g_cmp {a b : Int} {M : Mem} : CallsTo PG F.cmp_Compare_int [.I a, .I b] M (.I (cmpI a b)) M := by
  refine calls_run K.cmp_Compare_int rfl ?_
  simp (disch := omega) only [C.cmp_Compare_int, ↓SXd, SXu, slBounds, ↓sop, ↓aop, ↓reduceIte, LV.cells, AOp.dst, LV.I, LV.B, LV.U, LV.S, LV.nil, Nat.reduceEqDiff, Nat.reduceAdd, Nat.reduceMul, Nat.reduceSub, Nat.reduceLeDiff, Nat.reduceBEq, Nat.reduceDiv, Nat.reduceMod, Int.reduceToNat, Int.reduceLT, Int.reduceLE, Int.reduceAdd, Int.reduceSub, Int.reduceMul, Int.reduceEq, Int.reduceNeg, reduceCtorEq, resV, resAll, ARes.ev, LV.flat, ite_true, ite_false, exists_eq_left', exists_eq_left, keyOf, implies_true, fillC, capOf]
  refine callK_of g_isNaN ?_
  simp (disch := omega) only [↓SXd, SXu, slBounds, ↓sop, ↓aop, ↓reduceIte, LV.cells, AOp.dst, LV.I, LV.B, LV.U, LV.S, LV.nil, Nat.reduceEqDiff, Nat.reduceAdd, Nat.reduceMul, Nat.reduceSub, Nat.reduceLeDiff, Nat.reduceBEq, Nat.reduceDiv, Nat.reduceMod, Int.reduceToNat, Int.reduceLT, Int.reduceLE, Int.reduceAdd, Int.reduceSub, Int.reduceMul, Int.reduceEq, Int.reduceNeg, reduceCtorEq, resV, resAll, ARes.ev, LV.flat, ite_true, ite_false, exists_eq_left', exists_eq_left, keyOf, implies_true, fillC, capOf]
  refine callK_of g_isNaN ?_
  simp (disch := omega) only [↓SXd, SXu, slBounds, ↓sop, ↓aop, ↓reduceIte, LV.cells, AOp.dst, LV.I, LV.B, LV.U, LV.S, LV.nil, Nat.reduceEqDiff, Nat.reduceAdd, Nat.reduceMul, Nat.reduceSub, Nat.reduceLeDiff, Nat.reduceBEq, Nat.reduceDiv, Nat.reduceMod, Int.reduceToNat, Int.reduceLT, Int.reduceLE, Int.reduceAdd, Int.reduceSub, Int.reduceMul, Int.reduceEq, Int.reduceNeg, reduceCtorEq, resV, resAll, ARes.ev, LV.flat, ite_true, ite_false, exists_eq_left', exists_eq_left, keyOf, implies_true, fillC, capOf]
  refine condC_dec (fun h1 => ?_) (fun h1 => ?_) <;> simp (disch := omega) only [↓SXd, SXu, slBounds, ↓sop, ↓aop, ↓reduceIte, LV.cells, AOp.dst, LV.I, LV.B, LV.U, LV.S, LV.nil, Nat.reduceEqDiff, Nat.reduceAdd, Nat.reduceMul, Nat.reduceSub, Nat.reduceLeDiff, Nat.reduceBEq, Nat.reduceDiv, Nat.reduceMod, Int.reduceToNat, Int.reduceLT, Int.reduceLE, Int.reduceAdd, Int.reduceSub, Int.reduceMul, Int.reduceEq, Int.reduceNeg, reduceCtorEq, resV, resAll, ARes.ev, LV.flat, ite_true, ite_false, exists_eq_left', exists_eq_left, keyOf, implies_true, fillC, capOf]
  · rw [show cmpI a b = -1 by simp [cmpI, h1]]; exact cmp_drop0 rfl
  · refine condC_dec (fun h2 => ?_) (fun h2 => ?_) <;> simp (disch := omega) only [↓SXd, SXu, slBounds, ↓sop, ↓aop, ↓reduceIte, LV.cells, AOp.dst, LV.I, LV.B, LV.U, LV.S, LV.nil, Nat.reduceEqDiff, Nat.reduceAdd, Nat.reduceMul, Nat.reduceSub, Nat.reduceLeDiff, Nat.reduceBEq, Nat.reduceDiv, Nat.reduceMod, Int.reduceToNat, Int.reduceLT, Int.reduceLE, Int.reduceAdd, Int.reduceSub, Int.reduceMul, Int.reduceEq, Int.reduceNeg, reduceCtorEq, resV, resAll, ARes.ev, LV.flat, ite_true, ite_false, exists_eq_left', exists_eq_left, keyOf, implies_true, fillC, capOf]
    · rw [show cmpI a b = 1 by simp [cmpI, h1, h2]]; exact cmp_drop0 rfl
    · rw [show cmpI a b = 0 by simp [cmpI, h1, h2]]; exact cmp_drop0 rfl

/-- Two lists of numbers, compared. -/
def cmpL : List Int → List Int → Int
  | [], [] => 0
  | [], _ :: _ => -1
  | _ :: _, [] => 1
  | a :: r, b :: r' => if cmpI a b = 0 then cmpL r r' else cmpI a b

theorem g_compare {xs ys : List Int} {t o t' o' : Nat} {M : Mem} (h : Ints M t o xs) (h' : Ints M t' o' ys) (hn : xs.length ≤ 1000000000) (hn' : ys.length ≤ 1000000000) :
    CallsTo PG F.slices_Compare_Sint_int [.ref t o xs.length, .ref t' o' ys.length] M (.I (cmpL xs ys)) M := by
  refine calls_run K.slices_Compare_Sint_int rfl ?_
  simp (disch := omega) only [C.slices_Compare_Sint_int, ↓SXd, SXu, slBounds, ↓sop, ↓aop, ↓reduceIte, LV.cells, AOp.dst, LV.I, LV.B, LV.U, LV.S, LV.nil, Nat.reduceEqDiff, Nat.reduceAdd, Nat.reduceMul, Nat.reduceSub, Nat.reduceLeDiff, Nat.reduceBEq, Nat.reduceDiv, Nat.reduceMod, Int.reduceToNat, Int.reduceLT, Int.reduceLE, Int.reduceAdd, Int.reduceSub, Int.reduceMul, Int.reduceEq, Int.reduceNeg, reduceCtorEq, resV, resAll, ARes.ev, LV.flat, ite_true, ite_false, exists_eq_left', exists_eq_left, keyOf, implies_true, fillC, capOf]
  refine ev_loop (fun m fr M' => ∃ k : Nat, k + m = xs.length ∧ M' = M ∧ k ≤ ys.length ∧ fr 0 = .ref t o xs.length ∧ fr 1 = .ref t' o' ys.length ∧ fr 9 = .ref t o xs.length ∧ fr 10 = .I (xs.length : Nat) ∧ fr 11 = .I k ∧ cmpL xs ys = cmpL (xs.drop k) (ys.drop k)) xs.length
    ⟨0, by omega, rfl, by omega, rfl, rfl, rfl, rfl, rfl, rfl⟩ ?_
  rintro m fr M' ⟨k, hk, rfl, hky, h0, h1, h9, h10, h11, he⟩
  simp (disch := omega) only [h0, h1, h9, h10, h11, ↓SXd, SXu, slBounds, ↓sop, ↓aop, ↓reduceIte, LV.cells, AOp.dst, LV.I, LV.B, LV.U, LV.S, LV.nil, Nat.reduceEqDiff, Nat.reduceAdd, Nat.reduceMul, Nat.reduceSub, Nat.reduceLeDiff, Nat.reduceBEq, Nat.reduceDiv, Nat.reduceMod, Int.reduceToNat, Int.reduceLT, Int.reduceLE, Int.reduceAdd, Int.reduceSub, Int.reduceMul, Int.reduceEq, Int.reduceNeg, reduceCtorEq, resV, resAll, ARes.ev, LV.flat, ite_true, ite_false, exists_eq_left', exists_eq_left, keyOf, implies_true, fillC, capOf]
  refine condC_dec (fun hlt => ?_) (fun hlt => ?_)
  · have hx : xs.drop k = xs.getD k 0 :: xs.drop (k + 1) := by
      rw [List.drop_eq_getElem_cons (show k < xs.length by omega)]; simp [show k < xs.length by omega]
    simp (disch := omega) only [h0, h1, h9, h10, h11, Ints.get h, ↓SXd, SXu, slBounds, ↓sop, ↓aop, ↓reduceIte, LV.cells, AOp.dst, LV.I, LV.B, LV.U, LV.S, LV.nil, Nat.reduceEqDiff, Nat.reduceAdd, Nat.reduceMul, Nat.reduceSub, Nat.reduceLeDiff, Nat.reduceBEq, Nat.reduceDiv, Nat.reduceMod, Int.reduceToNat, Int.reduceLT, Int.reduceLE, Int.reduceAdd, Int.reduceSub, Int.reduceMul, Int.reduceEq, Int.reduceNeg, reduceCtorEq, resV, resAll, ARes.ev, LV.flat, ite_true, ite_false, exists_eq_left', exists_eq_left, keyOf, implies_true, fillC, capOf]
    refine condC_dec (fun h2 => ?_) (fun h2 => ?_)
    · simp (disch := omega) only [h0, h1, h9, h10, h11, ↓SXd, SXu, slBounds, ↓sop, ↓aop, ↓reduceIte, LV.cells, AOp.dst, LV.I, LV.B, LV.U, LV.S, LV.nil, Nat.reduceEqDiff, Nat.reduceAdd, Nat.reduceMul, Nat.reduceSub, Nat.reduceLeDiff, Nat.reduceBEq, Nat.reduceDiv, Nat.reduceMod, Int.reduceToNat, Int.reduceLT, Int.reduceLE, Int.reduceAdd, Int.reduceSub, Int.reduceMul, Int.reduceEq, Int.reduceNeg, reduceCtorEq, resV, resAll, ARes.ev, LV.flat, ite_true, ite_false, exists_eq_left', exists_eq_left, keyOf, implies_true, fillC, capOf]
      have : ys.drop k = [] := List.drop_eq_nil_of_le (by omega)
      rw [he, hx, this]; exact cmp_drop0 rfl
    · have hy : ys.drop k = ys.getD k 0 :: ys.drop (k + 1) := by
        rw [List.drop_eq_getElem_cons (show k < ys.length by omega)]; simp [show k < ys.length by omega]
      simp (disch := omega) only [h0, h1, h9, h10, h11, Ints.get h, Ints.get h', ↓SXd, SXu, slBounds, ↓sop, ↓aop, ↓reduceIte, LV.cells, AOp.dst, LV.I, LV.B, LV.U, LV.S, LV.nil, Nat.reduceEqDiff, Nat.reduceAdd, Nat.reduceMul, Nat.reduceSub, Nat.reduceLeDiff, Nat.reduceBEq, Nat.reduceDiv, Nat.reduceMod, Int.reduceToNat, Int.reduceLT, Int.reduceLE, Int.reduceAdd, Int.reduceSub, Int.reduceMul, Int.reduceEq, Int.reduceNeg, reduceCtorEq, resV, resAll, ARes.ev, LV.flat, ite_true, ite_false, exists_eq_left', exists_eq_left, keyOf, implies_true, fillC, capOf]
      refine callK_of g_cmp ?_
      simp (disch := omega) only [h0, h1, h9, h10, h11, ↓SXd, SXu, slBounds, ↓sop, ↓aop, ↓reduceIte, LV.cells, AOp.dst, LV.I, LV.B, LV.U, LV.S, LV.nil, Nat.reduceEqDiff, Nat.reduceAdd, Nat.reduceMul, Nat.reduceSub, Nat.reduceLeDiff, Nat.reduceBEq, Nat.reduceDiv, Nat.reduceMod, Int.reduceToNat, Int.reduceLT, Int.reduceLE, Int.reduceAdd, Int.reduceSub, Int.reduceMul, Int.reduceEq, Int.reduceNeg, reduceCtorEq, resV, resAll, ARes.ev, LV.flat, ite_true, ite_false, exists_eq_left', exists_eq_left, keyOf, implies_true, fillC, capOf]
      refine condC_dec (fun h3 => ?_) (fun h3 => ?_)
      · simp (disch := omega) only [h0, h1, h9, h10, h11, ↓SXd, SXu, slBounds, ↓sop, ↓aop, ↓reduceIte, LV.cells, AOp.dst, LV.I, LV.B, LV.U, LV.S, LV.nil, Nat.reduceEqDiff, Nat.reduceAdd, Nat.reduceMul, Nat.reduceSub, Nat.reduceLeDiff, Nat.reduceBEq, Nat.reduceDiv, Nat.reduceMod, Int.reduceToNat, Int.reduceLT, Int.reduceLE, Int.reduceAdd, Int.reduceSub, Int.reduceMul, Int.reduceEq, Int.reduceNeg, reduceCtorEq, resV, resAll, ARes.ev, LV.flat, ite_true, ite_false, exists_eq_left', exists_eq_left, keyOf, implies_true, fillC, capOf]
        exact ⟨m - 1, by omega, k + 1, by omega, rfl, by omega, h0, h1, h9, h10, eqI (natI _), by rw [he, hx, hy, cmpL, if_pos h3]⟩
      · simp (disch := omega) only [h0, h1, h9, h10, h11, ↓SXd, SXu, slBounds, ↓sop, ↓aop, ↓reduceIte, LV.cells, AOp.dst, LV.I, LV.B, LV.U, LV.S, LV.nil, Nat.reduceEqDiff, Nat.reduceAdd, Nat.reduceMul, Nat.reduceSub, Nat.reduceLeDiff, Nat.reduceBEq, Nat.reduceDiv, Nat.reduceMod, Int.reduceToNat, Int.reduceLT, Int.reduceLE, Int.reduceAdd, Int.reduceSub, Int.reduceMul, Int.reduceEq, Int.reduceNeg, reduceCtorEq, resV, resAll, ARes.ev, LV.flat, ite_true, ite_false, exists_eq_left', exists_eq_left, keyOf, implies_true, fillC, capOf]
        rw [he, hx, hy, cmpL, if_neg h3]; exact cmp_drop0 rfl
  · simp (disch := omega) only [h0, h1, h9, h10, h11, ↓SXd, SXu, slBounds, ↓sop, ↓aop, ↓reduceIte, LV.cells, AOp.dst, LV.I, LV.B, LV.U, LV.S, LV.nil, Nat.reduceEqDiff, Nat.reduceAdd, Nat.reduceMul, Nat.reduceSub, Nat.reduceLeDiff, Nat.reduceBEq, Nat.reduceDiv, Nat.reduceMod, Int.reduceToNat, Int.reduceLT, Int.reduceLE, Int.reduceAdd, Int.reduceSub, Int.reduceMul, Int.reduceEq, Int.reduceNeg, reduceCtorEq, resV, resAll, ARes.ev, LV.flat, ite_true, ite_false, exists_eq_left', exists_eq_left, keyOf, implies_true, fillC, capOf]
    have hx : xs.drop k = [] := List.drop_eq_nil_of_le (by omega)
    refine condC_dec (fun h2 => ?_) (fun h2 => ?_) <;> simp (disch := omega) only [h0, h1, h9, h10, h11, ↓SXd, SXu, slBounds, ↓sop, ↓aop, ↓reduceIte, LV.cells, AOp.dst, LV.I, LV.B, LV.U, LV.S, LV.nil, Nat.reduceEqDiff, Nat.reduceAdd, Nat.reduceMul, Nat.reduceSub, Nat.reduceLeDiff, Nat.reduceBEq, Nat.reduceDiv, Nat.reduceMod, Int.reduceToNat, Int.reduceLT, Int.reduceLE, Int.reduceAdd, Int.reduceSub, Int.reduceMul, Int.reduceEq, Int.reduceNeg, reduceCtorEq, resV, resAll, ARes.ev, LV.flat, ite_true, ite_false, exists_eq_left', exists_eq_left, keyOf, implies_true, fillC, capOf]
    · have hy : ys.drop k = ys.getD k 0 :: ys.drop (k + 1) := by
        rw [List.drop_eq_getElem_cons (show k < ys.length by omega)]; simp [show k < ys.length by omega]
      rw [he, hx, hy]; exact cmp_drop0 rfl
    · have hy : ys.drop k = [] := List.drop_eq_nil_of_le (by omega)
      rw [he, hx, hy]; exact cmp_drop0 rfl

theorem cmpL_lt {a b c a' b' c' : Int} : 0 ≤ cmpL [a, b, c] [a', b', c'] ↔ ¬ Cell.lt ⟨a, b, c⟩ ⟨a', b', c'⟩ := by
  have hc : ∀ a b : Int, cmpI a b = if a < b then -1 else if b < a then 1 else 0 := fun _ _ => rfl
  simp only [cmpL, hc, Cell.lt]
  by_cases h1 : a < a' <;> by_cases h2 : a' < a <;> by_cases h3 : b < b' <;> by_cases h4 : b' < b <;> by_cases h5 : c < c' <;> by_cases h6 : c' < c <;> simp only [h1, h2, h3, h4, h5, h6, if_true, if_false] <;> simp <;> omega

theorem g_compareCells {a b c a' b' c' : Int} {M : Mem} : CallsTo PG F.impl_compareCells [.agg [.I a, .I b, .I c], .agg [.I a', .I b', .I c']] M (.I (cmpL [a, b, c] [a', b', c'])) M := by
  refine calls_run K.impl_compareCells rfl ?_
  simp (disch := omega) only [C.impl_compareCells, slBounds, Option.isSome_some, and_self, if_true, ↓SXd, SXu, slBounds, ↓sop, ↓aop, ↓reduceIte, LV.cells, AOp.dst, LV.I, LV.B, LV.U, LV.S, LV.nil, Nat.reduceEqDiff, Nat.reduceAdd, Nat.reduceMul, Nat.reduceSub, Nat.reduceLeDiff, Nat.reduceBEq, Nat.reduceDiv, Nat.reduceMod, Int.reduceToNat, Int.reduceLT, Int.reduceLE, Int.reduceAdd, Int.reduceSub, Int.reduceMul, Int.reduceEq, Int.reduceNeg, reduceCtorEq, resV, resAll, ARes.ev, LV.flat, ite_true, ite_false, exists_eq_left', exists_eq_left, keyOf, implies_true, fillC, capOf]
  refine callK_of (g_compare (xs := [a, b, c]) (ys := [a', b', c']) (o := 0) (o' := 0) (Live.new (b := .row (intL [a, b, c]) true 0)).has (Live.newj (j := 1) (b := .row (intL [a', b', c']) true 0) rfl).has (by simp) (by simp)) ?_
  simp (disch := omega) only [↓SXd, SXu, slBounds, ↓sop, ↓aop, ↓reduceIte, LV.cells, AOp.dst, LV.I, LV.B, LV.U, LV.S, LV.nil, Nat.reduceEqDiff, Nat.reduceAdd, Nat.reduceMul, Nat.reduceSub, Nat.reduceLeDiff, Nat.reduceBEq, Nat.reduceDiv, Nat.reduceMod, Int.reduceToNat, Int.reduceLT, Int.reduceLE, Int.reduceAdd, Int.reduceSub, Int.reduceMul, Int.reduceEq, Int.reduceNeg, reduceCtorEq, resV, resAll, ARes.ev, LV.flat, ite_true, ite_false, exists_eq_left', exists_eq_left, keyOf, implies_true, fillC, capOf]
  exact cmp_drop rfl

theorem g_IsHeap {x y z : Int} {t o : Nat} {cs : List Cell} {M : Mem} (h : Tri M t o cs) (hn : cs.length ≤ 1000000000) :
    CallsTo PG F.impl_IsHeap [.agg [.I x, .I y, .I z, .ref t o cs.length]] M (.B (decide (HeapOK x y z cs))) M := by
  refine calls_run K.impl_IsHeap rfl ?_
  simp (disch := omega) only [C.impl_IsHeap, ↓SXd, SXu, slBounds, ↓sop, ↓aop, ↓reduceIte, LV.cells, AOp.dst, LV.I, LV.B, LV.U, LV.S, LV.nil, Nat.reduceEqDiff, Nat.reduceAdd, Nat.reduceMul, Nat.reduceSub, Nat.reduceLeDiff, Nat.reduceBEq, Nat.reduceDiv, Nat.reduceMod, Int.reduceToNat, Int.reduceLT, Int.reduceLE, Int.reduceAdd, Int.reduceSub, Int.reduceMul, Int.reduceEq, Int.reduceNeg, reduceCtorEq, resV, resAll, ARes.ev, LV.flat, ite_true, ite_false, exists_eq_left', exists_eq_left, keyOf, implies_true, fillC, capOf]
  refine callK_of g_box ?_
  simp (disch := omega) only [↓SXd, SXu, slBounds, ↓sop, ↓aop, ↓reduceIte, LV.cells, AOp.dst, LV.I, LV.B, LV.U, LV.S, LV.nil, Nat.reduceEqDiff, Nat.reduceAdd, Nat.reduceMul, Nat.reduceSub, Nat.reduceLeDiff, Nat.reduceBEq, Nat.reduceDiv, Nat.reduceMod, Int.reduceToNat, Int.reduceLT, Int.reduceLE, Int.reduceAdd, Int.reduceSub, Int.reduceMul, Int.reduceEq, Int.reduceNeg, reduceCtorEq, resV, resAll, ARes.ev, LV.flat, ite_true, ite_false, exists_eq_left', exists_eq_left, keyOf, implies_true, fillC, capOf]
  refine callK_of g_valid ?_
  simp (disch := omega) only [↓SXd, SXu, slBounds, ↓sop, ↓aop, ↓reduceIte, LV.cells, AOp.dst, LV.I, LV.B, LV.U, LV.S, LV.nil, Nat.reduceEqDiff, Nat.reduceAdd, Nat.reduceMul, Nat.reduceSub, Nat.reduceLeDiff, Nat.reduceBEq, Nat.reduceDiv, Nat.reduceMod, Int.reduceToNat, Int.reduceLT, Int.reduceLE, Int.reduceAdd, Int.reduceSub, Int.reduceMul, Int.reduceEq, Int.reduceNeg, reduceCtorEq, resV, resAll, ARes.ev, LV.flat, ite_true, ite_false, exists_eq_left', exists_eq_left, keyOf, implies_true, fillC, capOf]
  by_cases hS : Sides x y z
  · simp (disch := omega) only [hS, ↓SXd, SXu, slBounds, ↓sop, ↓aop, ↓reduceIte, LV.cells, AOp.dst, LV.I, LV.B, LV.U, LV.S, LV.nil, Nat.reduceEqDiff, Nat.reduceAdd, Nat.reduceMul, Nat.reduceSub, Nat.reduceLeDiff, Nat.reduceBEq, Nat.reduceDiv, Nat.reduceMod, Int.reduceToNat, Int.reduceLT, Int.reduceLE, Int.reduceAdd, Int.reduceSub, Int.reduceMul, Int.reduceEq, Int.reduceNeg, reduceCtorEq, resV, resAll, ARes.ev, LV.flat, ite_true, ite_false, exists_eq_left', exists_eq_left, keyOf, implies_true, fillC, capOf]
    refine ev_loop (fun m fr M' => ∃ k : Nat, k + m = cs.length ∧ Pre M M' ∧ Live M' M.length (.row [.I x, .I y, .I z, .ref t o cs.length] true 0) ∧ fr 1 = .ptr M.length 0 ∧ fr 10 = .ref t o cs.length ∧ fr 11 = .I (cs.length : Nat) ∧ fr 12 = .I k ∧
      ∀ j, j < k → (cs.getD j default).inBox x y z ∧ (0 < j → (cs.getD (j - 1) default).lt (cs.getD j default))) cs.length ⟨0, by omega, Pre.app _ _, Live.new, rfl, rfl, rfl, rfl, by omega⟩ ?_
    rintro m fr M' ⟨k, hk, hpre, hbox, h1, h10, h11, h12, hj⟩
    have h' : Tri M' t o cs := h.pre hpre
    have ht := h'.lt
    simp (disch := omega) only [h1, h10, h11, h12, ↓SXd, SXu, slBounds, ↓sop, ↓aop, ↓reduceIte, LV.cells, AOp.dst, LV.I, LV.B, LV.U, LV.S, LV.nil, Nat.reduceEqDiff, Nat.reduceAdd, Nat.reduceMul, Nat.reduceSub, Nat.reduceLeDiff, Nat.reduceBEq, Nat.reduceDiv, Nat.reduceMod, Int.reduceToNat, Int.reduceLT, Int.reduceLE, Int.reduceAdd, Int.reduceSub, Int.reduceMul, Int.reduceEq, Int.reduceNeg, reduceCtorEq, resV, resAll, ARes.ev, LV.flat, ite_true, ite_false, exists_eq_left', exists_eq_left, keyOf, implies_true, fillC, capOf]
    refine condC_dec (fun hlt => ?_) (fun hlt => ?_)
    · have hbox' : ∀ {L : Mem} {o n : Nat}, getCells (M' ++ L) M.length o n = _ := fun {L o n} => (hbox.app (L := L)).cells
      have hboxc : ∀ {L : Mem} {o : Nat}, getCell (M' ++ L) M.length o = _ := fun {L o} => (hbox.app (L := L)).cell
      simp (disch := omega) only [h1, h10, h11, h12, Tri.get h', Cell.row, hbox', hboxc, ↓SXd, SXu, slBounds, ↓sop, ↓aop, ↓reduceIte, LV.cells, AOp.dst, LV.I, LV.B, LV.U, LV.S, LV.nil, Nat.reduceEqDiff, Nat.reduceAdd, Nat.reduceMul, Nat.reduceSub, Nat.reduceLeDiff, Nat.reduceBEq, Nat.reduceDiv, Nat.reduceMod, Int.reduceToNat, Int.reduceLT, Int.reduceLE, Int.reduceAdd, Int.reduceSub, Int.reduceMul, Int.reduceEq, Int.reduceNeg, reduceCtorEq, resV, resAll, ARes.ev, LV.flat, ite_true, ite_false, exists_eq_left', exists_eq_left, keyOf, implies_true, fillC, capOf]
      refine callK_of g_box ?_
      simp (disch := omega) only [h1, h10, h11, h12, Tri.get h', Cell.row, hbox', hboxc, ↓SXd, SXu, slBounds, ↓sop, ↓aop, ↓reduceIte, LV.cells, AOp.dst, LV.I, LV.B, LV.U, LV.S, LV.nil, Nat.reduceEqDiff, Nat.reduceAdd, Nat.reduceMul, Nat.reduceSub, Nat.reduceLeDiff, Nat.reduceBEq, Nat.reduceDiv, Nat.reduceMod, Int.reduceToNat, Int.reduceLT, Int.reduceLE, Int.reduceAdd, Int.reduceSub, Int.reduceMul, Int.reduceEq, Int.reduceNeg, reduceCtorEq, resV, resAll, ARes.ev, LV.flat, ite_true, ite_false, exists_eq_left', exists_eq_left, keyOf, implies_true, fillC, capOf]
      refine callK_of (g_has hS) ?_
      simp (disch := omega) only [h1, h10, h11, h12, Cell.row, cell_eta, ↓SXd, SXu, slBounds, ↓sop, ↓aop, ↓reduceIte, LV.cells, AOp.dst, LV.I, LV.B, LV.U, LV.S, LV.nil, Nat.reduceEqDiff, Nat.reduceAdd, Nat.reduceMul, Nat.reduceSub, Nat.reduceLeDiff, Nat.reduceBEq, Nat.reduceDiv, Nat.reduceMod, Int.reduceToNat, Int.reduceLT, Int.reduceLE, Int.reduceAdd, Int.reduceSub, Int.reduceMul, Int.reduceEq, Int.reduceNeg, reduceCtorEq, resV, resAll, ARes.ev, LV.flat, ite_true, ite_false, exists_eq_left', exists_eq_left, keyOf, implies_true, fillC, capOf]
      by_cases hin : (cs.getD k default).inBox x y z
      · by_cases hk0 : k = 0
        · subst hk0
          simp (disch := omega) only [hin, h1, h10, h11, h12, cell_eta, Int.natCast_zero, gt_iff_lt, Int.lt_irrefl, ↓SXd, SXu, slBounds, ↓sop, ↓aop, ↓reduceIte, LV.cells, AOp.dst, LV.I, LV.B, LV.U, LV.S, LV.nil, Nat.reduceEqDiff, Nat.reduceAdd, Nat.reduceMul, Nat.reduceSub, Nat.reduceLeDiff, Nat.reduceBEq, Nat.reduceDiv, Nat.reduceMod, Int.reduceToNat, Int.reduceLT, Int.reduceLE, Int.reduceAdd, Int.reduceSub, Int.reduceMul, Int.reduceEq, Int.reduceNeg, reduceCtorEq, resV, resAll, ARes.ev, LV.flat, ite_true, ite_false, exists_eq_left', exists_eq_left, keyOf, implies_true, fillC, capOf]
          exact ⟨m - 1, by omega, 1, by omega, Pre.app' hpre, hbox.app, h1, h10, h11, rfl, fun j hj1 => by
            have : j = 0 := by omega
            subst this
            exact ⟨hin, by omega⟩⟩
        · have e1 : ((k : Int) - 1).toNat = k - 1 := by omega
          have e2 : (0 : Int) < k := by omega
          simp (disch := omega) only [hin, h1, h10, h11, h12, getCells_app, Tri.get h', Cell.row, cell_eta, hbox', hboxc, e1, e2, ↓SXd, SXu, slBounds, ↓sop, ↓aop, ↓reduceIte, LV.cells, AOp.dst, LV.I, LV.B, LV.U, LV.S, LV.nil, Nat.reduceEqDiff, Nat.reduceAdd, Nat.reduceMul, Nat.reduceSub, Nat.reduceLeDiff, Nat.reduceBEq, Nat.reduceDiv, Nat.reduceMod, Int.reduceToNat, Int.reduceLT, Int.reduceLE, Int.reduceAdd, Int.reduceSub, Int.reduceMul, Int.reduceEq, Int.reduceNeg, reduceCtorEq, resV, resAll, ARes.ev, LV.flat, ite_true, ite_false, exists_eq_left', exists_eq_left, keyOf, implies_true, fillC, capOf]
          refine callK_of g_compareCells ?_
          simp (disch := omega) only [hin, h1, h10, h11, h12, cell_eta, ↓SXd, SXu, slBounds, ↓sop, ↓aop, ↓reduceIte, LV.cells, AOp.dst, LV.I, LV.B, LV.U, LV.S, LV.nil, Nat.reduceEqDiff, Nat.reduceAdd, Nat.reduceMul, Nat.reduceSub, Nat.reduceLeDiff, Nat.reduceBEq, Nat.reduceDiv, Nat.reduceMod, Int.reduceToNat, Int.reduceLT, Int.reduceLE, Int.reduceAdd, Int.reduceSub, Int.reduceMul, Int.reduceEq, Int.reduceNeg, reduceCtorEq, resV, resAll, ARes.ev, LV.flat, ite_true, ite_false, exists_eq_left', exists_eq_left, keyOf, implies_true, fillC, capOf]
          by_cases hb : (cs.getD (k - 1) default).lt (cs.getD k default)
          · have hb' : ¬ 0 ≤ cmpL [(cs.getD (k - 1) default).a, (cs.getD (k - 1) default).b, (cs.getD (k - 1) default).c] [(cs.getD k default).a, (cs.getD k default).b, (cs.getD k default).c] := fun e => (cmpL_lt.1 e) hb
            simp (disch := omega) only [hb', h1, h10, h11, h12, ↓SXd, SXu, slBounds, ↓sop, ↓aop, ↓reduceIte, LV.cells, AOp.dst, LV.I, LV.B, LV.U, LV.S, LV.nil, Nat.reduceEqDiff, Nat.reduceAdd, Nat.reduceMul, Nat.reduceSub, Nat.reduceLeDiff, Nat.reduceBEq, Nat.reduceDiv, Nat.reduceMod, Int.reduceToNat, Int.reduceLT, Int.reduceLE, Int.reduceAdd, Int.reduceSub, Int.reduceMul, Int.reduceEq, Int.reduceNeg, reduceCtorEq, resV, resAll, ARes.ev, LV.flat, ite_true, ite_false, exists_eq_left', exists_eq_left, keyOf, implies_true, fillC, capOf]
            exact ⟨m - 1, by omega, k + 1, by omega, Pre.app' hpre, hbox.app, h1, h10, h11, eqI (natI _), fun j hj1 => by
              by_cases hjk : j = k
              · subst hjk; exact ⟨hin, fun _ => hb⟩
              · exact hj j (by omega)⟩
          · have hb' : 0 ≤ cmpL [(cs.getD (k - 1) default).a, (cs.getD (k - 1) default).b, (cs.getD (k - 1) default).c] [(cs.getD k default).a, (cs.getD k default).b, (cs.getD k default).c] := cmpL_lt.2 hb
            simp (disch := omega) only [hb', h1, h10, h11, h12, ↓SXd, SXu, slBounds, ↓sop, ↓aop, ↓reduceIte, LV.cells, AOp.dst, LV.I, LV.B, LV.U, LV.S, LV.nil, Nat.reduceEqDiff, Nat.reduceAdd, Nat.reduceMul, Nat.reduceSub, Nat.reduceLeDiff, Nat.reduceBEq, Nat.reduceDiv, Nat.reduceMod, Int.reduceToNat, Int.reduceLT, Int.reduceLE, Int.reduceAdd, Int.reduceSub, Int.reduceMul, Int.reduceEq, Int.reduceNeg, reduceCtorEq, resV, resAll, ARes.ev, LV.flat, ite_true, ite_false, exists_eq_left', exists_eq_left, keyOf, implies_true, fillC, capOf]
            rw [decide_eq_false (fun hh : HeapOK x y z cs => hb ((hh.2 k (by omega)).2 (by omega)))]
            exact cmp_pre (Pre.app' hpre) rfl
      · simp (disch := omega) only [hin, h1, h10, h11, h12, ↓SXd, SXu, slBounds, ↓sop, ↓aop, ↓reduceIte, LV.cells, AOp.dst, LV.I, LV.B, LV.U, LV.S, LV.nil, Nat.reduceEqDiff, Nat.reduceAdd, Nat.reduceMul, Nat.reduceSub, Nat.reduceLeDiff, Nat.reduceBEq, Nat.reduceDiv, Nat.reduceMod, Int.reduceToNat, Int.reduceLT, Int.reduceLE, Int.reduceAdd, Int.reduceSub, Int.reduceMul, Int.reduceEq, Int.reduceNeg, reduceCtorEq, resV, resAll, ARes.ev, LV.flat, ite_true, ite_false, exists_eq_left', exists_eq_left, keyOf, implies_true, fillC, capOf]
        rw [decide_eq_false (fun hh : HeapOK x y z cs => hin (hh.2 k (by omega)).1)]
        exact cmp_pre (Pre.app' hpre) rfl
    · simp (disch := omega) only [h1, h10, h11, h12, ↓SXd, SXu, slBounds, ↓sop, ↓aop, ↓reduceIte, LV.cells, AOp.dst, LV.I, LV.B, LV.U, LV.S, LV.nil, Nat.reduceEqDiff, Nat.reduceAdd, Nat.reduceMul, Nat.reduceSub, Nat.reduceLeDiff, Nat.reduceBEq, Nat.reduceDiv, Nat.reduceMod, Int.reduceToNat, Int.reduceLT, Int.reduceLE, Int.reduceAdd, Int.reduceSub, Int.reduceMul, Int.reduceEq, Int.reduceNeg, reduceCtorEq, resV, resAll, ARes.ev, LV.flat, ite_true, ite_false, exists_eq_left', exists_eq_left, keyOf, implies_true, fillC, capOf]
      rw [decide_eq_true (show HeapOK x y z cs from ⟨hS, fun j hj1 => hj j (by omega)⟩)]
      exact cmp_pre hpre rfl
  · simp (disch := omega) only [hS, ↓SXd, SXu, slBounds, ↓sop, ↓aop, ↓reduceIte, LV.cells, AOp.dst, LV.I, LV.B, LV.U, LV.S, LV.nil, Nat.reduceEqDiff, Nat.reduceAdd, Nat.reduceMul, Nat.reduceSub, Nat.reduceLeDiff, Nat.reduceBEq, Nat.reduceDiv, Nat.reduceMod, Int.reduceToNat, Int.reduceLT, Int.reduceLE, Int.reduceAdd, Int.reduceSub, Int.reduceMul, Int.reduceEq, Int.reduceNeg, reduceCtorEq, resV, resAll, ARes.ev, LV.flat, ite_true, ite_false, exists_eq_left', exists_eq_left, keyOf, implies_true, fillC, capOf]
    exact cmp_dropF fun hh => hS hh.1
end Go.Ab

/- Contracts: the program's heights; whether columns are there. -/
namespace Go.Ab
open Go
set_option linter.unusedSimpArgs false
set_option linter.unusedVariables false

theorem HeapOK.cell' {x y z : Int} {cs : List Cell} (h : HeapOK x y z cs) {k : Nat} (hk : k < cs.length) : (cs.getD k default).inBox x y z := (h.2 k hk).1

theorem g_others2 {M : Mem} : CallsTo PG F.impl_others [.I 2] M (.tup [.I 0, .I 1]) M := by
  refine calls_run K.impl_others rfl ?_
  simp (disch := omega) only [C.impl_others, ↓SXd, SXu, slBounds, ↓sop, ↓aop, ↓reduceIte, LV.cells, AOp.dst, LV.I, LV.B, LV.U, LV.S, LV.nil, Nat.reduceEqDiff, Nat.reduceAdd, Nat.reduceMul, Nat.reduceSub, Nat.reduceLeDiff, Nat.reduceBEq, Nat.reduceDiv, Nat.reduceMod, Int.reduceToNat, Int.reduceLT, Int.reduceLE, Int.reduceAdd, Int.reduceSub, Int.reduceMul, Int.reduceEq, Int.reduceNeg, reduceCtorEq, resV, resAll, ARes.ev, LV.flat, ite_true, ite_false, exists_eq_left', exists_eq_left, keyOf, implies_true, fillC, capOf]
  exact cmp_drop0 rfl
theorem g_line2 {x y z a b c : Int} {M : Mem} (h0 : 0 ≤ a * y ∧ a * y ≤ 1000) (hb : 0 ≤ b ∧ b ≤ 1000) : CallsTo PG F.impl_box_line [.agg [.I x, .I y, .I z], .agg [.I a, .I b, .I c], .I 2] M (.I (a * y + b)) M := by
  refine calls_run K.impl_box_line rfl ?_
  simp (disch := omega) only [C.impl_box_line, ↓SXd, SXu, slBounds, ↓sop, ↓aop, ↓reduceIte, LV.cells, AOp.dst, LV.I, LV.B, LV.U, LV.S, LV.nil, Nat.reduceEqDiff, Nat.reduceAdd, Nat.reduceMul, Nat.reduceSub, Nat.reduceLeDiff, Nat.reduceBEq, Nat.reduceDiv, Nat.reduceMod, Int.reduceToNat, Int.reduceLT, Int.reduceLE, Int.reduceAdd, Int.reduceSub, Int.reduceMul, Int.reduceEq, Int.reduceNeg, reduceCtorEq, resV, resAll, ARes.ev, LV.flat, ite_true, ite_false, exists_eq_left', exists_eq_left, keyOf, implies_true, fillC, capOf]
  refine callK_of g_others2 ?_
  simp (disch := omega) only [↓SXd, SXu, slBounds, ↓sop, ↓aop, ↓reduceIte, LV.cells, AOp.dst, LV.I, LV.B, LV.U, LV.S, LV.nil, Nat.reduceEqDiff, Nat.reduceAdd, Nat.reduceMul, Nat.reduceSub, Nat.reduceLeDiff, Nat.reduceBEq, Nat.reduceDiv, Nat.reduceMod, Int.reduceToNat, Int.reduceLT, Int.reduceLE, Int.reduceAdd, Int.reduceSub, Int.reduceMul, Int.reduceEq, Int.reduceNeg, reduceCtorEq, resV, resAll, ARes.ev, LV.flat, ite_true, ite_false, exists_eq_left', exists_eq_left, keyOf, implies_true, fillC, capOf]
  exact cmp_drop rfl

theorem g_allWithin {lo hi : Int} {t o : Nat} {xs : List Int} {M : Mem} (h : Ints M t o xs) (hn : xs.length ≤ 1000000000) :
    CallsTo PG F.impl_allWithin [.ref t o xs.length, .I lo, .I hi] M (.B (decide (∀ k, k < xs.length → lo ≤ xs.getD k 0 ∧ xs.getD k 0 ≤ hi))) M := by
  refine calls_run K.impl_allWithin rfl ?_
  simp (disch := omega) only [C.impl_allWithin, ↓SXd, SXu, slBounds, ↓sop, ↓aop, ↓reduceIte, LV.cells, AOp.dst, LV.I, LV.B, LV.U, LV.S, LV.nil, Nat.reduceEqDiff, Nat.reduceAdd, Nat.reduceMul, Nat.reduceSub, Nat.reduceLeDiff, Nat.reduceBEq, Nat.reduceDiv, Nat.reduceMod, Int.reduceToNat, Int.reduceLT, Int.reduceLE, Int.reduceAdd, Int.reduceSub, Int.reduceMul, Int.reduceEq, Int.reduceNeg, reduceCtorEq, resV, resAll, ARes.ev, LV.flat, ite_true, ite_false, exists_eq_left', exists_eq_left, keyOf, implies_true, fillC, capOf]
  refine ev_loop (fun m fr M' => ∃ k : Nat, k + m = xs.length ∧ M' = M ∧ fr 1 = .I lo ∧ fr 2 = .I hi ∧ fr 9 = .ref t o xs.length ∧ fr 10 = .I (xs.length : Nat) ∧ fr 11 = .I k ∧ ∀ j, j < k → lo ≤ xs.getD j 0 ∧ xs.getD j 0 ≤ hi) xs.length
    ⟨0, by omega, rfl, rfl, rfl, rfl, rfl, rfl, by omega⟩ ?_
  rintro m fr M' ⟨k, hk, rfl, h1, h2, h9, h10, h11, hj⟩
  simp (disch := omega) only [h1, h2, h9, h10, h11, ↓SXd, SXu, slBounds, ↓sop, ↓aop, ↓reduceIte, LV.cells, AOp.dst, LV.I, LV.B, LV.U, LV.S, LV.nil, Nat.reduceEqDiff, Nat.reduceAdd, Nat.reduceMul, Nat.reduceSub, Nat.reduceLeDiff, Nat.reduceBEq, Nat.reduceDiv, Nat.reduceMod, Int.reduceToNat, Int.reduceLT, Int.reduceLE, Int.reduceAdd, Int.reduceSub, Int.reduceMul, Int.reduceEq, Int.reduceNeg, reduceCtorEq, resV, resAll, ARes.ev, LV.flat, ite_true, ite_false, exists_eq_left', exists_eq_left, keyOf, implies_true, fillC, capOf]
  refine condC_dec (fun hlt => ?_) (fun hlt => ?_)
  · simp (disch := omega) only [h1, h2, h9, h10, h11, Ints.get h, ↓SXd, SXu, slBounds, ↓sop, ↓aop, ↓reduceIte, LV.cells, AOp.dst, LV.I, LV.B, LV.U, LV.S, LV.nil, Nat.reduceEqDiff, Nat.reduceAdd, Nat.reduceMul, Nat.reduceSub, Nat.reduceLeDiff, Nat.reduceBEq, Nat.reduceDiv, Nat.reduceMod, Int.reduceToNat, Int.reduceLT, Int.reduceLE, Int.reduceAdd, Int.reduceSub, Int.reduceMul, Int.reduceEq, Int.reduceNeg, reduceCtorEq, resV, resAll, ARes.ev, LV.flat, ite_true, ite_false, exists_eq_left', exists_eq_left, keyOf, implies_true, fillC, capOf]
    refine callK_of g_within ?_
    simp (disch := omega) only [h1, h2, h9, h10, h11, ↓SXd, SXu, slBounds, ↓sop, ↓aop, ↓reduceIte, LV.cells, AOp.dst, LV.I, LV.B, LV.U, LV.S, LV.nil, Nat.reduceEqDiff, Nat.reduceAdd, Nat.reduceMul, Nat.reduceSub, Nat.reduceLeDiff, Nat.reduceBEq, Nat.reduceDiv, Nat.reduceMod, Int.reduceToNat, Int.reduceLT, Int.reduceLE, Int.reduceAdd, Int.reduceSub, Int.reduceMul, Int.reduceEq, Int.reduceNeg, reduceCtorEq, resV, resAll, ARes.ev, LV.flat, ite_true, ite_false, exists_eq_left', exists_eq_left, keyOf, implies_true, fillC, capOf]
    refine condC_dec (fun h3 => ?_) (fun h3 => ?_) <;> simp (disch := omega) only [h1, h2, h9, h10, h11, ↓SXd, SXu, slBounds, ↓sop, ↓aop, ↓reduceIte, LV.cells, AOp.dst, LV.I, LV.B, LV.U, LV.S, LV.nil, Nat.reduceEqDiff, Nat.reduceAdd, Nat.reduceMul, Nat.reduceSub, Nat.reduceLeDiff, Nat.reduceBEq, Nat.reduceDiv, Nat.reduceMod, Int.reduceToNat, Int.reduceLT, Int.reduceLE, Int.reduceAdd, Int.reduceSub, Int.reduceMul, Int.reduceEq, Int.reduceNeg, reduceCtorEq, resV, resAll, ARes.ev, LV.flat, ite_true, ite_false, exists_eq_left', exists_eq_left, keyOf, implies_true, fillC, capOf]
    · refine ⟨m - 1, by omega, k + 1, by omega, rfl, h1, h2, h9, h10, eqI (natI _), fun j hj1 => ?_⟩
      by_cases hjk : j = k
      · subst hjk; exact h3
      · exact hj j (by omega)
    · exact cmp_dropF0 fun hh => h3 (hh k (by omega))
  · simp (disch := omega) only [h1, h2, h9, h10, h11, ↓SXd, SXu, slBounds, ↓sop, ↓aop, ↓reduceIte, LV.cells, AOp.dst, LV.I, LV.B, LV.U, LV.S, LV.nil, Nat.reduceEqDiff, Nat.reduceAdd, Nat.reduceMul, Nat.reduceSub, Nat.reduceLeDiff, Nat.reduceBEq, Nat.reduceDiv, Nat.reduceMod, Int.reduceToNat, Int.reduceLT, Int.reduceLE, Int.reduceAdd, Int.reduceSub, Int.reduceMul, Int.reduceEq, Int.reduceNeg, reduceCtorEq, resV, resAll, ARes.ev, LV.flat, ite_true, ite_false, exists_eq_left', exists_eq_left, keyOf, implies_true, fillC, capOf]
    exact cmp_dropT0 fun j hj1 => hj j (by omega)

theorem g_allWithin_nil {lo hi : Int} {M : Mem} : CallsTo PG F.impl_allWithin [.nil, .I lo, .I hi] M (.B true) M := by
  refine calls_run K.impl_allWithin rfl ?_
  simp (disch := omega) only [C.impl_allWithin, ↓SXd, SXu, slBounds, ↓sop, ↓aop, ↓reduceIte, LV.cells, AOp.dst, LV.I, LV.B, LV.U, LV.S, LV.nil, Nat.reduceEqDiff, Nat.reduceAdd, Nat.reduceMul, Nat.reduceSub, Nat.reduceLeDiff, Nat.reduceBEq, Nat.reduceDiv, Nat.reduceMod, Int.reduceToNat, Int.reduceLT, Int.reduceLE, Int.reduceAdd, Int.reduceSub, Int.reduceMul, Int.reduceEq, Int.reduceNeg, reduceCtorEq, resV, resAll, ARes.ev, LV.flat, ite_true, ite_false, exists_eq_left', exists_eq_left, keyOf, implies_true, fillC, capOf]
  refine ev_loop (fun m fr M' => M' = M ∧ fr 10 = .I 0 ∧ fr 11 = .I 0) 0 ⟨rfl, rfl, rfl⟩ ?_
  rintro m fr M' ⟨rfl, h10, h11⟩
  simp (disch := omega) only [h10, h11, Int.lt_irrefl, ↓SXd, SXu, slBounds, ↓sop, ↓aop, ↓reduceIte, LV.cells, AOp.dst, LV.I, LV.B, LV.U, LV.S, LV.nil, Nat.reduceEqDiff, Nat.reduceAdd, Nat.reduceMul, Nat.reduceSub, Nat.reduceLeDiff, Nat.reduceBEq, Nat.reduceDiv, Nat.reduceMod, Int.reduceToNat, Int.reduceLT, Int.reduceLE, Int.reduceAdd, Int.reduceSub, Int.reduceMul, Int.reduceEq, Int.reduceNeg, reduceCtorEq, resV, resAll, ARes.ev, LV.flat, ite_true, ite_false, exists_eq_left', exists_eq_left, keyOf, implies_true, fillC, capOf]
  exact cmp_drop0 rfl

end Go.Ab

/- Contracts: g_heights. -/
namespace Go.Ab
open Go
set_option linter.unusedSimpArgs false
set_option linter.unusedVariables false
set_option maxRecDepth 20000

theorem g_heights {x y z : Int} {t o : Nat} {cs : List Cell} {M : Mem} (h : Tri M t o cs) (hn : cs.length ≤ 1000000000) (hH : HeapOK x y z cs) :
    CallsTo PG F.impl_Heap_heights [.agg [.I x, .I y, .I z, .ref t o cs.length]] M (.ref M.length 0 (x * y).toNat) (M ++ [some (.row (intL (topsOf x y cs)) true 1)]) := by
  have hb := mul_bound hH.1.1 hH.1.2.1
  refine calls_run K.impl_Heap_heights rfl ?_
  simp (disch := omega) only [C.impl_Heap_heights, made_int, ↓SXd, SXu, slBounds, ↓sop, ↓aop, ↓reduceIte, LV.cells, AOp.dst, LV.I, LV.B, LV.U, LV.S, LV.nil, Nat.reduceEqDiff, Nat.reduceAdd, Nat.reduceMul, Nat.reduceSub, Nat.reduceLeDiff, Nat.reduceBEq, Nat.reduceDiv, Nat.reduceMod, Int.reduceToNat, Int.reduceLT, Int.reduceLE, Int.reduceAdd, Int.reduceSub, Int.reduceMul, Int.reduceEq, Int.reduceNeg, reduceCtorEq, resV, resAll, ARes.ev, LV.flat, ite_true, ite_false, exists_eq_left', exists_eq_left, keyOf, implies_true, fillC, capOf]
  refine ev_loop (fun m fr M' => ∃ (k : Nat) (out : List Int), k + m = cs.length ∧ Pre M M' ∧ Live M' M.length (.row [.I x, .I y, .I z, .ref t o cs.length] true 0) ∧ Live M' (M.length + 1) (.row (intL out) true 1) ∧
    fr 1 = .ptr M.length 0 ∧ fr 3 = .ref (M.length + 1) 0 (x * y).toNat ∧ fr 14 = .ref t o cs.length ∧ fr 15 = .I (cs.length : Nat) ∧ fr 16 = .I k ∧
    out = (cs.take k).foldl (topStep y) (List.replicate (x * y).toNat 0) ∧ out.length = (x * y).toNat) cs.length ⟨0, _, by omega, Pre.app _ _, Live.new, Live.newj rfl, rfl, rfl, rfl, rfl, rfl, rfl, by simp⟩ ?_
  rintro m fr M' ⟨k, out, hk, hpre, hbox, hout, h1, h3, h14, h15, h16, ho, hol⟩
  have h' : Tri M' t o cs := h.pre hpre
  have ht := h'.lt
  simp (disch := omega) only [h1, h3, h14, h15, h16, ↓SXd, SXu, slBounds, ↓sop, ↓aop, ↓reduceIte, LV.cells, AOp.dst, LV.I, LV.B, LV.U, LV.S, LV.nil, Nat.reduceEqDiff, Nat.reduceAdd, Nat.reduceMul, Nat.reduceSub, Nat.reduceLeDiff, Nat.reduceBEq, Nat.reduceDiv, Nat.reduceMod, Int.reduceToNat, Int.reduceLT, Int.reduceLE, Int.reduceAdd, Int.reduceSub, Int.reduceMul, Int.reduceEq, Int.reduceNeg, reduceCtorEq, resV, resAll, ARes.ev, LV.flat, ite_true, ite_false, exists_eq_left', exists_eq_left, keyOf, implies_true, fillC, capOf]
  refine condC_dec (fun hlt => ?_) (fun hlt => ?_)
  · obtain ⟨ca, cb, cc⟩ := hH.cell' (k := k) (by omega)
    have hS := hH.1
    obtain ⟨b1, b2, b3, b4⟩ := col_bound hS.1 hS.2.1 ca cb
    obtain ⟨_, hy, hz⟩ := hS
    have hbox' : ∀ {L : Mem} {o n : Nat}, getCells (M' ++ L) M.length o n = _ := fun {L o n} => (hbox.app (L := L)).cells
    have houtc : ∀ {L : Mem} {o : Nat}, getCell (M' ++ L) (M.length + 1) o = _ := fun {L o} => (hout.app (L := L)).cell
    simp (disch := omega) only [h1, h3, h14, h15, h16, Tri.get h', Cell.row, hbox', ↓SXd, SXu, slBounds, ↓sop, ↓aop, ↓reduceIte, LV.cells, AOp.dst, LV.I, LV.B, LV.U, LV.S, LV.nil, Nat.reduceEqDiff, Nat.reduceAdd, Nat.reduceMul, Nat.reduceSub, Nat.reduceLeDiff, Nat.reduceBEq, Nat.reduceDiv, Nat.reduceMod, Int.reduceToNat, Int.reduceLT, Int.reduceLE, Int.reduceAdd, Int.reduceSub, Int.reduceMul, Int.reduceEq, Int.reduceNeg, reduceCtorEq, resV, resAll, ARes.ev, LV.flat, ite_true, ite_false, exists_eq_left', exists_eq_left, keyOf, implies_true, fillC, capOf]
    refine callK_of g_box ?_
    simp (disch := omega) only [h1, h3, h14, h15, h16, Tri.get h', Cell.row, hbox', ↓SXd, SXu, slBounds, ↓sop, ↓aop, ↓reduceIte, LV.cells, AOp.dst, LV.I, LV.B, LV.U, LV.S, LV.nil, Nat.reduceEqDiff, Nat.reduceAdd, Nat.reduceMul, Nat.reduceSub, Nat.reduceLeDiff, Nat.reduceBEq, Nat.reduceDiv, Nat.reduceMod, Int.reduceToNat, Int.reduceLT, Int.reduceLE, Int.reduceAdd, Int.reduceSub, Int.reduceMul, Int.reduceEq, Int.reduceNeg, reduceCtorEq, resV, resAll, ARes.ev, LV.flat, ite_true, ite_false, exists_eq_left', exists_eq_left, keyOf, implies_true, fillC, capOf]
    refine callK_of (g_line2 (by omega) (by omega)) ?_
    simp (disch := omega) only [h1, h3, h14, h15, h16, Tri.get h', Cell.row, hbox', houtc, intL_get, maxV, if_true, ↓SXd, SXu, slBounds, ↓sop, ↓aop, ↓reduceIte, LV.cells, AOp.dst, LV.I, LV.B, LV.U, LV.S, LV.nil, Nat.reduceEqDiff, Nat.reduceAdd, Nat.reduceMul, Nat.reduceSub, Nat.reduceLeDiff, Nat.reduceBEq, Nat.reduceDiv, Nat.reduceMod, Int.reduceToNat, Int.reduceLT, Int.reduceLE, Int.reduceAdd, Int.reduceSub, Int.reduceMul, Int.reduceEq, Int.reduceNeg, reduceCtorEq, resV, resAll, ARes.ev, LV.flat, ite_true, ite_false, exists_eq_left', exists_eq_left, keyOf, implies_true, fillC, capOf]
    refine memK_int hout.app (by omega) fun N l1 l2 l3 => ?_
    simp (disch := omega) only [h1, h3, h14, h15, h16, ↓SXd, SXu, slBounds, ↓sop, ↓aop, ↓reduceIte, LV.cells, AOp.dst, LV.I, LV.B, LV.U, LV.S, LV.nil, Nat.reduceEqDiff, Nat.reduceAdd, Nat.reduceMul, Nat.reduceSub, Nat.reduceLeDiff, Nat.reduceBEq, Nat.reduceDiv, Nat.reduceMod, Int.reduceToNat, Int.reduceLT, Int.reduceLE, Int.reduceAdd, Int.reduceSub, Int.reduceMul, Int.reduceEq, Int.reduceNeg, reduceCtorEq, resV, resAll, ARes.ev, LV.flat, ite_true, ite_false, exists_eq_left', exists_eq_left, keyOf, implies_true, fillC, capOf]
    refine ⟨m - 1, by omega, k + 1, _, by omega, pre_step (Pre.app' hpre) (by omega) (j := 0) l1 l3, live_step hbox.app (by omega) l3, l2, h1, h3, h14, h15, eqI (natI _), ?_, by simpa using hol⟩
    rw [take_succ_foldl _ _ _ _ default (by omega), ← ho]
    rfl
  · simp (disch := omega) only [h1, h3, h14, h15, h16, ↓SXd, SXu, slBounds, ↓sop, ↓aop, ↓reduceIte, LV.cells, AOp.dst, LV.I, LV.B, LV.U, LV.S, LV.nil, Nat.reduceEqDiff, Nat.reduceAdd, Nat.reduceMul, Nat.reduceSub, Nat.reduceLeDiff, Nat.reduceBEq, Nat.reduceDiv, Nat.reduceMod, Int.reduceToNat, Int.reduceLT, Int.reduceLE, Int.reduceAdd, Int.reduceSub, Int.reduceMul, Int.reduceEq, Int.reduceNeg, reduceCtorEq, resV, resAll, ARes.ev, LV.flat, ite_true, ite_false, exists_eq_left', exists_eq_left, keyOf, implies_true, fillC, capOf]
    have : k = cs.length := by omega
    subst this
    rw [List.take_length] at ho
    rw [show topsOf x y cs = out from ho.symm]
    exact cmp_keepL hpre (by omega) hout (intL_lo out) (by simp [rn, rn0, rn1])

end Go.Ab

/- Contracts: g_top g_isTop g_isTop_nil. -/
namespace Go.Ab
open Go
set_option linter.unusedSimpArgs false
set_option linter.unusedVariables false
set_option maxRecDepth 20000

theorem g_top {x y z : Int} {t o : Nat} {cs : List Cell} {M : Mem} (h : Tri M t o cs) (hn : cs.length ≤ 1000000000) (hH : HeapOK x y z cs) :
    CallsTo PG F.impl_Heap_top [.agg [.I x, .I y, .I z, .ref t o cs.length]] M (.agg [.ref M.length 0 (x * y).toNat, .I y]) (M ++ [some (.row (intL (topsOf x y cs)) true 1)]) := by
  refine calls_run K.impl_Heap_top rfl ?_
  simp (disch := omega) only [C.impl_Heap_top, ↓SXd, SXu, slBounds, ↓sop, ↓aop, ↓reduceIte, LV.cells, AOp.dst, LV.I, LV.B, LV.U, LV.S, LV.nil, Nat.reduceEqDiff, Nat.reduceAdd, Nat.reduceMul, Nat.reduceSub, Nat.reduceLeDiff, Nat.reduceBEq, Nat.reduceDiv, Nat.reduceMod, Int.reduceToNat, Int.reduceLT, Int.reduceLE, Int.reduceAdd, Int.reduceSub, Int.reduceMul, Int.reduceEq, Int.reduceNeg, reduceCtorEq, resV, resAll, ARes.ev, LV.flat, ite_true, ite_false, exists_eq_left', exists_eq_left, keyOf, implies_true, fillC, capOf]
  refine callK_of (g_heights h.app hn hH) ?_
  simp (disch := omega) only [↓SXd, SXu, slBounds, ↓sop, ↓aop, ↓reduceIte, LV.cells, AOp.dst, LV.I, LV.B, LV.U, LV.S, LV.nil, Nat.reduceEqDiff, Nat.reduceAdd, Nat.reduceMul, Nat.reduceSub, Nat.reduceLeDiff, Nat.reduceBEq, Nat.reduceDiv, Nat.reduceMod, Int.reduceToNat, Int.reduceLT, Int.reduceLE, Int.reduceAdd, Int.reduceSub, Int.reduceMul, Int.reduceEq, Int.reduceNeg, reduceCtorEq, resV, resAll, ARes.ev, LV.flat, ite_true, ite_false, exists_eq_left', exists_eq_left, keyOf, implies_true, fillC, capOf]
  exact cmp_keep1 (j := 2) rfl (intL_lo _) (by simp [rn, rn0, rn1, keepR_n])

theorem g_isTop {x y z s : Int} {t o t' o' : Nat} {cs : List Cell} {xs : List Int} {M : Mem} (h : Tri M t o cs) (hn : cs.length ≤ 1000000000) (h' : Ints M t' o' xs) (hn' : xs.length ≤ 1000000000) :
    CallsTo PG F.impl_isTop [.agg [.I x, .I y, .I z, .ref t o cs.length], .I s, .ref t' o' xs.length] M
      (.B (decide (HeapOK x y z cs ∧ 0 ≤ s ∧ ∀ k, k < xs.length → 0 ≤ xs.getD k 0 ∧ xs.getD k 0 ≤ x * y - 1))) M := by
  refine calls_run K.impl_isTop rfl ?_
  simp (disch := omega) only [C.impl_isTop, ↓SXd, SXu, slBounds, ↓sop, ↓aop, ↓reduceIte, LV.cells, AOp.dst, LV.I, LV.B, LV.U, LV.S, LV.nil, Nat.reduceEqDiff, Nat.reduceAdd, Nat.reduceMul, Nat.reduceSub, Nat.reduceLeDiff, Nat.reduceBEq, Nat.reduceDiv, Nat.reduceMod, Int.reduceToNat, Int.reduceLT, Int.reduceLE, Int.reduceAdd, Int.reduceSub, Int.reduceMul, Int.reduceEq, Int.reduceNeg, reduceCtorEq, resV, resAll, ARes.ev, LV.flat, ite_true, ite_false, exists_eq_left', exists_eq_left, keyOf, implies_true, fillC, capOf]
  refine callK_of (g_IsHeap h.app hn) ?_
  by_cases hH : HeapOK x y z cs
  · have hb := mul_bound hH.1.1 hH.1.2.1
    by_cases hs : 0 ≤ s
    · simp (disch := omega) only [hH, hs, ↓SXd, SXu, slBounds, ↓sop, ↓aop, ↓reduceIte, LV.cells, AOp.dst, LV.I, LV.B, LV.U, LV.S, LV.nil, Nat.reduceEqDiff, Nat.reduceAdd, Nat.reduceMul, Nat.reduceSub, Nat.reduceLeDiff, Nat.reduceBEq, Nat.reduceDiv, Nat.reduceMod, Int.reduceToNat, Int.reduceLT, Int.reduceLE, Int.reduceAdd, Int.reduceSub, Int.reduceMul, Int.reduceEq, Int.reduceNeg, reduceCtorEq, resV, resAll, ARes.ev, LV.flat, ite_true, ite_false, exists_eq_left', exists_eq_left, keyOf, implies_true, fillC, capOf]
      refine callK_of (g_allWithin h'.app hn') ?_
      simp (disch := omega) only [↓SXd, SXu, slBounds, ↓sop, ↓aop, ↓reduceIte, LV.cells, AOp.dst, LV.I, LV.B, LV.U, LV.S, LV.nil, Nat.reduceEqDiff, Nat.reduceAdd, Nat.reduceMul, Nat.reduceSub, Nat.reduceLeDiff, Nat.reduceBEq, Nat.reduceDiv, Nat.reduceMod, Int.reduceToNat, Int.reduceLT, Int.reduceLE, Int.reduceAdd, Int.reduceSub, Int.reduceMul, Int.reduceEq, Int.reduceNeg, reduceCtorEq, resV, resAll, ARes.ev, LV.flat, ite_true, ite_false, exists_eq_left', exists_eq_left, keyOf, implies_true, fillC, capOf]
      exact cmp_drop rfl
    · simp (disch := omega) only [hH, hs, false_and, ↓SXd, SXu, slBounds, ↓sop, ↓aop, ↓reduceIte, LV.cells, AOp.dst, LV.I, LV.B, LV.U, LV.S, LV.nil, Nat.reduceEqDiff, Nat.reduceAdd, Nat.reduceMul, Nat.reduceSub, Nat.reduceLeDiff, Nat.reduceBEq, Nat.reduceDiv, Nat.reduceMod, Int.reduceToNat, Int.reduceLT, Int.reduceLE, Int.reduceAdd, Int.reduceSub, Int.reduceMul, Int.reduceEq, Int.reduceNeg, reduceCtorEq, resV, resAll, ARes.ev, LV.flat, ite_true, ite_false, exists_eq_left', exists_eq_left, keyOf, implies_true, fillC, capOf]
      exact cmp_drop rfl
  · simp (disch := omega) only [hH, false_and, ↓SXd, SXu, slBounds, ↓sop, ↓aop, ↓reduceIte, LV.cells, AOp.dst, LV.I, LV.B, LV.U, LV.S, LV.nil, Nat.reduceEqDiff, Nat.reduceAdd, Nat.reduceMul, Nat.reduceSub, Nat.reduceLeDiff, Nat.reduceBEq, Nat.reduceDiv, Nat.reduceMod, Int.reduceToNat, Int.reduceLT, Int.reduceLE, Int.reduceAdd, Int.reduceSub, Int.reduceMul, Int.reduceEq, Int.reduceNeg, reduceCtorEq, resV, resAll, ARes.ev, LV.flat, ite_true, ite_false, exists_eq_left', exists_eq_left, keyOf, implies_true, fillC, capOf]
    exact cmp_drop rfl

theorem g_isTop_nil {x y z s : Int} {t o : Nat} {cs : List Cell} {M : Mem} (h : Tri M t o cs) (hn : cs.length ≤ 1000000000) :
    CallsTo PG F.impl_isTop [.agg [.I x, .I y, .I z, .ref t o cs.length], .I s, .nil] M (.B (decide (HeapOK x y z cs ∧ 0 ≤ s))) M := by
  refine calls_run K.impl_isTop rfl ?_
  simp (disch := omega) only [C.impl_isTop, ↓SXd, SXu, slBounds, ↓sop, ↓aop, ↓reduceIte, LV.cells, AOp.dst, LV.I, LV.B, LV.U, LV.S, LV.nil, Nat.reduceEqDiff, Nat.reduceAdd, Nat.reduceMul, Nat.reduceSub, Nat.reduceLeDiff, Nat.reduceBEq, Nat.reduceDiv, Nat.reduceMod, Int.reduceToNat, Int.reduceLT, Int.reduceLE, Int.reduceAdd, Int.reduceSub, Int.reduceMul, Int.reduceEq, Int.reduceNeg, reduceCtorEq, resV, resAll, ARes.ev, LV.flat, ite_true, ite_false, exists_eq_left', exists_eq_left, keyOf, implies_true, fillC, capOf]
  refine callK_of (g_IsHeap h.app hn) ?_
  by_cases hH : HeapOK x y z cs
  · have hb := mul_bound hH.1.1 hH.1.2.1
    by_cases hs : 0 ≤ s
    · simp (disch := omega) only [hH, hs, ↓SXd, SXu, slBounds, ↓sop, ↓aop, ↓reduceIte, LV.cells, AOp.dst, LV.I, LV.B, LV.U, LV.S, LV.nil, Nat.reduceEqDiff, Nat.reduceAdd, Nat.reduceMul, Nat.reduceSub, Nat.reduceLeDiff, Nat.reduceBEq, Nat.reduceDiv, Nat.reduceMod, Int.reduceToNat, Int.reduceLT, Int.reduceLE, Int.reduceAdd, Int.reduceSub, Int.reduceMul, Int.reduceEq, Int.reduceNeg, reduceCtorEq, resV, resAll, ARes.ev, LV.flat, ite_true, ite_false, exists_eq_left', exists_eq_left, keyOf, implies_true, fillC, capOf]
      refine callK_of g_allWithin_nil ?_
      simp (disch := omega) only [↓SXd, SXu, slBounds, ↓sop, ↓aop, ↓reduceIte, LV.cells, AOp.dst, LV.I, LV.B, LV.U, LV.S, LV.nil, Nat.reduceEqDiff, Nat.reduceAdd, Nat.reduceMul, Nat.reduceSub, Nat.reduceLeDiff, Nat.reduceBEq, Nat.reduceDiv, Nat.reduceMod, Int.reduceToNat, Int.reduceLT, Int.reduceLE, Int.reduceAdd, Int.reduceSub, Int.reduceMul, Int.reduceEq, Int.reduceNeg, reduceCtorEq, resV, resAll, ARes.ev, LV.flat, ite_true, ite_false, exists_eq_left', exists_eq_left, keyOf, implies_true, fillC, capOf]
      exact cmp_drop rfl
    · simp (disch := omega) only [hH, hs, false_and, ↓SXd, SXu, slBounds, ↓sop, ↓aop, ↓reduceIte, LV.cells, AOp.dst, LV.I, LV.B, LV.U, LV.S, LV.nil, Nat.reduceEqDiff, Nat.reduceAdd, Nat.reduceMul, Nat.reduceSub, Nat.reduceLeDiff, Nat.reduceBEq, Nat.reduceDiv, Nat.reduceMod, Int.reduceToNat, Int.reduceLT, Int.reduceLE, Int.reduceAdd, Int.reduceSub, Int.reduceMul, Int.reduceEq, Int.reduceNeg, reduceCtorEq, resV, resAll, ARes.ev, LV.flat, ite_true, ite_false, exists_eq_left', exists_eq_left, keyOf, implies_true, fillC, capOf]
      exact cmp_drop rfl
  · simp (disch := omega) only [hH, false_and, ↓SXd, SXu, slBounds, ↓sop, ↓aop, ↓reduceIte, LV.cells, AOp.dst, LV.I, LV.B, LV.U, LV.S, LV.nil, Nat.reduceEqDiff, Nat.reduceAdd, Nat.reduceMul, Nat.reduceSub, Nat.reduceLeDiff, Nat.reduceBEq, Nat.reduceDiv, Nat.reduceMod, Int.reduceToNat, Int.reduceLT, Int.reduceLE, Int.reduceAdd, Int.reduceSub, Int.reduceMul, Int.reduceEq, Int.reduceNeg, reduceCtorEq, resV, resAll, ARes.ev, LV.flat, ite_true, ite_false, exists_eq_left', exists_eq_left, keyOf, implies_true, fillC, capOf]
    exact cmp_drop rfl
end Go.Ab

/- What follows may be weakened; ways that meet again. -/
namespace Go.Ab
open Go
section
variable {P : Program}

theorem evg_mono {g : GOp} {fr : Fr} {M : Mem} {K K' : Fr → Mem → Prop} (h : ∀ fr M, K fr M → K' fr M) (he : EvG P g fr M K) : EvG P g fr M K' :=
  evg_congr (fun _ _ => rfl) (fun _ _ hk => h _ _ hk) he

theorem evops_mono : ∀ {l : List GOp} {fr : Fr} {M : Mem} {K K' : Fr → Mem → Prop}, (∀ fr M, K fr M → K' fr M) → EvOps P l fr M K → EvOps P l fr M K'
  | [], _, _, _, _, h, he => h _ _ he
  | _ :: _, _, _, _, _, h, he => evg_mono (fun _ _ hk => evops_mono h hk) he

theorem evd_mono : ∀ {l : List DOp} {fr : Fr} {M : Mem} {lg : List (Option Nat)} {K K' : Fr → Mem → Prop}, (∀ fr M, K fr M → K' fr M) → EvD P l fr M lg K → EvD P l fr M lg K'
  | [], _, _, _, _, _, h, he => h _ _ he
  | d :: r, fr, M, lg, K, K', h, he => by
    simp only [EvD] at he ⊢
    split
    · rename_i h0
      rw [if_pos h0] at he
      exact evg_mono (fun _ _ hk => evd_mono h hk) he
    · rename_i h0
      rw [if_neg h0] at he
      split
      · rename_i h1
        rw [if_pos h1] at he
        exact evg_mono (fun _ _ hk => evd_mono h hk) he
      · rename_i h1
        rw [if_neg h1] at he
        exact evg_mono (fun _ _ hk => ⟨hk.1, evd_mono h hk.2⟩) he

theorem evc_mono : ∀ {c : ACode} {fr : Fr} {M : Mem} {Q Q' : AExit → Fr → Mem → Prop}, (∀ e fr M, Q e fr M → Q' e fr M) → EvC P c fr M Q → EvC P c fr M Q' := by
  intro c
  induction c with
  | skip => intro fr M Q Q' h he; exact h _ _ _ he
  | ops l => intro fr M Q Q' h he; exact evops_mono (h .normal) he
  | draw l => intro fr M Q Q' h he; exact evd_mono (h .normal) he
  | seq a b iha ihb =>
    intro fr M Q Q' h he
    simp only [EvC] at he ⊢
    refine iha (fun e fr M hh => ?_) he
    cases e with
    | normal => exact ihb h hh
    | exit i => exact h _ _ _ hh
    | ret => exact h _ _ _ hh
  | cond c a b iha ihb =>
    intro fr M Q Q' h he
    simp only [EvC] at he ⊢
    split
    · rename_i t ht
      rw [ht] at he
      exact ⟨fun e => iha h (he.1 e), fun e => ihb h (he.2 e)⟩
    · rename_i hne
      split at he
      · rename_i t ht; exact absurd ht (hne t)
      · exact he
  | block id a ih =>
    intro fr M Q Q' h he
    simp only [EvC] at he ⊢
    refine ih (fun e fr M hh => ?_) he
    cases e with
    | normal => exact h _ _ _ hh
    | exit i =>
      simp only [blockK] at hh ⊢
      split
      · rename_i hi; rw [if_pos hi] at hh; exact h _ _ _ hh
      · rename_i hi; rw [if_neg hi] at hh; exact h _ _ _ hh
    | ret => exact h _ _ _ hh
  | loop a ih =>
    intro fr M Q Q' h he
    simp only [EvC] at he ⊢
    obtain ⟨I, m, h0, hr⟩ := he
    refine ⟨I, m, h0, fun m fr M hI => ih (fun e fr M hh => ?_) (hr m fr M hI)⟩
    cases e with
    | normal => exact hh
    | exit i => exact h _ _ _ hh
    | ret => exact h _ _ _ hh
  | exit id => intro fr M Q Q' h he; exact h _ _ _ he
  | ret => intro fr M Q Q' h he; exact h _ _ _ he
  | bad => intro fr M Q Q' h he; exact he

def joinK (J : Fr → Mem → Prop) : Fr → Mem → Prop := fun fr M => J fr M

/-- Both ways of a branch come to J, and what follows goes on from there. -/
theorem condC_cut {v : LV} {a b rest : ACode} {fr : Fr} {M : Mem} {Q : AExit → Fr → Mem → Prop} (J : Fr → Mem → Prop) (h1 : condC v P a b fr M (thenK (joinK J) Q)) (h2 : ∀ fr M, J fr M → EvC P rest fr M Q) : condC v P a b fr M (seqK P rest Q) := by
  unfold condC condV condB at *
  split at h1
  · have hm : ∀ e fr M, thenK (joinK J) Q e fr M → seqK P rest Q e fr M := fun e fr M hh => by
      cases e with
      | normal => exact h2 _ _ hh
      | exit i => exact hh
      | ret => exact hh
    exact ⟨fun e => evc_mono hm (h1.1 e), fun e => evc_mono hm (h1.2 e)⟩
  · exact h1.elim

end

theorem rn1_idf (v : LV) : rn1 (fun t => t) v = v := by
  cases v <;> simp [rn1]
theorem rn0_idf (v : LV) : rn0 (fun t => t) v = v := by
  cases v <;> simp only [rn0] <;> try (exact rn1_idf _)
  case agg cs => congr 1; conv => rhs; rw [← List.map_id cs]
                 exact List.map_congr_left fun c _ => rn1_idf c
theorem rn_idf (v : LV) : rn (fun t => t) v = v := by
  cases v <;> simp only [rn] <;> try (exact rn0_idf _)
  case tup cs => congr 1; conv => rhs; rw [← List.map_id cs]
                 exact List.map_congr_left fun c _ => rn0_idf c
theorem rnB_idf (b : Blk) : rnB (fun t => t) b = b := by
  cases b with
  | row cs w e =>
    simp only [rnB]
    congr 1
    conv => rhs; rw [← List.map_id cs]
    exact List.map_congr_left fun c _ => rn1_idf c
  | map es =>
    simp only [rnB]
    congr 1
    conv => rhs; rw [← List.map_id es]
    exact List.map_congr_left fun c _ => by simp [rn0_idf, rn1_idf]

/-- At a function's end: nothing is let go; what has changed is own. -/
theorem cmp_same {M N : Mem} {v : LV} (hl : M.length ≤ N.length) (h : ∀ t blk, Live N t blk → Live M t blk ∨ blk.isOwn = true) : Cmp M N v N v := by
  refine ⟨⟨fun t => t, fun _ _ => rfl, fun t ht => ht, fun t blk hb => ?_, fun _ _ _ _ _ _ e => e, rn_idf v⟩, hl⟩
  rcases h t blk hb with h1 | h1
  · exact .inl ⟨hb, h1⟩
  · exact .inr ⟨by rw [rnB_idf]; exact hb, h1⟩
theorem cmp_set {M : Mem} {t : Nat} {cs : List LV} {e : Nat} {v : LV} : Cmp M (M.set t (some (.row cs true e))) v (M.set t (some (.row cs true e))) v :=
  cmp_same (by simp) fun u blk h => by
    rcases live_set h with ⟨_, h1, _⟩ | ⟨_, h1⟩
    · cases h1; exact .inr rfl
    · exact .inl h1
end Go.Ab

/- Plain words: how far columns are, step by step. -/
namespace Go.Ab

theorem nexts_mem {x y p q : Int} (h : q ∈ nexts x y p) : 0 ≤ q ∧ q < x * y := by
  unfold nexts at h
  rw [List.mem_filter] at h
  obtain ⟨k, hk, rfl⟩ := List.mem_map.1 h.1
  rw [List.mem_range] at hk
  simp only [Int.ofNat_eq_natCast]
  omega
theorem stepsOf_mem {x y p q s : Int} {ts : List Int} (h : q ∈ stepsOf x y ts p s) : 0 ≤ q ∧ q < x * y := nexts_mem (List.mem_filter.1 h).1
theorem nexts_len {x y p : Int} (h : x * y ≤ 16) : (nexts x y p).length ≤ 16 := by
  have := List.length_filter_le (fun q => decide (apart (colOf y p) (colOf y q) = 1)) (nums (x * y).toNat)
  rw [nums_len] at this
  unfold nexts
  omega
theorem stepsOf_len {x y p s : Int} {ts : List Int} (h : x * y ≤ 16) : (stepsOf x y ts p s).length ≤ 16 := Nat.le_trans (List.length_filter_le ..) (nexts_len h)
theorem getD_mem {α : Type} {l : List α} {k : Nat} {d : α} (h : k < l.length) : l.getD k d ∈ l := by
  simp [h]

/-- One neighbour of column p is looked at. -/
def visit (p : Int) (st : List Int × List Int) (q : Int) : List Int × List Int :=
  if st.1.getD q.toNat 0 < 0 then (st.1.set q.toNat (st.1.getD p.toNat 0 + 1), st.2 ++ [q]) else st
def bfs (N : Int → List Int) : Nat → Nat → List Int × List Int → List Int
  | 0, _, st => st.1
  | f + 1, n, st => if n < st.2.length then bfs N f (n + 1) ((N (st.2.getD n 0)).foldl (visit (st.2.getD n 0)) st) else st.1
/-- How many steps lead from column p to each column, or -1. -/
def farFrom (c : Nat) (N : Int → List Int) (p : Int) : List Int := bfs N c 0 ((List.replicate c (-1)).set p.toNat 0, [p])

structure BInv (c : Nat) (st : List Int × List Int) : Prop where
  len : st.1.length = c
  cnt : st.1.countP (fun v => decide (v < 0)) + st.2.length = c
  mem : ∀ q ∈ st.2, 0 ≤ q ∧ q < (c : Int)
  val : ∀ k, k < c → -1 ≤ st.1.getD k 0 ∧ st.1.getD k 0 ≤ (st.2.length : Int)

theorem BInv.le {c : Nat} {st : List Int × List Int} (h : BInv c st) : st.2.length ≤ c := by have := h.cnt; omega

theorem BInv.visit {c : Nat} {st : List Int × List Int} {p q : Int} (h : BInv c st) (hp : 0 ≤ p ∧ p < c) (hq : 0 ≤ q ∧ q < c) : BInv c (Go.Ab.visit p st q) := by
  unfold Go.Ab.visit
  split
  · rename_i hlt
    have hql : q.toNat < st.1.length := by rw [h.len]; omega
    have hvp := h.val p.toNat (by omega)
    refine ⟨by simpa using h.len, ?_, fun r hr => ?_, fun k hk => ?_⟩
    · have h1 := h.cnt
      simp only [List.length_append, List.length_singleton]
      rw [List.countP_set hql]
      have e : st.1[q.toNat] = st.1.getD q.toNat 0 := by simp [hql]
      have h2 : 0 < st.1.countP (fun v => decide (v < 0)) := List.countP_pos_iff.2 ⟨st.1[q.toNat], List.getElem_mem _, by rw [e]; simpa using hlt⟩
      rw [e]
      simp only [hlt, decide_true, if_true, show decide (st.1.getD p.toNat 0 + 1 < 0) = false from decide_eq_false (by omega), Bool.false_eq_true, if_false]
      omega
    · rcases List.mem_append.1 hr with hr | hr
      · exact h.mem r hr
      · rw [List.mem_singleton.1 hr]; exact hq
    · simp only [List.length_append, List.length_singleton]
      rw [getD_set]
      have := h.val k hk
      split <;> omega
  · exact h

theorem visit_keep {p q : Int} {st : List Int × List Int} {n : Nat} (h : n < st.2.length) : n < (Go.Ab.visit p st q).2.length ∧ (Go.Ab.visit p st q).2.getD n 0 = st.2.getD n 0 := by
  unfold Go.Ab.visit
  split
  · simp only [List.length_append, List.length_singleton, List.getD_eq_getElem?_getD]
    rw [List.getElem?_append_left h]
    exact ⟨by omega, rfl⟩
  · exact ⟨h, rfl⟩
theorem BInv.fold {c : Nat} {p : Int} (hp : 0 ≤ p ∧ p < c) : ∀ (l : List Int) (st : List Int × List Int), BInv c st → (∀ q ∈ l, 0 ≤ q ∧ q < (c : Int)) → BInv c (l.foldl (Go.Ab.visit p) st)
  | [], st, h, _ => h
  | q :: l, st, h, hl => BInv.fold hp l _ (h.visit hp (hl q (by simp))) fun r hr => hl r (by simp [hr])

theorem BInv.start {c : Nat} {p : Int} (hp : 0 ≤ p ∧ p < c) : BInv c ((List.replicate c (-1)).set p.toNat 0, [p]) := by
  refine ⟨by simp, ?_, fun q hq => by rw [List.mem_singleton.1 hq]; exact hp, fun k hk => ?_⟩
  · have hl : p.toNat < (List.replicate c (-1 : Int)).length := by simp; omega
    simp only
    rw [List.countP_set hl, List.countP_replicate]
    simp
    omega
  · simp only [getD_set]
    split
    · simp
    · simp [hk]

theorem farFrom_len {c : Nat} {N : Int → List Int} (hN : ∀ p q, q ∈ N p → 0 ≤ q ∧ q < (c : Int)) {p : Int} (hp : 0 ≤ p ∧ p < c) : (farFrom c N p).length = c ∧ ∀ k, k < c → -1 ≤ (farFrom c N p).getD k 0 ∧ (farFrom c N p).getD k 0 ≤ c := by
  have key : ∀ f n st, BInv c st → (bfs N f n st).length = c ∧ ∀ k, k < c → -1 ≤ (bfs N f n st).getD k 0 ∧ (bfs N f n st).getD k 0 ≤ c := by
    intro f
    induction f with
    | zero => intro n st h; exact ⟨h.len, fun k hk => by have := h.val k hk; have := h.le; simp only [bfs]; omega⟩
    | succ f ih =>
      intro n st h
      simp only [bfs]
      split
      · rename_i hn
        have hm := h.mem _ (getD_mem (d := 0) hn)
        exact ih _ _ (h.fold hm _ _ fun q hq => hN _ _ hq)
      · exact ⟨h.len, fun k hk => by have := h.val k hk; have := h.le; omega⟩
  exact key _ _ _ (BInv.start hp)
end Go.Ab

/- Plain words: regions. -/
namespace Go.Ab

theorem visit_nonneg {p q : Int} {st : List Int × List Int} {k : Nat} (hp : -1 ≤ st.1.getD p.toNat 0) (h : 0 ≤ st.1.getD k 0) : 0 ≤ (visit p st q).1.getD k 0 := by
  unfold visit
  split
  · simp only [getD_set]
    split <;> omega
  · exact h

theorem bfs_nonneg {c : Nat} {N : Int → List Int} (hN : ∀ p q, q ∈ N p → 0 ≤ q ∧ q < (c : Int)) {k : Nat} : ∀ f n st, BInv c st → 0 ≤ st.1.getD k 0 → 0 ≤ (bfs N f n st).getD k 0 := by
  intro f
  induction f with
  | zero => intro n st _ h; exact h
  | succ f ih =>
    intro n st hi h
    simp only [bfs]
    split
    · rename_i hn
      have hm := hi.mem _ (getD_mem (d := 0) hn)
      have hb := BInv.fold hm (N (st.2.getD n 0)) st hi (fun q hq => hN _ q hq)
      refine ih _ _ hb ?_
      have key : ∀ (l : List Int) (st : List Int × List Int), BInv c st → (∀ q ∈ l, 0 ≤ q ∧ q < (c : Int)) → 0 ≤ st.1.getD k 0 → ∀ p : Int, 0 ≤ p ∧ p < (c : Int) → 0 ≤ (l.foldl (visit p) st).1.getD k 0 := by
        intro l
        induction l with
        | nil => intro st _ _ h p _; exact h
        | cons q l ih => intro st hi hl h p hp; exact ih _ (hi.visit hp (hl q (by simp))) (fun r hr => hl r (by simp [hr])) (visit_nonneg (hi.val p.toNat (by omega)).1 h) p hp
      exact key _ _ hi (fun q hq => hN _ q hq) h _ hm
    · exact h

theorem farFrom_self {c : Nat} {N : Int → List Int} (hN : ∀ p q, q ∈ N p → 0 ≤ q ∧ q < (c : Int)) {p : Int} (hp : 0 ≤ p ∧ p < c) : 0 ≤ (farFrom c N p).getD p.toNat 0 := by
  refine bfs_nonneg hN _ _ _ (BInv.start hp) ?_
  simp only [getD_set, List.length_replicate]
  rw [if_pos ⟨by trivial, by omega⟩]
  exact Int.le_refl 0

def spreadOf (x y : Int) (cs : List Cell) (p s : Int) : List Int := farFrom (x * y).toNat (fun q => stepsOf x y (topsOf x y cs) q s) p
theorem steps_in {x y s : Int} {ts : List Int} : ∀ p q, q ∈ stepsOf x y ts p s → 0 ≤ q ∧ q < (((x * y).toNat : Nat) : Int) := fun p q h => by have := stepsOf_mem h; omega
theorem spreadOf_len {x y : Int} {cs : List Cell} {p s : Int} (hp : 0 ≤ p ∧ p ≤ x * y - 1) : (spreadOf x y cs p s).length = (x * y).toNat := (farFrom_len steps_in (by omega)).1
theorem spreadOf_val {x y : Int} {cs : List Cell} {p s : Int} (hp : 0 ≤ p ∧ p ≤ x * y - 1) {k : Nat} (hk : k < (x * y).toNat) : -1 ≤ (spreadOf x y cs p s).getD k 0 ∧ (spreadOf x y cs p s).getD k 0 ≤ (x * y).toNat := (farFrom_len steps_in (by omega)).2 k hk
def regionOf (x y : Int) (cs : List Cell) (p s : Int) : List Int := (nums (x * y).toNat).filter fun q => decide (0 ≤ (spreadOf x y cs p s).getD q.toNat 0)
theorem regionOf_self {x y : Int} {cs : List Cell} {p s : Int} (hp : 0 ≤ p ∧ p ≤ x * y - 1) : p ∈ regionOf x y cs p s := by
  unfold regionOf
  rw [List.mem_filter]
  refine ⟨List.mem_map.2 ⟨p.toNat, List.mem_range.2 (by omega), by simp only [Int.ofNat_eq_natCast]; omega⟩, ?_⟩
  exact decide_eq_true (farFrom_self (c := (x * y).toNat) steps_in (by omega))
theorem regionOf_len {x y : Int} {cs : List Cell} {p s : Int} (hb : x * y ≤ 16) : (regionOf x y cs p s).length ≤ 16 := by
  have := List.length_filter_le (fun q => decide (0 ≤ (spreadOf x y cs p s).getD q.toNat 0)) (nums (x * y).toNat)
  rw [nums_len] at this
  unfold regionOf
  omega
def countRegions (x y : Int) (cs : List Cell) (s : Int) : Int := ((nums (x * y).toNat).filter fun p => decide ((regionOf x y cs p s).getD 0 0 = p)).length
end Go.Ab

/- Plain words: the neighbours of a column, the program's way; they are those of the reference. -/
namespace Go.Ab

def nearL (y c p : Int) : List Int :=
  (if y ≤ p then [p - y] else []) ++ ((if 0 < p.tmod y then [p - 1] else []) ++ ((if p.tmod y < y - 1 then [p + 1] else []) ++ (if p + y < c then [p + y] else [])))

theorem near_all : ∀ x : Fin 4, ∀ y : Fin 4, ∀ p : Fin 16, (p.val : Int) < ((x.val : Int) + 1) * ((y.val : Int) + 1) →
    nearL ((y.val : Int) + 1) (((x.val : Int) + 1) * ((y.val : Int) + 1)) p.val = nexts ((x.val : Int) + 1) ((y.val : Int) + 1) p.val := by decide

theorem near_eq {x y p : Int} (hx : 1 ≤ x ∧ x ≤ 4) (hy : 1 ≤ y ∧ y ≤ 4) (hp : 0 ≤ p ∧ p < x * y) : nearL y (x * y) p = nexts x y p := by
  have hb := mul_bound hx hy
  have := near_all ⟨(x - 1).toNat, by omega⟩ ⟨(y - 1).toNat, by omega⟩ ⟨p.toNat, by omega⟩
  have e1 : (((x - 1).toNat : Nat) : Int) + 1 = x := by omega
  have e2 : (((y - 1).toNat : Nat) : Int) + 1 = y := by omega
  have e3 : ((p.toNat : Nat) : Int) = p := by omega
  simp only [e1, e2, e3] at this
  exact this hp.2
end Go.Ab
