/- Parts of the proof of FnExactFillCavitiesSaid: C_Nc K_Nc C_Nb K_Nb C_Ea K_Ea Ea Nb Nd Nc Pb C_Od K_Od C_Ob K_Ob. -/
import Derived.Test.YtjndofbhdogblaaA3
import Derived.Test.YtjndofbhdogblaaA4
import Derived.Test.YtjndofbhdogblaaProg
import Derived.KernelRfl
import Derived.Test.YtjndofbhdogblaaA5
set_option linter.all false
/- The abstract code of some functions (written by a program of mine from the translation, by way of prepF). -/
namespace Go.Ab.C
open Go.Ab
def impl_box_near : AFn :=
  ⟨2, 36, [.tmp 4],
    .seq (.ops [(none, .box 2 (.t 0)),
       (none, .box 3 (.t 1)),
       (none, .mv 4 (.c (.U 0)))])
    (.seq (.ops [(none, .mv 5 (.c (.U 0)))])
     (.seq (.seq (.ops [(none, .mv 10 (.c (.I 0)))])
       (.block 0 (.loop (.seq (.ops [(none, .bin 11 .lss (.t 10) (.c (.I 3)))])
          (.seq (.cond (.t 11) (.skip)
            (.exit 0))
           (.seq (.block 1 (.seq (.ops [(none, .mv 12 (.t 10)),
                 (none, .mv 6 (.t 12))])
              (.seq (.ops [(none, .build 13 [(.I 0), (.I 0)] [(0, 1, (.c (.I (-1)))), (1, 1, (.c (.I 1)))]),
                  (none, .mv 14 (.c (.I 0)))])
               (.block 2 (.loop (.seq (.ops [(none, .bin 15 .lss (.t 14) (.c (.I 2)))])
                  (.seq (.cond (.t 15) (.skip)
                    (.exit 2))
                   (.seq (.block 3 (.seq (.ops [(none, .index 16 2 1 false (.t 13) (.t 14)),
                         (none, .mv 8 (.t 16))])
                      (.seq (.ops [(none, .loadN 17 3 (.t 3)),
                          (none, .alloc 9 [(.I 0), (.I 0), (.I 0)]),
                          (none, .store 3 (.t 9) (.t 17))])
                       (.seq (.ops [(none, .mv 18 (.t 6)),
                           (none, .idxA 19 3 1 (.t 9) (.t 18)),
                           (none, .load1 20 (.t 19)),
                           (none, .mv 21 (.t 8)),
                           (none, .bin 22 .add (.t 20) (.t 21)),
                           (none, .idxA 23 3 1 (.t 9) (.t 18)),
                           (none, .store 1 (.t 23) (.t 22))])
                        (.seq (.ops [(none, .loadN 24 3 (.t 2)),
                            (none, .loadN 25 3 (.t 9)),
                            (none, .call (some 26) F.impl_box_has [(.t 24), (.t 25)])])
                         (.cond (.t 26) (.ops [(none, .mv 27 (.t 5)),
                             (none, .loadN 28 3 (.t 2)),
                             (none, .loadN 29 3 (.t 9)),
                             (none, .call (some 30) F.impl_box_index [(.t 28), (.t 29)]),
                             (none, .bin 31 .shl (.c (.U 1)) (.t 30)),
                             (none, .bin 32 .or (.t 27) (.t 31)),
                             (none, .mv 5 (.t 32))])
                          (.skip)))))))
                    (.ops [(none, .bin 33 .add (.t 14) (.c (.I 1))),
                       (none, .mv 14 (.t 33))])))))))))
            (.ops [(none, .bin 34 .add (.t 10) (.c (.I 1))),
               (none, .mv 10 (.t 34))])))))))
      (.seq (.ops [(none, .mv 35 (.t 5)),
          (none, .mv 4 (.t 35))])
       (.ret))))⟩
def impl_box_grown : AFn :=
  ⟨3, 33, [.tmp 6],
    .seq (.ops [(none, .box 3 (.t 0)),
       (none, .mv 6 (.c (.U 0)))])
    (.block 0 (.loop (.block 1 (.seq (.ops [(none, .mv 9 (.t 1)),
           (none, .mv 7 (.t 9))])
        (.seq (.seq (.ops [(none, .loadN 10 3 (.t 3)),
             (none, .call (some 11) F.impl_box_size [(.t 10)]),
             (none, .mv 12 (.c (.I 0)))])
          (.block 2 (.loop (.seq (.ops [(none, .bin 13 .lss (.t 12) (.t 11))])
             (.seq (.cond (.t 13) (.skip)
               (.exit 2))
              (.seq (.block 3 (.seq (.ops [(none, .mv 14 (.t 12)),
                    (none, .mv 8 (.t 14))])
                 (.seq (.ops [(none, .mv 15 (.t 1)),
                     (none, .mv 16 (.t 8)),
                     (none, .call (some 17) F.impl_set_has [(.t 15), (.t 16)])])
                  (.cond (.t 17) (.draw [⟨(none, .mv 18 (.t 7)), [], []⟩,
                      ⟨(none, .loadN 19 3 (.t 3)), [], []⟩,
                      ⟨(none, .loadN 20 3 (.t 3)), [], []⟩,
                      ⟨(none, .mv 21 (.t 8)), [], []⟩,
                      ⟨(none, .mv 24 (.t 2)), [], []⟩,
                      ⟨(none, .call (some 22) F.impl_box_cell [(.t 20), (.t 21)]), [], [0, 1, 4]⟩,
                      ⟨(none, .call (some 23) F.impl_box_near [(.t 19), (.t 22)]), [], [0, 4]⟩,
                      ⟨(none, .bin 25 .and (.t 23) (.t 24)), [], []⟩,
                      ⟨(none, .bin 26 .or (.t 18) (.t 25)), [], []⟩,
                      ⟨(none, .mv 7 (.t 26)), [], []⟩])
                   (.skip)))))
               (.ops [(none, .bin 27 .add (.t 12) (.c (.I 1))),
                  (none, .mv 12 (.t 27))])))))))
         (.seq (.seq (.ops [(none, .mv 28 (.t 7)),
              (none, .mv 29 (.t 1)),
              (none, .bin 30 .eql (.t 28) (.t 29))])
           (.cond (.t 30) (.seq (.ops [(none, .mv 31 (.t 1)),
                (none, .mv 6 (.t 31))])
             (.ret))
            (.skip)))
          (.ops [(none, .mv 32 (.t 7)),
             (none, .mv 1 (.t 32))])))))))⟩
end Go.Ab.C

/- That the program has this code. -/
namespace Go.Ab.K
open Go Go.Ab
theorem impl_box_near : prepF Go.Proofs.Try.prog F.impl_box_near = some C.impl_box_near := by kernel_rfl
theorem impl_box_grown : prepF Go.Proofs.Try.prog F.impl_box_grown = some C.impl_box_grown := by kernel_rfl
end Go.Ab.K

/- The abstract code of some functions (written by a program of mine from the translation, by way of prepF). -/
namespace Go.Ab.C
open Go.Ab
def impl_box_size : AFn :=
  ⟨1, 11, [.tmp 2],
    .seq (.ops [(none, .box 1 (.t 0)),
       (none, .mv 2 (.c (.I 0)))])
    (.seq (.ops [(none, .idxA 3 3 1 (.t 1) (.c (.I 0))),
        (none, .load1 4 (.t 3)),
        (none, .idxA 5 3 1 (.t 1) (.c (.I 1))),
        (none, .load1 6 (.t 5)),
        (none, .bin 7 .mul (.t 4) (.t 6)),
        (none, .idxA 8 3 1 (.t 1) (.c (.I 2))),
        (none, .load1 9 (.t 8)),
        (none, .bin 10 .mul (.t 7) (.t 9)),
        (none, .mv 2 (.t 10))])
     (.ret))⟩
def impl_box_index : AFn :=
  ⟨2, 19, [.tmp 4],
    .seq (.ops [(none, .box 2 (.t 0)),
       (none, .box 3 (.t 1)),
       (none, .mv 4 (.c (.I 0)))])
    (.seq (.ops [(none, .idxA 5 3 1 (.t 3) (.c (.I 0))),
        (none, .load1 6 (.t 5)),
        (none, .idxA 7 3 1 (.t 2) (.c (.I 1))),
        (none, .load1 8 (.t 7)),
        (none, .bin 9 .mul (.t 6) (.t 8)),
        (none, .idxA 10 3 1 (.t 3) (.c (.I 1))),
        (none, .load1 11 (.t 10)),
        (none, .bin 12 .add (.t 9) (.t 11)),
        (none, .idxA 13 3 1 (.t 2) (.c (.I 2))),
        (none, .load1 14 (.t 13)),
        (none, .bin 15 .mul (.t 12) (.t 14)),
        (none, .idxA 16 3 1 (.t 3) (.c (.I 2))),
        (none, .load1 17 (.t 16)),
        (none, .bin 18 .add (.t 15) (.t 17)),
        (none, .mv 4 (.t 18))])
     (.ret))⟩
def impl_box_cell : AFn :=
  ⟨2, 24, [.cellN 4 3],
    .seq (.ops [(none, .box 2 (.t 0)),
       (none, .alloc 4 [(.I 0), (.I 0), (.I 0)])])
    (.seq (.draw [⟨(none, .mv 5 (.t 1)), [], []⟩,
        ⟨(none, .idxA 6 3 1 (.t 2) (.c (.I 2))), [], []⟩,
        ⟨(none, .load1 7 (.t 6)), [], []⟩,
        ⟨(none, .bin 8 .quo (.t 5) (.t 7)), [], []⟩,
        ⟨(none, .idxA 9 3 1 (.t 2) (.c (.I 1))), [], []⟩,
        ⟨(none, .load1 10 (.t 9)), [], []⟩,
        ⟨(none, .bin 11 .quo (.t 8) (.t 10)), [], []⟩,
        ⟨(none, .mv 12 (.t 1)), [], []⟩,
        ⟨(none, .idxA 13 3 1 (.t 2) (.c (.I 2))), [], []⟩,
        ⟨(none, .load1 14 (.t 13)), [], []⟩,
        ⟨(none, .bin 15 .quo (.t 12) (.t 14)), [], []⟩,
        ⟨(none, .idxA 16 3 1 (.t 2) (.c (.I 1))), [], []⟩,
        ⟨(none, .load1 17 (.t 16)), [], []⟩,
        ⟨(none, .bin 18 .rem (.t 15) (.t 17)), [], []⟩,
        ⟨(none, .mv 19 (.t 1)), [], []⟩,
        ⟨(none, .idxA 20 3 1 (.t 2) (.c (.I 2))), [], []⟩,
        ⟨(none, .load1 21 (.t 20)), [], []⟩,
        ⟨(none, .bin 22 .rem (.t 19) (.t 21)), [], []⟩,
        ⟨(none, .build 23 [(.I 0), (.I 0), (.I 0)] [(0, 1, (.t 11)), (1, 1, (.t 18)), (2, 1, (.t 22))]), [], []⟩,
        ⟨(none, .store 3 (.t 4) (.t 23)), [], []⟩])
     (.ret))⟩
def impl_set_has : AFn :=
  ⟨2, 10, [.tmp 4],
    .seq (.ops [(none, .mv 4 (.c (.B false)))])
    (.seq (.ops [(none, .mv 5 (.t 0)),
        (none, .mv 6 (.t 1)),
        (none, .bin 7 .shr (.t 5) (.t 6)),
        (none, .bin 8 .and (.t 7) (.c (.U 1))),
        (none, .bin 9 .eql (.t 8) (.c (.U 1))),
        (none, .mv 4 (.t 9))])
     (.ret))⟩
def impl_box_full : AFn :=
  ⟨1, 7, [.tmp 2],
    .seq (.ops [(none, .box 1 (.t 0)),
       (none, .mv 2 (.c (.U 0)))])
    (.seq (.ops [(none, .loadN 3 3 (.t 1)),
        (none, .call (some 4) F.impl_box_size [(.t 3)]),
        (none, .bin 5 .shl (.c (.U 1)) (.t 4)),
        (none, .bin 6 .sub (.t 5) (.c (.U 1))),
        (none, .mv 2 (.t 6))])
     (.ret))⟩
def impl_box_list : AFn :=
  ⟨2, 24, [.tmp 4],
    .seq (.ops [(none, .box 2 (.t 0)),
       (none, .mv 4 (.c .nil))])
    (.seq (.ops [(none, .buildSl 7 0 3 [] []),
        (none, .mv 5 (.t 7))])
     (.seq (.seq (.ops [(none, .loadN 8 3 (.t 2)),
          (none, .call (some 9) F.impl_box_size [(.t 8)]),
          (none, .mv 10 (.c (.I 0)))])
       (.block 0 (.loop (.seq (.ops [(none, .bin 11 .lss (.t 10) (.t 9))])
          (.seq (.cond (.t 11) (.skip)
            (.exit 0))
           (.seq (.block 1 (.seq (.ops [(none, .mv 12 (.t 10)),
                 (none, .mv 6 (.t 12))])
              (.seq (.ops [(none, .mv 13 (.t 1)),
                  (none, .mv 14 (.t 6)),
                  (none, .call (some 15) F.impl_set_has [(.t 13), (.t 14)])])
               (.cond (.t 15) (.ops [(none, .mv 16 (.t 5)),
                   (none, .loadN 17 3 (.t 2)),
                   (none, .mv 18 (.t 6)),
                   (none, .call (some 19) F.impl_box_cell [(.t 17), (.t 18)]),
                   (none, .buildSl 20 1 3 [(.I 0), (.I 0), (.I 0)] [(0, 3, (.t 19))]),
                   (none, .append 21 3 24 (.t 16) (.t 20)),
                   (none, .mv 5 (.t 21))])
                (.skip)))))
            (.ops [(none, .bin 22 .add (.t 10) (.c (.I 1))),
               (none, .mv 10 (.t 22))])))))))
      (.seq (.ops [(none, .mv 23 (.t 5)),
          (none, .mv 4 (.t 23))])
       (.ret))))⟩
def impl_box_heap : AFn :=
  ⟨2, 15, [.cellN 4 4],
    .seq (.ops [(none, .box 2 (.t 0)),
       (none, .alloc 4 [(.I 0), (.I 0), (.I 0), .nil])])
    (.seq (.draw [⟨(none, .idxA 5 3 1 (.t 2) (.c (.I 0))), [], []⟩,
        ⟨(none, .load1 6 (.t 5)), [], []⟩,
        ⟨(none, .idxA 7 3 1 (.t 2) (.c (.I 1))), [], []⟩,
        ⟨(none, .load1 8 (.t 7)), [], []⟩,
        ⟨(none, .idxA 9 3 1 (.t 2) (.c (.I 2))), [], []⟩,
        ⟨(none, .load1 10 (.t 9)), [], []⟩,
        ⟨(none, .loadN 11 3 (.t 2)), [], []⟩,
        ⟨(none, .mv 12 (.t 1)), [], []⟩,
        ⟨(none, .call (some 13) F.impl_box_list [(.t 11), (.t 12)]), [], [0, 1, 2, 3, 4, 5]⟩,
        ⟨(none, .build 14 [(.I 0), (.I 0), (.I 0), .nil] [(0, 1, (.t 6)), (1, 1, (.t 8)), (2, 1, (.t 10)), (3, 1, (.t 13))]), [], []⟩,
        ⟨(none, .store 4 (.t 4) (.t 14)), [], []⟩])
     (.ret))⟩
def impl_Heap_cubes : AFn :=
  ⟨1, 22, [.tmp 2],
    .seq (.ops [(none, .box 1 (.t 0)),
       (none, .mv 2 (.c (.U 0)))])
    (.seq (.ops [(none, .mv 3 (.c (.U 0)))])
     (.seq (.seq (.ops [(none, .fieldAddr 6 (.t 1) 3),
          (none, .load1 7 (.t 6)),
          (none, .len 8 (.t 7)),
          (none, .mv 9 (.c (.I 0)))])
       (.block 0 (.loop (.seq (.ops [(none, .bin 10 .lss (.t 9) (.t 8))])
          (.seq (.cond (.t 10) (.skip)
            (.exit 0))
           (.seq (.block 1 (.seq (.ops [(none, .idxS 11 3 (.t 7) (.t 9)),
                 (none, .loadN 12 3 (.t 11)),
                 (none, .alloc 5 [(.I 0), (.I 0), (.I 0)]),
                 (none, .store 3 (.t 5) (.t 12))])
              (.draw [⟨(none, .mv 13 (.t 3)), [], []⟩,
                 ⟨(none, .loadN 14 4 (.t 1)), [], []⟩,
                 ⟨(none, .loadN 16 3 (.t 5)), [], []⟩,
                 ⟨(none, .call (some 15) F.impl_Heap_box [(.t 14)]), [], [0, 2]⟩,
                 ⟨(none, .call (some 17) F.impl_box_index [(.t 15), (.t 16)]), [], [0]⟩,
                 ⟨(none, .bin 18 .shl (.c (.U 1)) (.t 17)), [], []⟩,
                 ⟨(none, .bin 19 .or (.t 13) (.t 18)), [], []⟩,
                 ⟨(none, .mv 3 (.t 19)), [], []⟩])))
            (.ops [(none, .bin 20 .add (.t 9) (.c (.I 1))),
               (none, .mv 9 (.t 20))])))))))
      (.seq (.ops [(none, .mv 21 (.t 3)),
          (none, .mv 2 (.t 21))])
       (.ret))))⟩
def impl_Heap_hasCube : AFn :=
  ⟨2, 12, [.tmp 4],
    .seq (.ops [(none, .box 2 (.t 0)),
       (none, .box 3 (.t 1)),
       (none, .mv 4 (.c (.B false)))])
    (.seq (.draw [⟨(none, .loadN 5 4 (.t 2)), [], []⟩,
        ⟨(none, .loadN 7 4 (.t 2)), [], []⟩,
        ⟨(none, .loadN 9 3 (.t 3)), [], []⟩,
        ⟨(none, .call (some 6) F.impl_Heap_cubes [(.t 5)]), [], [1, 2]⟩,
        ⟨(none, .call (some 8) F.impl_Heap_box [(.t 7)]), [], [2]⟩,
        ⟨(none, .call (some 10) F.impl_box_index [(.t 8), (.t 9)]), [], []⟩,
        ⟨(none, .call (some 11) F.impl_set_has [(.t 6), (.t 10)]), [], []⟩,
        ⟨(none, .mv 4 (.t 11)), [], []⟩])
     (.ret))⟩
def impl_box_those : AFn :=
  ⟨2, 23, [.tmp 4],
    .seq (.ops [(none, .box 2 (.t 0)),
       (none, .mv 4 (.c (.U 0)))])
    (.seq (.ops [(none, .mv 5 (.c (.U 0)))])
     (.seq (.seq (.ops [(none, .loadN 7 3 (.t 2)),
          (none, .call (some 8) F.impl_box_size [(.t 7)]),
          (none, .mv 9 (.c (.I 0)))])
       (.block 0 (.loop (.seq (.ops [(none, .bin 10 .lss (.t 9) (.t 8))])
          (.seq (.cond (.t 10) (.skip)
            (.exit 0))
           (.seq (.block 1 (.seq (.ops [(none, .mv 11 (.t 9)),
                 (none, .mv 6 (.t 11))])
              (.seq (.ops [(none, .mv 12 (.t 1)),
                  (none, .loadN 13 3 (.t 2)),
                  (none, .mv 14 (.t 6)),
                  (none, .call (some 15) F.impl_box_cell [(.t 13), (.t 14)]),
                  (none, .callV (some 16) (.t 12) [(.t 15)])])
               (.cond (.t 16) (.ops [(none, .mv 17 (.t 5)),
                   (none, .mv 18 (.t 6)),
                   (none, .bin 19 .shl (.c (.U 1)) (.t 18)),
                   (none, .bin 20 .or (.t 17) (.t 19)),
                   (none, .mv 5 (.t 20))])
                (.skip)))))
            (.ops [(none, .bin 21 .add (.t 9) (.c (.I 1))),
               (none, .mv 9 (.t 21))])))))))
      (.seq (.ops [(none, .mv 22 (.t 5)),
          (none, .mv 4 (.t 22))])
       (.ret))))⟩
end Go.Ab.C

/- That the program has this code. -/
namespace Go.Ab.K
open Go Go.Ab
theorem impl_box_size : prepF Go.Proofs.Try.prog F.impl_box_size = some C.impl_box_size := by kernel_rfl
theorem impl_box_index : prepF Go.Proofs.Try.prog F.impl_box_index = some C.impl_box_index := by kernel_rfl
theorem impl_box_cell : prepF Go.Proofs.Try.prog F.impl_box_cell = some C.impl_box_cell := by kernel_rfl
theorem impl_set_has : prepF Go.Proofs.Try.prog F.impl_set_has = some C.impl_set_has := by kernel_rfl
theorem impl_box_full : prepF Go.Proofs.Try.prog F.impl_box_full = some C.impl_box_full := by kernel_rfl
theorem impl_box_list : prepF Go.Proofs.Try.prog F.impl_box_list = some C.impl_box_list := by kernel_rfl
theorem impl_box_heap : prepF Go.Proofs.Try.prog F.impl_box_heap = some C.impl_box_heap := by kernel_rfl
theorem impl_Heap_cubes : prepF Go.Proofs.Try.prog F.impl_Heap_cubes = some C.impl_Heap_cubes := by kernel_rfl
theorem impl_Heap_hasCube : prepF Go.Proofs.Try.prog F.impl_Heap_hasCube = some C.impl_Heap_hasCube := by kernel_rfl
theorem impl_box_those : prepF Go.Proofs.Try.prog F.impl_box_those = some C.impl_box_those := by kernel_rfl
end Go.Ab.K

/- The abstract code of some functions (written by a program of mine from the translation, by way of prepF). -/
namespace Go.Ab.C
open Go.Ab
def cmp_isNaN_int : AFn :=
  ⟨1, 6, [.tmp 2],
    .seq (.ops [(none, .mv 2 (.c (.B false)))])
    (.seq (.ops [(none, .mv 3 (.t 0)),
        (none, .mv 4 (.t 0)),
        (none, .bin 5 .neq (.t 3) (.t 4)),
        (none, .mv 2 (.t 5))])
     (.ret))⟩
def cmp_Compare_int : AFn :=
  ⟨2, 20, [.tmp 4],
    .seq (.ops [(none, .mv 4 (.c (.I 0)))])
    (.seq (.ops [(none, .mv 7 (.t 0)),
        (none, .call (some 8) F.cmp_isNaN_int [(.t 7)]),
        (none, .mv 5 (.t 8))])
     (.seq (.ops [(none, .mv 9 (.t 1)),
         (none, .call (some 10) F.cmp_isNaN_int [(.t 9)]),
         (none, .mv 6 (.t 10))])
      (.seq (.seq (.ops [(none, .mv 11 (.t 5))])
        (.cond (.t 11) (.seq (.seq (.ops [(none, .mv 12 (.t 6))])
           (.cond (.t 12) (.seq (.ops [(none, .mv 4 (.c (.I 0)))])
             (.ret))
            (.skip)))
          (.seq (.ops [(none, .mv 4 (.c (.I (-1))))])
           (.ret)))
         (.skip)))
       (.seq (.seq (.ops [(none, .mv 13 (.t 6))])
         (.cond (.t 13) (.seq (.ops [(none, .mv 4 (.c (.I 1)))])
           (.ret))
          (.skip)))
        (.seq (.seq (.ops [(none, .mv 14 (.t 0)),
             (none, .mv 15 (.t 1)),
             (none, .bin 16 .lss (.t 14) (.t 15))])
          (.cond (.t 16) (.seq (.ops [(none, .mv 4 (.c (.I (-1))))])
            (.ret))
           (.skip)))
         (.seq (.seq (.ops [(none, .mv 17 (.t 0)),
              (none, .mv 18 (.t 1)),
              (none, .bin 19 .gtr (.t 17) (.t 18))])
           (.cond (.t 19) (.seq (.ops [(none, .mv 4 (.c (.I 1)))])
             (.ret))
            (.skip)))
          (.seq (.ops [(none, .mv 4 (.c (.I 0)))])
           (.ret))))))))⟩
def slices_Compare_Sint_int : AFn :=
  ⟨2, 36, [.tmp 4],
    .seq (.ops [(none, .mv 4 (.c (.I 0)))])
    (.seq (.seq (.ops [(none, .mv 9 (.t 0)),
         (none, .len 10 (.t 9)),
         (none, .mv 11 (.c (.I 0)))])
      (.block 0 (.loop (.seq (.ops [(none, .bin 12 .lss (.t 11) (.t 10))])
         (.seq (.cond (.t 12) (.skip)
           (.exit 0))
          (.seq (.block 1 (.seq (.ops [(none, .mv 13 (.t 11)),
                (none, .idxS 14 1 (.t 9) (.t 11)),
                (none, .load1 15 (.t 14)),
                (none, .mv 5 (.t 13)),
                (none, .mv 6 (.t 15))])
             (.seq (.seq (.ops [(none, .mv 16 (.t 5)),
                  (none, .mv 17 (.t 1)),
                  (none, .len 18 (.t 17)),
                  (none, .bin 19 .geq (.t 16) (.t 18))])
               (.cond (.t 19) (.seq (.ops [(none, .mv 4 (.c (.I 1)))])
                 (.ret))
                (.skip)))
              (.seq (.ops [(none, .mv 20 (.t 1)),
                  (none, .mv 21 (.t 5)),
                  (none, .idxS 22 1 (.t 20) (.t 21)),
                  (none, .load1 23 (.t 22)),
                  (none, .mv 7 (.t 23))])
               (.seq (.ops [(none, .mv 24 (.t 6)),
                   (none, .mv 25 (.t 7)),
                   (none, .call (some 26) F.cmp_Compare_int [(.t 24), (.t 25)]),
                   (none, .mv 8 (.t 26))])
                (.seq (.ops [(none, .mv 27 (.t 8)),
                    (none, .bin 28 .neq (.t 27) (.c (.I 0)))])
                 (.cond (.t 28) (.seq (.ops [(none, .mv 29 (.t 8)),
                      (none, .mv 4 (.t 29))])
                   (.ret))
                  (.skip))))))))
           (.ops [(none, .bin 30 .add (.t 11) (.c (.I 1))),
              (none, .mv 11 (.t 30))])))))))
     (.seq (.seq (.ops [(none, .mv 31 (.t 0)),
          (none, .len 32 (.t 31)),
          (none, .mv 33 (.t 1)),
          (none, .len 34 (.t 33)),
          (none, .bin 35 .lss (.t 32) (.t 34))])
       (.cond (.t 35) (.seq (.ops [(none, .mv 4 (.c (.I (-1))))])
         (.ret))
        (.skip)))
      (.seq (.ops [(none, .mv 4 (.c (.I 0)))])
       (.ret))))⟩
def impl_within : AFn :=
  ⟨3, 15, [.tmp 6],
    .seq (.ops [(none, .mv 6 (.c (.B false)))])
    (.seq (.ops [(none, .mv 7 (.t 0)),
        (none, .mv 8 (.t 1)),
        (none, .bin 9 .geq (.t 7) (.t 8)),
        (none, .mv 10 (.t 9)),
        (some (10, true), .mv 11 (.t 0)),
        (some (10, true), .mv 12 (.t 2)),
        (some (10, true), .bin 13 .leq (.t 11) (.t 12)),
        (none, .pick 14 (.t 10) (.t 13) (.c (.B false))),
        (none, .mv 6 (.t 14))])
     (.ret))⟩
def impl_Heap_box : AFn :=
  ⟨1, 10, [.cellN 2 3],
    .seq (.ops [(none, .box 1 (.t 0)),
       (none, .alloc 2 [(.I 0), (.I 0), (.I 0)])])
    (.seq (.ops [(none, .fieldAddr 3 (.t 1) 0),
        (none, .load1 4 (.t 3)),
        (none, .fieldAddr 5 (.t 1) 1),
        (none, .load1 6 (.t 5)),
        (none, .fieldAddr 7 (.t 1) 2),
        (none, .load1 8 (.t 7)),
        (none, .build 9 [(.I 0), (.I 0), (.I 0)] [(0, 1, (.t 4)), (1, 1, (.t 6)), (2, 1, (.t 8))]),
        (none, .store 3 (.t 2) (.t 9))])
     (.ret))⟩
def impl_box_valid : AFn :=
  ⟨1, 16, [.tmp 2],
    .seq (.ops [(none, .box 1 (.t 0)),
       (none, .mv 2 (.c (.B false)))])
    (.seq (.ops [(none, .idxA 3 3 1 (.t 1) (.c (.I 0))),
        (none, .load1 4 (.t 3)),
        (none, .call (some 5) F.impl_within [(.t 4), (.c (.I 1)), (.c (.I 4))]),
        (none, .mv 6 (.t 5)),
        (some (6, true), .idxA 7 3 1 (.t 1) (.c (.I 1))),
        (some (6, true), .load1 8 (.t 7)),
        (some (6, true), .call (some 9) F.impl_within [(.t 8), (.c (.I 1)), (.c (.I 4))]),
        (none, .pick 10 (.t 6) (.t 9) (.c (.B false))),
        (none, .mv 11 (.t 10)),
        (some (11, true), .idxA 12 3 1 (.t 1) (.c (.I 2))),
        (some (11, true), .load1 13 (.t 12)),
        (some (11, true), .call (some 14) F.impl_within [(.t 13), (.c (.I 1)), (.c (.I 4))]),
        (none, .pick 15 (.t 11) (.t 14) (.c (.B false))),
        (none, .mv 2 (.t 15))])
     (.ret))⟩
def impl_box_has : AFn :=
  ⟨2, 27, [.tmp 4],
    .seq (.ops [(none, .box 2 (.t 0)),
       (none, .box 3 (.t 1)),
       (none, .mv 4 (.c (.B false)))])
    (.seq (.ops [(none, .idxA 5 3 1 (.t 3) (.c (.I 0))),
        (none, .load1 6 (.t 5)),
        (none, .idxA 7 3 1 (.t 2) (.c (.I 0))),
        (none, .load1 8 (.t 7)),
        (none, .bin 9 .sub (.t 8) (.c (.I 1))),
        (none, .call (some 10) F.impl_within [(.t 6), (.c (.I 0)), (.t 9)]),
        (none, .mv 11 (.t 10)),
        (some (11, true), .idxA 12 3 1 (.t 3) (.c (.I 1))),
        (some (11, true), .load1 13 (.t 12)),
        (some (11, true), .idxA 14 3 1 (.t 2) (.c (.I 1))),
        (some (11, true), .load1 15 (.t 14)),
        (some (11, true), .bin 16 .sub (.t 15) (.c (.I 1))),
        (some (11, true), .call (some 17) F.impl_within [(.t 13), (.c (.I 0)), (.t 16)]),
        (none, .pick 18 (.t 11) (.t 17) (.c (.B false))),
        (none, .mv 19 (.t 18)),
        (some (19, true), .idxA 20 3 1 (.t 3) (.c (.I 2))),
        (some (19, true), .load1 21 (.t 20)),
        (some (19, true), .idxA 22 3 1 (.t 2) (.c (.I 2))),
        (some (19, true), .load1 23 (.t 22)),
        (some (19, true), .bin 24 .sub (.t 23) (.c (.I 1))),
        (some (19, true), .call (some 25) F.impl_within [(.t 21), (.c (.I 0)), (.t 24)]),
        (none, .pick 26 (.t 19) (.t 25) (.c (.B false))),
        (none, .mv 4 (.t 26))])
     (.ret))⟩
def impl_compareCells : AFn :=
  ⟨2, 8, [.tmp 4],
    .seq (.ops [(none, .box 2 (.t 0)),
       (none, .box 3 (.t 1)),
       (none, .mv 4 (.c (.I 0)))])
    (.seq (.draw [⟨(none, .slA 5 3 1 (.t 2) none none), [], []⟩,
        ⟨(none, .slA 6 3 1 (.t 3) none none), [], []⟩,
        ⟨(none, .call (some 7) F.slices_Compare_Sint_int [(.t 5), (.t 6)]), [], []⟩,
        ⟨(none, .mv 4 (.t 7)), [], []⟩])
     (.ret))⟩
def impl_IsHeap : AFn :=
  ⟨1, 38, [.tmp 2],
    .seq (.ops [(none, .box 1 (.t 0)),
       (none, .mv 2 (.c (.B false)))])
    (.seq (.seq (.ops [(none, .loadN 5 4 (.t 1)),
         (none, .call (some 6) F.impl_Heap_box [(.t 5)]),
         (none, .call (some 7) F.impl_box_valid [(.t 6)]),
         (none, .un 8 .not (.t 7))])
      (.cond (.t 8) (.seq (.ops [(none, .mv 2 (.c (.B false)))])
        (.ret))
       (.skip)))
     (.seq (.seq (.ops [(none, .fieldAddr 9 (.t 1) 3),
          (none, .load1 10 (.t 9)),
          (none, .len 11 (.t 10)),
          (none, .mv 12 (.c (.I 0)))])
       (.block 0 (.loop (.seq (.ops [(none, .bin 13 .lss (.t 12) (.t 11))])
          (.seq (.cond (.t 13) (.skip)
            (.exit 0))
           (.seq (.block 1 (.seq (.ops [(none, .mv 14 (.t 12)),
                 (none, .idxS 15 3 (.t 10) (.t 12)),
                 (none, .loadN 16 3 (.t 15)),
                 (none, .alloc 4 [(.I 0), (.I 0), (.I 0)]),
                 (none, .mv 3 (.t 14)),
                 (none, .store 3 (.t 4) (.t 16))])
              (.seq (.draw [⟨(none, .loadN 17 4 (.t 1)), [], []⟩,
                  ⟨(none, .loadN 19 3 (.t 4)), [], []⟩,
                  ⟨(none, .call (some 18) F.impl_Heap_box [(.t 17)]), [], [1]⟩,
                  ⟨(none, .call (some 20) F.impl_box_has [(.t 18), (.t 19)]), [], []⟩,
                  ⟨(none, .un 21 .not (.t 20)), [], []⟩,
                  ⟨(none, .mv 22 (.t 21)), [], []⟩,
                  ⟨(some (22, false), .mv 23 (.t 3)), [], []⟩,
                  ⟨(some (22, false), .bin 24 .gtr (.t 23) (.c (.I 0))), [], []⟩,
                  ⟨(some (22, false), .mv 25 (.t 24)), [], []⟩,
                  ⟨(some (25, true), .fieldAddr 26 (.t 1) 3), [], []⟩,
                  ⟨(some (25, true), .load1 27 (.t 26)), [], []⟩,
                  ⟨(some (25, true), .mv 28 (.t 3)), [], []⟩,
                  ⟨(some (25, true), .bin 29 .sub (.t 28) (.c (.I 1))), [], []⟩,
                  ⟨(some (25, true), .idxS 30 3 (.t 27) (.t 29)), [], []⟩,
                  ⟨(some (25, true), .loadN 31 3 (.t 30)), [], []⟩,
                  ⟨(some (25, true), .loadN 32 3 (.t 4)), [], []⟩,
                  ⟨(some (25, true), .call (some 33) F.impl_compareCells [(.t 31), (.t 32)]), [], []⟩,
                  ⟨(some (25, true), .bin 34 .geq (.t 33) (.c (.I 0))), [], []⟩,
                  ⟨(some (22, false), .pick 35 (.t 25) (.t 34) (.c (.B false))), [], []⟩,
                  ⟨(none, .pick 36 (.t 22) (.c (.B true)) (.t 35)), [], []⟩])
               (.cond (.t 36) (.seq (.ops [(none, .mv 2 (.c (.B false)))])
                 (.ret))
                (.skip)))))
            (.ops [(none, .bin 37 .add (.t 12) (.c (.I 1))),
               (none, .mv 12 (.t 37))])))))))
      (.seq (.ops [(none, .mv 2 (.c (.B true)))])
       (.ret))))⟩
end Go.Ab.C

/- That the program has this code. -/
namespace Go.Ab.K
open Go Go.Ab
theorem cmp_isNaN_int : prepF Go.Proofs.Try.prog F.cmp_isNaN_int = some C.cmp_isNaN_int := by kernel_rfl
theorem cmp_Compare_int : prepF Go.Proofs.Try.prog F.cmp_Compare_int = some C.cmp_Compare_int := by kernel_rfl
theorem slices_Compare_Sint_int : prepF Go.Proofs.Try.prog F.slices_Compare_Sint_int = some C.slices_Compare_Sint_int := by kernel_rfl
theorem impl_within : prepF Go.Proofs.Try.prog F.impl_within = some C.impl_within := by kernel_rfl
theorem impl_Heap_box : prepF Go.Proofs.Try.prog F.impl_Heap_box = some C.impl_Heap_box := by kernel_rfl
theorem impl_box_valid : prepF Go.Proofs.Try.prog F.impl_box_valid = some C.impl_box_valid := by kernel_rfl
theorem impl_box_has : prepF Go.Proofs.Try.prog F.impl_box_has = some C.impl_box_has := by kernel_rfl
theorem impl_compareCells : prepF Go.Proofs.Try.prog F.impl_compareCells = some C.impl_compareCells := by kernel_rfl
theorem impl_IsHeap : prepF Go.Proofs.Try.prog F.impl_IsHeap = some C.impl_IsHeap := by kernel_rfl
end Go.Ab.K

/- Contracts: the program's boxes, cells, valid heaps. -/
namespace Go.Ab
open Go
set_option linter.unusedSimpArgs false
set_option linter.unusedVariables false

theorem g_within {n lo hi : Int} {M : Mem} : CallsTo PG F.impl_within [.I n, .I lo, .I hi] M (.B (decide (lo ≤ n ∧ n ≤ hi))) M := by
  refine calls_run K.impl_within rfl ?_
  simp (disch := omega) only [C.impl_within, ↓SXd, SXu, slBounds, ↓sop, ↓aop, ↓reduceIte, LV.cells, AOp.dst, LV.I, LV.B, LV.U, LV.S, LV.nil, Nat.reduceEqDiff, Nat.reduceAdd, Nat.reduceMul, Nat.reduceSub, Nat.reduceLeDiff, Nat.reduceBEq, Nat.reduceDiv, Nat.reduceMod, Int.reduceToNat, Int.reduceLT, Int.reduceLE, Int.reduceAdd, Int.reduceSub, Int.reduceMul, Int.reduceEq, Int.reduceNeg, reduceCtorEq, resV, resAll, ARes.ev, LV.flat, ite_true, ite_false, exists_eq_left', exists_eq_left, keyOf, implies_true, fillC, capOf]
  by_cases h1 : lo ≤ n
  · simp (disch := omega) only [h1, ↓SXd, SXu, slBounds, ↓sop, ↓aop, ↓reduceIte, LV.cells, AOp.dst, LV.I, LV.B, LV.U, LV.S, LV.nil, Nat.reduceEqDiff, Nat.reduceAdd, Nat.reduceMul, Nat.reduceSub, Nat.reduceLeDiff, Nat.reduceBEq, Nat.reduceDiv, Nat.reduceMod, Int.reduceToNat, Int.reduceLT, Int.reduceLE, Int.reduceAdd, Int.reduceSub, Int.reduceMul, Int.reduceEq, Int.reduceNeg, reduceCtorEq, resV, resAll, ARes.ev, LV.flat, ite_true, ite_false, exists_eq_left', exists_eq_left, keyOf, implies_true, fillC, capOf]
    exact cmp_drop0 rfl
  · simp (disch := omega) only [h1, ↓SXd, SXu, slBounds, ↓sop, ↓aop, ↓reduceIte, LV.cells, AOp.dst, LV.I, LV.B, LV.U, LV.S, LV.nil, Nat.reduceEqDiff, Nat.reduceAdd, Nat.reduceMul, Nat.reduceSub, Nat.reduceLeDiff, Nat.reduceBEq, Nat.reduceDiv, Nat.reduceMod, Int.reduceToNat, Int.reduceLT, Int.reduceLE, Int.reduceAdd, Int.reduceSub, Int.reduceMul, Int.reduceEq, Int.reduceNeg, reduceCtorEq, resV, resAll, ARes.ev, LV.flat, ite_true, ite_false, exists_eq_left', exists_eq_left, keyOf, implies_true, fillC, capOf]
    exact cmp_drop0 rfl

theorem g_box {x y z : Int} {v : LV} {M : Mem} : CallsTo PG F.impl_Heap_box [.agg [.I x, .I y, .I z, v]] M (.agg [.I x, .I y, .I z]) M := by
  refine calls_run K.impl_Heap_box rfl ?_
  simp (disch := omega) only [C.impl_Heap_box, ↓SXd, SXu, slBounds, ↓sop, ↓aop, ↓reduceIte, LV.cells, AOp.dst, LV.I, LV.B, LV.U, LV.S, LV.nil, Nat.reduceEqDiff, Nat.reduceAdd, Nat.reduceMul, Nat.reduceSub, Nat.reduceLeDiff, Nat.reduceBEq, Nat.reduceDiv, Nat.reduceMod, Int.reduceToNat, Int.reduceLT, Int.reduceLE, Int.reduceAdd, Int.reduceSub, Int.reduceMul, Int.reduceEq, Int.reduceNeg, reduceCtorEq, resV, resAll, ARes.ev, LV.flat, ite_true, ite_false, exists_eq_left', exists_eq_left, keyOf, implies_true, fillC, capOf]
  exact cmp_drop rfl

theorem g_valid {x y z : Int} {M : Mem} : CallsTo PG F.impl_box_valid [.agg [.I x, .I y, .I z]] M (.B (decide (Sides x y z))) M := by
  refine calls_run K.impl_box_valid rfl ?_
  simp (disch := omega) only [C.impl_box_valid, ↓SXd, SXu, slBounds, ↓sop, ↓aop, ↓reduceIte, LV.cells, AOp.dst, LV.I, LV.B, LV.U, LV.S, LV.nil, Nat.reduceEqDiff, Nat.reduceAdd, Nat.reduceMul, Nat.reduceSub, Nat.reduceLeDiff, Nat.reduceBEq, Nat.reduceDiv, Nat.reduceMod, Int.reduceToNat, Int.reduceLT, Int.reduceLE, Int.reduceAdd, Int.reduceSub, Int.reduceMul, Int.reduceEq, Int.reduceNeg, reduceCtorEq, resV, resAll, ARes.ev, LV.flat, ite_true, ite_false, exists_eq_left', exists_eq_left, keyOf, implies_true, fillC, capOf]
  refine callK_of g_within ?_
  simp (disch := omega) only [↓SXd, SXu, slBounds, ↓sop, ↓aop, ↓reduceIte, LV.cells, AOp.dst, LV.I, LV.B, LV.U, LV.S, LV.nil, Nat.reduceEqDiff, Nat.reduceAdd, Nat.reduceMul, Nat.reduceSub, Nat.reduceLeDiff, Nat.reduceBEq, Nat.reduceDiv, Nat.reduceMod, Int.reduceToNat, Int.reduceLT, Int.reduceLE, Int.reduceAdd, Int.reduceSub, Int.reduceMul, Int.reduceEq, Int.reduceNeg, reduceCtorEq, resV, resAll, ARes.ev, LV.flat, ite_true, ite_false, exists_eq_left', exists_eq_left, keyOf, implies_true, fillC, capOf]
  unfold Sides
  by_cases h1 : 1 ≤ x ∧ x ≤ 4
  · simp (disch := omega) only [h1, ↓SXd, SXu, slBounds, ↓sop, ↓aop, ↓reduceIte, LV.cells, AOp.dst, LV.I, LV.B, LV.U, LV.S, LV.nil, Nat.reduceEqDiff, Nat.reduceAdd, Nat.reduceMul, Nat.reduceSub, Nat.reduceLeDiff, Nat.reduceBEq, Nat.reduceDiv, Nat.reduceMod, Int.reduceToNat, Int.reduceLT, Int.reduceLE, Int.reduceAdd, Int.reduceSub, Int.reduceMul, Int.reduceEq, Int.reduceNeg, reduceCtorEq, resV, resAll, ARes.ev, LV.flat, ite_true, ite_false, exists_eq_left', exists_eq_left, keyOf, implies_true, fillC, capOf]
    refine callK_of g_within ?_
    simp (disch := omega) only [↓SXd, SXu, slBounds, ↓sop, ↓aop, ↓reduceIte, LV.cells, AOp.dst, LV.I, LV.B, LV.U, LV.S, LV.nil, Nat.reduceEqDiff, Nat.reduceAdd, Nat.reduceMul, Nat.reduceSub, Nat.reduceLeDiff, Nat.reduceBEq, Nat.reduceDiv, Nat.reduceMod, Int.reduceToNat, Int.reduceLT, Int.reduceLE, Int.reduceAdd, Int.reduceSub, Int.reduceMul, Int.reduceEq, Int.reduceNeg, reduceCtorEq, resV, resAll, ARes.ev, LV.flat, ite_true, ite_false, exists_eq_left', exists_eq_left, keyOf, implies_true, fillC, capOf]
    by_cases h2 : 1 ≤ y ∧ y ≤ 4
    · simp (disch := omega) only [h2, ↓SXd, SXu, slBounds, ↓sop, ↓aop, ↓reduceIte, LV.cells, AOp.dst, LV.I, LV.B, LV.U, LV.S, LV.nil, Nat.reduceEqDiff, Nat.reduceAdd, Nat.reduceMul, Nat.reduceSub, Nat.reduceLeDiff, Nat.reduceBEq, Nat.reduceDiv, Nat.reduceMod, Int.reduceToNat, Int.reduceLT, Int.reduceLE, Int.reduceAdd, Int.reduceSub, Int.reduceMul, Int.reduceEq, Int.reduceNeg, reduceCtorEq, resV, resAll, ARes.ev, LV.flat, ite_true, ite_false, exists_eq_left', exists_eq_left, keyOf, implies_true, fillC, capOf]
      refine callK_of g_within ?_
      simp (disch := omega) only [↓SXd, SXu, slBounds, ↓sop, ↓aop, ↓reduceIte, LV.cells, AOp.dst, LV.I, LV.B, LV.U, LV.S, LV.nil, Nat.reduceEqDiff, Nat.reduceAdd, Nat.reduceMul, Nat.reduceSub, Nat.reduceLeDiff, Nat.reduceBEq, Nat.reduceDiv, Nat.reduceMod, Int.reduceToNat, Int.reduceLT, Int.reduceLE, Int.reduceAdd, Int.reduceSub, Int.reduceMul, Int.reduceEq, Int.reduceNeg, reduceCtorEq, resV, resAll, ARes.ev, LV.flat, ite_true, ite_false, exists_eq_left', exists_eq_left, keyOf, implies_true, fillC, capOf]
      exact cmp_drop rfl
    · simp (disch := omega) only [h2, false_and, ↓SXd, SXu, slBounds, ↓sop, ↓aop, ↓reduceIte, LV.cells, AOp.dst, LV.I, LV.B, LV.U, LV.S, LV.nil, Nat.reduceEqDiff, Nat.reduceAdd, Nat.reduceMul, Nat.reduceSub, Nat.reduceLeDiff, Nat.reduceBEq, Nat.reduceDiv, Nat.reduceMod, Int.reduceToNat, Int.reduceLT, Int.reduceLE, Int.reduceAdd, Int.reduceSub, Int.reduceMul, Int.reduceEq, Int.reduceNeg, reduceCtorEq, resV, resAll, ARes.ev, LV.flat, ite_true, ite_false, exists_eq_left', exists_eq_left, keyOf, implies_true, fillC, capOf]
      exact cmp_drop rfl
  · simp (disch := omega) only [h1, false_and, ↓SXd, SXu, slBounds, ↓sop, ↓aop, ↓reduceIte, LV.cells, AOp.dst, LV.I, LV.B, LV.U, LV.S, LV.nil, Nat.reduceEqDiff, Nat.reduceAdd, Nat.reduceMul, Nat.reduceSub, Nat.reduceLeDiff, Nat.reduceBEq, Nat.reduceDiv, Nat.reduceMod, Int.reduceToNat, Int.reduceLT, Int.reduceLE, Int.reduceAdd, Int.reduceSub, Int.reduceMul, Int.reduceEq, Int.reduceNeg, reduceCtorEq, resV, resAll, ARes.ev, LV.flat, ite_true, ite_false, exists_eq_left', exists_eq_left, keyOf, implies_true, fillC, capOf]
    exact cmp_drop rfl

theorem g_has {x y z a b c : Int} {M : Mem} (hS : Sides x y z) : CallsTo PG F.impl_box_has [.agg [.I x, .I y, .I z], .agg [.I a, .I b, .I c]] M (.B (decide (Cell.inBox x y z ⟨a, b, c⟩))) M := by
  obtain ⟨hx, hy, hz⟩ := hS
  refine calls_run K.impl_box_has rfl ?_
  simp (disch := omega) only [C.impl_box_has, ↓SXd, SXu, slBounds, ↓sop, ↓aop, ↓reduceIte, LV.cells, AOp.dst, LV.I, LV.B, LV.U, LV.S, LV.nil, Nat.reduceEqDiff, Nat.reduceAdd, Nat.reduceMul, Nat.reduceSub, Nat.reduceLeDiff, Nat.reduceBEq, Nat.reduceDiv, Nat.reduceMod, Int.reduceToNat, Int.reduceLT, Int.reduceLE, Int.reduceAdd, Int.reduceSub, Int.reduceMul, Int.reduceEq, Int.reduceNeg, reduceCtorEq, resV, resAll, ARes.ev, LV.flat, ite_true, ite_false, exists_eq_left', exists_eq_left, keyOf, implies_true, fillC, capOf]
  refine callK_of g_within ?_
  simp (disch := omega) only [↓SXd, SXu, slBounds, ↓sop, ↓aop, ↓reduceIte, LV.cells, AOp.dst, LV.I, LV.B, LV.U, LV.S, LV.nil, Nat.reduceEqDiff, Nat.reduceAdd, Nat.reduceMul, Nat.reduceSub, Nat.reduceLeDiff, Nat.reduceBEq, Nat.reduceDiv, Nat.reduceMod, Int.reduceToNat, Int.reduceLT, Int.reduceLE, Int.reduceAdd, Int.reduceSub, Int.reduceMul, Int.reduceEq, Int.reduceNeg, reduceCtorEq, resV, resAll, ARes.ev, LV.flat, ite_true, ite_false, exists_eq_left', exists_eq_left, keyOf, implies_true, fillC, capOf]
  unfold Cell.inBox
  by_cases h1 : 0 ≤ a ∧ a ≤ x - 1
  · simp (disch := omega) only [h1, ↓SXd, SXu, slBounds, ↓sop, ↓aop, ↓reduceIte, LV.cells, AOp.dst, LV.I, LV.B, LV.U, LV.S, LV.nil, Nat.reduceEqDiff, Nat.reduceAdd, Nat.reduceMul, Nat.reduceSub, Nat.reduceLeDiff, Nat.reduceBEq, Nat.reduceDiv, Nat.reduceMod, Int.reduceToNat, Int.reduceLT, Int.reduceLE, Int.reduceAdd, Int.reduceSub, Int.reduceMul, Int.reduceEq, Int.reduceNeg, reduceCtorEq, resV, resAll, ARes.ev, LV.flat, ite_true, ite_false, exists_eq_left', exists_eq_left, keyOf, implies_true, fillC, capOf]
    refine callK_of g_within ?_
    simp (disch := omega) only [↓SXd, SXu, slBounds, ↓sop, ↓aop, ↓reduceIte, LV.cells, AOp.dst, LV.I, LV.B, LV.U, LV.S, LV.nil, Nat.reduceEqDiff, Nat.reduceAdd, Nat.reduceMul, Nat.reduceSub, Nat.reduceLeDiff, Nat.reduceBEq, Nat.reduceDiv, Nat.reduceMod, Int.reduceToNat, Int.reduceLT, Int.reduceLE, Int.reduceAdd, Int.reduceSub, Int.reduceMul, Int.reduceEq, Int.reduceNeg, reduceCtorEq, resV, resAll, ARes.ev, LV.flat, ite_true, ite_false, exists_eq_left', exists_eq_left, keyOf, implies_true, fillC, capOf]
    by_cases h2 : 0 ≤ b ∧ b ≤ y - 1
    · simp (disch := omega) only [h2, ↓SXd, SXu, slBounds, ↓sop, ↓aop, ↓reduceIte, LV.cells, AOp.dst, LV.I, LV.B, LV.U, LV.S, LV.nil, Nat.reduceEqDiff, Nat.reduceAdd, Nat.reduceMul, Nat.reduceSub, Nat.reduceLeDiff, Nat.reduceBEq, Nat.reduceDiv, Nat.reduceMod, Int.reduceToNat, Int.reduceLT, Int.reduceLE, Int.reduceAdd, Int.reduceSub, Int.reduceMul, Int.reduceEq, Int.reduceNeg, reduceCtorEq, resV, resAll, ARes.ev, LV.flat, ite_true, ite_false, exists_eq_left', exists_eq_left, keyOf, implies_true, fillC, capOf]
      refine callK_of g_within ?_
      simp (disch := omega) only [↓SXd, SXu, slBounds, ↓sop, ↓aop, ↓reduceIte, LV.cells, AOp.dst, LV.I, LV.B, LV.U, LV.S, LV.nil, Nat.reduceEqDiff, Nat.reduceAdd, Nat.reduceMul, Nat.reduceSub, Nat.reduceLeDiff, Nat.reduceBEq, Nat.reduceDiv, Nat.reduceMod, Int.reduceToNat, Int.reduceLT, Int.reduceLE, Int.reduceAdd, Int.reduceSub, Int.reduceMul, Int.reduceEq, Int.reduceNeg, reduceCtorEq, resV, resAll, ARes.ev, LV.flat, ite_true, ite_false, exists_eq_left', exists_eq_left, keyOf, implies_true, fillC, capOf]
      exact cmp_drop rfl
    · simp (disch := omega) only [h2, false_and, ↓SXd, SXu, slBounds, ↓sop, ↓aop, ↓reduceIte, LV.cells, AOp.dst, LV.I, LV.B, LV.U, LV.S, LV.nil, Nat.reduceEqDiff, Nat.reduceAdd, Nat.reduceMul, Nat.reduceSub, Nat.reduceLeDiff, Nat.reduceBEq, Nat.reduceDiv, Nat.reduceMod, Int.reduceToNat, Int.reduceLT, Int.reduceLE, Int.reduceAdd, Int.reduceSub, Int.reduceMul, Int.reduceEq, Int.reduceNeg, reduceCtorEq, resV, resAll, ARes.ev, LV.flat, ite_true, ite_false, exists_eq_left', exists_eq_left, keyOf, implies_true, fillC, capOf]
      exact cmp_drop rfl
  · simp (disch := omega) only [h1, false_and, ↓SXd, SXu, slBounds, ↓sop, ↓aop, ↓reduceIte, LV.cells, AOp.dst, LV.I, LV.B, LV.U, LV.S, LV.nil, Nat.reduceEqDiff, Nat.reduceAdd, Nat.reduceMul, Nat.reduceSub, Nat.reduceLeDiff, Nat.reduceBEq, Nat.reduceDiv, Nat.reduceMod, Int.reduceToNat, Int.reduceLT, Int.reduceLE, Int.reduceAdd, Int.reduceSub, Int.reduceMul, Int.reduceEq, Int.reduceNeg, reduceCtorEq, resV, resAll, ARes.ev, LV.flat, ite_true, ite_false, exists_eq_left', exists_eq_left, keyOf, implies_true, fillC, capOf]
    exact cmp_drop rfl

theorem g_isNaN {n : Int} {M : Mem} : CallsTo PG F.cmp_isNaN_int [.I n] M (.B false) M := by
  refine calls_run K.cmp_isNaN_int rfl ?_
  simp (disch := omega) only [C.cmp_isNaN_int, ↓SXd, SXu, slBounds, ↓sop, ↓aop, ↓reduceIte, LV.cells, AOp.dst, LV.I, LV.B, LV.U, LV.S, LV.nil, Nat.reduceEqDiff, Nat.reduceAdd, Nat.reduceMul, Nat.reduceSub, Nat.reduceLeDiff, Nat.reduceBEq, Nat.reduceDiv, Nat.reduceMod, Int.reduceToNat, Int.reduceLT, Int.reduceLE, Int.reduceAdd, Int.reduceSub, Int.reduceMul, Int.reduceEq, Int.reduceNeg, reduceCtorEq, resV, resAll, ARes.ev, LV.flat, ite_true, ite_false, exists_eq_left', exists_eq_left, keyOf, implies_true, fillC, capOf]
  exact cmp_drop0 rfl

def cmpI (a b : Int) : Int := if a < b then -1 else if b < a then 1 else 0
theorem g_cmp {a b : Int} {M : Mem} : CallsTo PG F.cmp_Compare_int [.I a, .I b] M (.I (cmpI a b)) M := by
  refine calls_run K.cmp_Compare_int rfl ?_
  simp (disch := omega) only [C.cmp_Compare_int, ↓SXd, SXu, slBounds, ↓sop, ↓aop, ↓reduceIte, LV.cells, AOp.dst, LV.I, LV.B, LV.U, LV.S, LV.nil, Nat.reduceEqDiff, Nat.reduceAdd, Nat.reduceMul, Nat.reduceSub, Nat.reduceLeDiff, Nat.reduceBEq, Nat.reduceDiv, Nat.reduceMod, Int.reduceToNat, Int.reduceLT, Int.reduceLE, Int.reduceAdd, Int.reduceSub, Int.reduceMul, Int.reduceEq, Int.reduceNeg, reduceCtorEq, resV, resAll, ARes.ev, LV.flat, ite_true, ite_false, exists_eq_left', exists_eq_left, keyOf, implies_true, fillC, capOf]
  refine callK_of g_isNaN ?_
  simp (disch := omega) only [↓SXd, SXu, slBounds, ↓sop, ↓aop, ↓reduceIte, LV.cells, AOp.dst, LV.I, LV.B, LV.U, LV.S, LV.nil, Nat.reduceEqDiff, Nat.reduceAdd, Nat.reduceMul, Nat.reduceSub, Nat.reduceLeDiff, Nat.reduceBEq, Nat.reduceDiv, Nat.reduceMod, Int.reduceToNat, Int.reduceLT, Int.reduceLE, Int.reduceAdd, Int.reduceSub, Int.reduceMul, Int.reduceEq, Int.reduceNeg, reduceCtorEq, resV, resAll, ARes.ev, LV.flat, ite_true, ite_false, exists_eq_left', exists_eq_left, keyOf, implies_true, fillC, capOf]
  refine callK_of g_isNaN ?_
  simp (disch := omega) only [↓SXd, SXu, slBounds, ↓sop, ↓aop, ↓reduceIte, LV.cells, AOp.dst, LV.I, LV.B, LV.U, LV.S, LV.nil, Nat.reduceEqDiff, Nat.reduceAdd, Nat.reduceMul, Nat.reduceSub, Nat.reduceLeDiff, Nat.reduceBEq, Nat.reduceDiv, Nat.reduceMod, Int.reduceToNat, Int.reduceLT, Int.reduceLE, Int.reduceAdd, Int.reduceSub, Int.reduceMul, Int.reduceEq, Int.reduceNeg, reduceCtorEq, resV, resAll, ARes.ev, LV.flat, ite_true, ite_false, exists_eq_left', exists_eq_left, keyOf, implies_true, fillC, capOf]
  refine condC_dec (fun h1 => ?_) (fun h1 => ?_) <;> simp (disch := omega) only [↓SXd, SXu, slBounds, ↓sop, ↓aop, ↓reduceIte, LV.cells, AOp.dst, LV.I, LV.B, LV.U, LV.S, LV.nil, Nat.reduceEqDiff, Nat.reduceAdd, Nat.reduceMul, Nat.reduceSub, Nat.reduceLeDiff, Nat.reduceBEq, Nat.reduceDiv, Nat.reduceMod, Int.reduceToNat, Int.reduceLT, Int.reduceLE, Int.reduceAdd, Int.reduceSub, Int.reduceMul, Int.reduceEq, Int.reduceNeg, reduceCtorEq, resV, resAll, ARes.ev, LV.flat, ite_true, ite_false, exists_eq_left', exists_eq_left, keyOf, implies_true, fillC, capOf]
  · rw [show cmpI a b = -1 by simp [cmpI, h1]]; exact cmp_drop0 rfl
  · refine condC_dec (fun h2 => ?_) (fun h2 => ?_) <;> simp (disch := omega) only [↓SXd, SXu, slBounds, ↓sop, ↓aop, ↓reduceIte, LV.cells, AOp.dst, LV.I, LV.B, LV.U, LV.S, LV.nil, Nat.reduceEqDiff, Nat.reduceAdd, Nat.reduceMul, Nat.reduceSub, Nat.reduceLeDiff, Nat.reduceBEq, Nat.reduceDiv, Nat.reduceMod, Int.reduceToNat, Int.reduceLT, Int.reduceLE, Int.reduceAdd, Int.reduceSub, Int.reduceMul, Int.reduceEq, Int.reduceNeg, reduceCtorEq, resV, resAll, ARes.ev, LV.flat, ite_true, ite_false, exists_eq_left', exists_eq_left, keyOf, implies_true, fillC, capOf]
    · rw [show cmpI a b = 1 by simp [cmpI, h1, h2]]; exact cmp_drop0 rfl
    · rw [show cmpI a b = 0 by simp [cmpI, h1, h2]]; exact cmp_drop0 rfl

/-- Two lists of numbers, compared. -/
def cmpL : List Int → List Int → Int
  | [], [] => 0
  | [], _ :: _ => -1
  | _ :: _, [] => 1
  | a :: r, b :: r' => if cmpI a b = 0 then cmpL r r' else cmpI a b

theorem g_compare {xs ys : List Int} {t o t' o' : Nat} {M : Mem} (h : Ints M t o xs) (h' : Ints M t' o' ys) (hn : xs.length ≤ 1000000000) (hn' : ys.length ≤ 1000000000) :
    CallsTo PG F.slices_Compare_Sint_int [.ref t o xs.length, .ref t' o' ys.length] M (.I (cmpL xs ys)) M := by
  refine calls_run K.slices_Compare_Sint_int rfl ?_
  simp (disch := omega) only [C.slices_Compare_Sint_int, ↓SXd, SXu, slBounds, ↓sop, ↓aop, ↓reduceIte, LV.cells, AOp.dst, LV.I, LV.B, LV.U, LV.S, LV.nil, Nat.reduceEqDiff, Nat.reduceAdd, Nat.reduceMul, Nat.reduceSub, Nat.reduceLeDiff, Nat.reduceBEq, Nat.reduceDiv, Nat.reduceMod, Int.reduceToNat, Int.reduceLT, Int.reduceLE, Int.reduceAdd, Int.reduceSub, Int.reduceMul, Int.reduceEq, Int.reduceNeg, reduceCtorEq, resV, resAll, ARes.ev, LV.flat, ite_true, ite_false, exists_eq_left', exists_eq_left, keyOf, implies_true, fillC, capOf]
  refine ev_loop (fun m fr M' => ∃ k : Nat, k + m = xs.length ∧ M' = M ∧ k ≤ ys.length ∧ fr 0 = .ref t o xs.length ∧ fr 1 = .ref t' o' ys.length ∧ fr 9 = .ref t o xs.length ∧ fr 10 = .I (xs.length : Nat) ∧ fr 11 = .I k ∧ cmpL xs ys = cmpL (xs.drop k) (ys.drop k)) xs.length
    ⟨0, by omega, rfl, by omega, rfl, rfl, rfl, rfl, rfl, rfl⟩ ?_
  rintro m fr M' ⟨k, hk, rfl, hky, h0, h1, h9, h10, h11, he⟩
  simp (disch := omega) only [h0, h1, h9, h10, h11, ↓SXd, SXu, slBounds, ↓sop, ↓aop, ↓reduceIte, LV.cells, AOp.dst, LV.I, LV.B, LV.U, LV.S, LV.nil, Nat.reduceEqDiff, Nat.reduceAdd, Nat.reduceMul, Nat.reduceSub, Nat.reduceLeDiff, Nat.reduceBEq, Nat.reduceDiv, Nat.reduceMod, Int.reduceToNat, Int.reduceLT, Int.reduceLE, Int.reduceAdd, Int.reduceSub, Int.reduceMul, Int.reduceEq, Int.reduceNeg, reduceCtorEq, resV, resAll, ARes.ev, LV.flat, ite_true, ite_false, exists_eq_left', exists_eq_left, keyOf, implies_true, fillC, capOf]
  refine condC_dec (fun hlt => ?_) (fun hlt => ?_)
  · have hx : xs.drop k = xs.getD k 0 :: xs.drop (k + 1) := by
      rw [List.drop_eq_getElem_cons (show k < xs.length by omega)]; simp [show k < xs.length by omega]
    simp (disch := omega) only [h0, h1, h9, h10, h11, Ints.get h, ↓SXd, SXu, slBounds, ↓sop, ↓aop, ↓reduceIte, LV.cells, AOp.dst, LV.I, LV.B, LV.U, LV.S, LV.nil, Nat.reduceEqDiff, Nat.reduceAdd, Nat.reduceMul, Nat.reduceSub, Nat.reduceLeDiff, Nat.reduceBEq, Nat.reduceDiv, Nat.reduceMod, Int.reduceToNat, Int.reduceLT, Int.reduceLE, Int.reduceAdd, Int.reduceSub, Int.reduceMul, Int.reduceEq, Int.reduceNeg, reduceCtorEq, resV, resAll, ARes.ev, LV.flat, ite_true, ite_false, exists_eq_left', exists_eq_left, keyOf, implies_true, fillC, capOf]
    refine condC_dec (fun h2 => ?_) (fun h2 => ?_)
    · simp (disch := omega) only [h0, h1, h9, h10, h11, ↓SXd, SXu, slBounds, ↓sop, ↓aop, ↓reduceIte, LV.cells, AOp.dst, LV.I, LV.B, LV.U, LV.S, LV.nil, Nat.reduceEqDiff, Nat.reduceAdd, Nat.reduceMul, Nat.reduceSub, Nat.reduceLeDiff, Nat.reduceBEq, Nat.reduceDiv, Nat.reduceMod, Int.reduceToNat, Int.reduceLT, Int.reduceLE, Int.reduceAdd, Int.reduceSub, Int.reduceMul, Int.reduceEq, Int.reduceNeg, reduceCtorEq, resV, resAll, ARes.ev, LV.flat, ite_true, ite_false, exists_eq_left', exists_eq_left, keyOf, implies_true, fillC, capOf]
      have : ys.drop k = [] := List.drop_eq_nil_of_le (by omega)
      rw [he, hx, this]; exact cmp_drop0 rfl
    · have hy : ys.drop k = ys.getD k 0 :: ys.drop (k + 1) := by
        rw [List.drop_eq_getElem_cons (show k < ys.length by omega)]; simp [show k < ys.length by omega]
      simp (disch := omega) only [h0, h1, h9, h10, h11, Ints.get h, Ints.get h', ↓SXd, SXu, slBounds, ↓sop, ↓aop, ↓reduceIte, LV.cells, AOp.dst, LV.I, LV.B, LV.U, LV.S, LV.nil, Nat.reduceEqDiff, Nat.reduceAdd, Nat.reduceMul, Nat.reduceSub, Nat.reduceLeDiff, Nat.reduceBEq, Nat.reduceDiv, Nat.reduceMod, Int.reduceToNat, Int.reduceLT, Int.reduceLE, Int.reduceAdd, Int.reduceSub, Int.reduceMul, Int.reduceEq, Int.reduceNeg, reduceCtorEq, resV, resAll, ARes.ev, LV.flat, ite_true, ite_false, exists_eq_left', exists_eq_left, keyOf, implies_true, fillC, capOf]
      refine callK_of g_cmp ?_
      simp (disch := omega) only [h0, h1, h9, h10, h11, ↓SXd, SXu, slBounds, ↓sop, ↓aop, ↓reduceIte, LV.cells, AOp.dst, LV.I, LV.B, LV.U, LV.S, LV.nil, Nat.reduceEqDiff, Nat.reduceAdd, Nat.reduceMul, Nat.reduceSub, Nat.reduceLeDiff, Nat.reduceBEq, Nat.reduceDiv, Nat.reduceMod, Int.reduceToNat, Int.reduceLT, Int.reduceLE, Int.reduceAdd, Int.reduceSub, Int.reduceMul, Int.reduceEq, Int.reduceNeg, reduceCtorEq, resV, resAll, ARes.ev, LV.flat, ite_true, ite_false, exists_eq_left', exists_eq_left, keyOf, implies_true, fillC, capOf]
      refine condC_dec (fun h3 => ?_) (fun h3 => ?_)
      · simp (disch := omega) only [h0, h1, h9, h10, h11, ↓SXd, SXu, slBounds, ↓sop, ↓aop, ↓reduceIte, LV.cells, AOp.dst, LV.I, LV.B, LV.U, LV.S, LV.nil, Nat.reduceEqDiff, Nat.reduceAdd, Nat.reduceMul, Nat.reduceSub, Nat.reduceLeDiff, Nat.reduceBEq, Nat.reduceDiv, Nat.reduceMod, Int.reduceToNat, Int.reduceLT, Int.reduceLE, Int.reduceAdd, Int.reduceSub, Int.reduceMul, Int.reduceEq, Int.reduceNeg, reduceCtorEq, resV, resAll, ARes.ev, LV.flat, ite_true, ite_false, exists_eq_left', exists_eq_left, keyOf, implies_true, fillC, capOf]
        exact ⟨m - 1, by omega, k + 1, by omega, rfl, by omega, h0, h1, h9, h10, eqI (natI _), by rw [he, hx, hy, cmpL, if_pos h3]⟩
      · simp (disch := omega) only [h0, h1, h9, h10, h11, ↓SXd, SXu, slBounds, ↓sop, ↓aop, ↓reduceIte, LV.cells, AOp.dst, LV.I, LV.B, LV.U, LV.S, LV.nil, Nat.reduceEqDiff, Nat.reduceAdd, Nat.reduceMul, Nat.reduceSub, Nat.reduceLeDiff, Nat.reduceBEq, Nat.reduceDiv, Nat.reduceMod, Int.reduceToNat, Int.reduceLT, Int.reduceLE, Int.reduceAdd, Int.reduceSub, Int.reduceMul, Int.reduceEq, Int.reduceNeg, reduceCtorEq, resV, resAll, ARes.ev, LV.flat, ite_true, ite_false, exists_eq_left', exists_eq_left, keyOf, implies_true, fillC, capOf]
        rw [he, hx, hy, cmpL, if_neg h3]; exact cmp_drop0 rfl
  · simp (disch := omega) only [h0, h1, h9, h10, h11, ↓SXd, SXu, slBounds, ↓sop, ↓aop, ↓reduceIte, LV.cells, AOp.dst, LV.I, LV.B, LV.U, LV.S, LV.nil, Nat.reduceEqDiff, Nat.reduceAdd, Nat.reduceMul, Nat.reduceSub, Nat.reduceLeDiff, Nat.reduceBEq, Nat.reduceDiv, Nat.reduceMod, Int.reduceToNat, Int.reduceLT, Int.reduceLE, Int.reduceAdd, Int.reduceSub, Int.reduceMul, Int.reduceEq, Int.reduceNeg, reduceCtorEq, resV, resAll, ARes.ev, LV.flat, ite_true, ite_false, exists_eq_left', exists_eq_left, keyOf, implies_true, fillC, capOf]
    have hx : xs.drop k = [] := List.drop_eq_nil_of_le (by omega)
    refine condC_dec (fun h2 => ?_) (fun h2 => ?_) <;> simp (disch := omega) only [h0, h1, h9, h10, h11, ↓SXd, SXu, slBounds, ↓sop, ↓aop, ↓reduceIte, LV.cells, AOp.dst, LV.I, LV.B, LV.U, LV.S, LV.nil, Nat.reduceEqDiff, Nat.reduceAdd, Nat.reduceMul, Nat.reduceSub, Nat.reduceLeDiff, Nat.reduceBEq, Nat.reduceDiv, Nat.reduceMod, Int.reduceToNat, Int.reduceLT, Int.reduceLE, Int.reduceAdd, Int.reduceSub, Int.reduceMul, Int.reduceEq, Int.reduceNeg, reduceCtorEq, resV, resAll, ARes.ev, LV.flat, ite_true, ite_false, exists_eq_left', exists_eq_left, keyOf, implies_true, fillC, capOf]
    · have hy : ys.drop k = ys.getD k 0 :: ys.drop (k + 1) := by
        rw [List.drop_eq_getElem_cons (show k < ys.length by omega)]; simp [show k < ys.length by omega]
      rw [he, hx, hy]; exact cmp_drop0 rfl
    · have hy : ys.drop k = [] := List.drop_eq_nil_of_le (by omega)
      rw [he, hx, hy]; exact cmp_drop0 rfl

theorem cmpL_lt {a b c a' b' c' : Int} : 0 ≤ cmpL [a, b, c] [a', b', c'] ↔ ¬ Cell.lt ⟨a, b, c⟩ ⟨a', b', c'⟩ := by
  have hc : ∀ a b : Int, cmpI a b = if a < b then -1 else if b < a then 1 else 0 := fun _ _ => rfl
  simp only [cmpL, hc, Cell.lt]
  by_cases h1 : a < a' <;> by_cases h2 : a' < a <;> by_cases h3 : b < b' <;> by_cases h4 : b' < b <;> by_cases h5 : c < c' <;> by_cases h6 : c' < c <;> simp only [h1, h2, h3, h4, h5, h6, if_true, if_false] <;> simp <;> omega

theorem g_compareCells {a b c a' b' c' : Int} {M : Mem} : CallsTo PG F.impl_compareCells [.agg [.I a, .I b, .I c], .agg [.I a', .I b', .I c']] M (.I (cmpL [a, b, c] [a', b', c'])) M := by
  refine calls_run K.impl_compareCells rfl ?_
  simp (disch := omega) only [C.impl_compareCells, slBounds, Option.isSome_some, and_self, if_true, ↓SXd, SXu, slBounds, ↓sop, ↓aop, ↓reduceIte, LV.cells, AOp.dst, LV.I, LV.B, LV.U, LV.S, LV.nil, Nat.reduceEqDiff, Nat.reduceAdd, Nat.reduceMul, Nat.reduceSub, Nat.reduceLeDiff, Nat.reduceBEq, Nat.reduceDiv, Nat.reduceMod, Int.reduceToNat, Int.reduceLT, Int.reduceLE, Int.reduceAdd, Int.reduceSub, Int.reduceMul, Int.reduceEq, Int.reduceNeg, reduceCtorEq, resV, resAll, ARes.ev, LV.flat, ite_true, ite_false, exists_eq_left', exists_eq_left, keyOf, implies_true, fillC, capOf]
  refine callK_of (g_compare (xs := [a, b, c]) (ys := [a', b', c']) (o := 0) (o' := 0) (Live.new (b := .row (intL [a, b, c]) true 0)).has (Live.newj (j := 1) (b := .row (intL [a', b', c']) true 0) rfl).has (by simp) (by simp)) ?_
  simp (disch := omega) only [↓SXd, SXu, slBounds, ↓sop, ↓aop, ↓reduceIte, LV.cells, AOp.dst, LV.I, LV.B, LV.U, LV.S, LV.nil, Nat.reduceEqDiff, Nat.reduceAdd, Nat.reduceMul, Nat.reduceSub, Nat.reduceLeDiff, Nat.reduceBEq, Nat.reduceDiv, Nat.reduceMod, Int.reduceToNat, Int.reduceLT, Int.reduceLE, Int.reduceAdd, Int.reduceSub, Int.reduceMul, Int.reduceEq, Int.reduceNeg, reduceCtorEq, resV, resAll, ARes.ev, LV.flat, ite_true, ite_false, exists_eq_left', exists_eq_left, keyOf, implies_true, fillC, capOf]
  exact cmp_drop rfl

theorem g_IsHeap {x y z : Int} {t o : Nat} {cs : List Cell} {M : Mem} (h : Tri M t o cs) (hn : cs.length ≤ 1000000000) :
    CallsTo PG F.impl_IsHeap [.agg [.I x, .I y, .I z, .ref t o cs.length]] M (.B (decide (HeapOK x y z cs))) M := by
  refine calls_run K.impl_IsHeap rfl ?_
  simp (disch := omega) only [C.impl_IsHeap, ↓SXd, SXu, slBounds, ↓sop, ↓aop, ↓reduceIte, LV.cells, AOp.dst, LV.I, LV.B, LV.U, LV.S, LV.nil, Nat.reduceEqDiff, Nat.reduceAdd, Nat.reduceMul, Nat.reduceSub, Nat.reduceLeDiff, Nat.reduceBEq, Nat.reduceDiv, Nat.reduceMod, Int.reduceToNat, Int.reduceLT, Int.reduceLE, Int.reduceAdd, Int.reduceSub, Int.reduceMul, Int.reduceEq, Int.reduceNeg, reduceCtorEq, resV, resAll, ARes.ev, LV.flat, ite_true, ite_false, exists_eq_left', exists_eq_left, keyOf, implies_true, fillC, capOf]
  refine callK_of g_box ?_
  simp (disch := omega) only [↓SXd, SXu, slBounds, ↓sop, ↓aop, ↓reduceIte, LV.cells, AOp.dst, LV.I, LV.B, LV.U, LV.S, LV.nil, Nat.reduceEqDiff, Nat.reduceAdd, Nat.reduceMul, Nat.reduceSub, Nat.reduceLeDiff, Nat.reduceBEq, Nat.reduceDiv, Nat.reduceMod, Int.reduceToNat, Int.reduceLT, Int.reduceLE, Int.reduceAdd, Int.reduceSub, Int.reduceMul, Int.reduceEq, Int.reduceNeg, reduceCtorEq, resV, resAll, ARes.ev, LV.flat, ite_true, ite_false, exists_eq_left', exists_eq_left, keyOf, implies_true, fillC, capOf]
  refine callK_of g_valid ?_
  simp (disch := omega) only [↓SXd, SXu, slBounds, ↓sop, ↓aop, ↓reduceIte, LV.cells, AOp.dst, LV.I, LV.B, LV.U, LV.S, LV.nil, Nat.reduceEqDiff, Nat.reduceAdd, Nat.reduceMul, Nat.reduceSub, Nat.reduceLeDiff, Nat.reduceBEq, Nat.reduceDiv, Nat.reduceMod, Int.reduceToNat, Int.reduceLT, Int.reduceLE, Int.reduceAdd, Int.reduceSub, Int.reduceMul, Int.reduceEq, Int.reduceNeg, reduceCtorEq, resV, resAll, ARes.ev, LV.flat, ite_true, ite_false, exists_eq_left', exists_eq_left, keyOf, implies_true, fillC, capOf]
  by_cases hS : Sides x y z
  · simp (disch := omega) only [hS, ↓SXd, SXu, slBounds, ↓sop, ↓aop, ↓reduceIte, LV.cells, AOp.dst, LV.I, LV.B, LV.U, LV.S, LV.nil, Nat.reduceEqDiff, Nat.reduceAdd, Nat.reduceMul, Nat.reduceSub, Nat.reduceLeDiff, Nat.reduceBEq, Nat.reduceDiv, Nat.reduceMod, Int.reduceToNat, Int.reduceLT, Int.reduceLE, Int.reduceAdd, Int.reduceSub, Int.reduceMul, Int.reduceEq, Int.reduceNeg, reduceCtorEq, resV, resAll, ARes.ev, LV.flat, ite_true, ite_false, exists_eq_left', exists_eq_left, keyOf, implies_true, fillC, capOf]
    refine ev_loop (fun m fr M' => ∃ k : Nat, k + m = cs.length ∧ Pre M M' ∧ Live M' M.length (.row [.I x, .I y, .I z, .ref t o cs.length] true 0) ∧ fr 1 = .ptr M.length 0 ∧ fr 10 = .ref t o cs.length ∧ fr 11 = .I (cs.length : Nat) ∧ fr 12 = .I k ∧
      ∀ j, j < k → (cs.getD j default).inBox x y z ∧ (0 < j → (cs.getD (j - 1) default).lt (cs.getD j default))) cs.length ⟨0, by omega, Pre.app _ _, Live.new, rfl, rfl, rfl, rfl, by omega⟩ ?_
    rintro m fr M' ⟨k, hk, hpre, hbox, h1, h10, h11, h12, hj⟩
    have h' : Tri M' t o cs := h.pre hpre
    have ht := h'.lt
    simp (disch := omega) only [h1, h10, h11, h12, ↓SXd, SXu, slBounds, ↓sop, ↓aop, ↓reduceIte, LV.cells, AOp.dst, LV.I, LV.B, LV.U, LV.S, LV.nil, Nat.reduceEqDiff, Nat.reduceAdd, Nat.reduceMul, Nat.reduceSub, Nat.reduceLeDiff, Nat.reduceBEq, Nat.reduceDiv, Nat.reduceMod, Int.reduceToNat, Int.reduceLT, Int.reduceLE, Int.reduceAdd, Int.reduceSub, Int.reduceMul, Int.reduceEq, Int.reduceNeg, reduceCtorEq, resV, resAll, ARes.ev, LV.flat, ite_true, ite_false, exists_eq_left', exists_eq_left, keyOf, implies_true, fillC, capOf]
    refine condC_dec (fun hlt => ?_) (fun hlt => ?_)
    · have hbox' : ∀ {L : Mem} {o n : Nat}, getCells (M' ++ L) M.length o n = _ := fun {L o n} => (hbox.app (L := L)).cells
      have hboxc : ∀ {L : Mem} {o : Nat}, getCell (M' ++ L) M.length o = _ := fun {L o} => (hbox.app (L := L)).cell
      simp (disch := omega) only [h1, h10, h11, h12, Tri.get h', Cell.row, hbox', hboxc, ↓SXd, SXu, slBounds, ↓sop, ↓aop, ↓reduceIte, LV.cells, AOp.dst, LV.I, LV.B, LV.U, LV.S, LV.nil, Nat.reduceEqDiff, Nat.reduceAdd, Nat.reduceMul, Nat.reduceSub, Nat.reduceLeDiff, Nat.reduceBEq, Nat.reduceDiv, Nat.reduceMod, Int.reduceToNat, Int.reduceLT, Int.reduceLE, Int.reduceAdd, Int.reduceSub, Int.reduceMul, Int.reduceEq, Int.reduceNeg, reduceCtorEq, resV, resAll, ARes.ev, LV.flat, ite_true, ite_false, exists_eq_left', exists_eq_left, keyOf, implies_true, fillC, capOf]
      refine callK_of g_box ?_
      simp (disch := omega) only [h1, h10, h11, h12, Tri.get h', Cell.row, hbox', hboxc, ↓SXd, SXu, slBounds, ↓sop, ↓aop, ↓reduceIte, LV.cells, AOp.dst, LV.I, LV.B, LV.U, LV.S, LV.nil, Nat.reduceEqDiff, Nat.reduceAdd, Nat.reduceMul, Nat.reduceSub, Nat.reduceLeDiff, Nat.reduceBEq, Nat.reduceDiv, Nat.reduceMod, Int.reduceToNat, Int.reduceLT, Int.reduceLE, Int.reduceAdd, Int.reduceSub, Int.reduceMul, Int.reduceEq, Int.reduceNeg, reduceCtorEq, resV, resAll, ARes.ev, LV.flat, ite_true, ite_false, exists_eq_left', exists_eq_left, keyOf, implies_true, fillC, capOf]
      refine callK_of (g_has hS) ?_
      simp (disch := omega) only [h1, h10, h11, h12, Cell.row, cell_eta, ↓SXd, SXu, slBounds, ↓sop, ↓aop, ↓reduceIte, LV.cells, AOp.dst, LV.I, LV.B, LV.U, LV.S, LV.nil, Nat.reduceEqDiff, Nat.reduceAdd, Nat.reduceMul, Nat.reduceSub, Nat.reduceLeDiff, Nat.reduceBEq, Nat.reduceDiv, Nat.reduceMod, Int.reduceToNat, Int.reduceLT, Int.reduceLE, Int.reduceAdd, Int.reduceSub, Int.reduceMul, Int.reduceEq, Int.reduceNeg, reduceCtorEq, resV, resAll, ARes.ev, LV.flat, ite_true, ite_false, exists_eq_left', exists_eq_left, keyOf, implies_true, fillC, capOf]
      by_cases hin : (cs.getD k default).inBox x y z
      · by_cases hk0 : k = 0
        · subst hk0
          simp (disch := omega) only [hin, h1, h10, h11, h12, cell_eta, Int.natCast_zero, gt_iff_lt, Int.lt_irrefl, ↓SXd, SXu, slBounds, ↓sop, ↓aop, ↓reduceIte, LV.cells, AOp.dst, LV.I, LV.B, LV.U, LV.S, LV.nil, Nat.reduceEqDiff, Nat.reduceAdd, Nat.reduceMul, Nat.reduceSub, Nat.reduceLeDiff, Nat.reduceBEq, Nat.reduceDiv, Nat.reduceMod, Int.reduceToNat, Int.reduceLT, Int.reduceLE, Int.reduceAdd, Int.reduceSub, Int.reduceMul, Int.reduceEq, Int.reduceNeg, reduceCtorEq, resV, resAll, ARes.ev, LV.flat, ite_true, ite_false, exists_eq_left', exists_eq_left, keyOf, implies_true, fillC, capOf]
          exact ⟨m - 1, by omega, 1, by omega, Pre.app' hpre, hbox.app, h1, h10, h11, rfl, fun j hj1 => by
            have : j = 0 := by omega
            subst this
            exact ⟨hin, by omega⟩⟩
        · have e1 : ((k : Int) - 1).toNat = k - 1 := by omega
          have e2 : (0 : Int) < k := by omega
          simp (disch := omega) only [hin, h1, h10, h11, h12, getCells_app, Tri.get h', Cell.row, cell_eta, hbox', hboxc, e1, e2, ↓SXd, SXu, slBounds, ↓sop, ↓aop, ↓reduceIte, LV.cells, AOp.dst, LV.I, LV.B, LV.U, LV.S, LV.nil, Nat.reduceEqDiff, Nat.reduceAdd, Nat.reduceMul, Nat.reduceSub, Nat.reduceLeDiff, Nat.reduceBEq, Nat.reduceDiv, Nat.reduceMod, Int.reduceToNat, Int.reduceLT, Int.reduceLE, Int.reduceAdd, Int.reduceSub, Int.reduceMul, Int.reduceEq, Int.reduceNeg, reduceCtorEq, resV, resAll, ARes.ev, LV.flat, ite_true, ite_false, exists_eq_left', exists_eq_left, keyOf, implies_true, fillC, capOf]
          refine callK_of g_compareCells ?_
          simp (disch := omega) only [hin, h1, h10, h11, h12, cell_eta, ↓SXd, SXu, slBounds, ↓sop, ↓aop, ↓reduceIte, LV.cells, AOp.dst, LV.I, LV.B, LV.U, LV.S, LV.nil, Nat.reduceEqDiff, Nat.reduceAdd, Nat.reduceMul, Nat.reduceSub, Nat.reduceLeDiff, Nat.reduceBEq, Nat.reduceDiv, Nat.reduceMod, Int.reduceToNat, Int.reduceLT, Int.reduceLE, Int.reduceAdd, Int.reduceSub, Int.reduceMul, Int.reduceEq, Int.reduceNeg, reduceCtorEq, resV, resAll, ARes.ev, LV.flat, ite_true, ite_false, exists_eq_left', exists_eq_left, keyOf, implies_true, fillC, capOf]
          by_cases hb : (cs.getD (k - 1) default).lt (cs.getD k default)
          · have hb' : ¬ 0 ≤ cmpL [(cs.getD (k - 1) default).a, (cs.getD (k - 1) default).b, (cs.getD (k - 1) default).c] [(cs.getD k default).a, (cs.getD k default).b, (cs.getD k default).c] := fun e => (cmpL_lt.1 e) hb
            simp (disch := omega) only [hb', h1, h10, h11, h12, ↓SXd, SXu, slBounds, ↓sop, ↓aop, ↓reduceIte, LV.cells, AOp.dst, LV.I, LV.B, LV.U, LV.S, LV.nil, Nat.reduceEqDiff, Nat.reduceAdd, Nat.reduceMul, Nat.reduceSub, Nat.reduceLeDiff, Nat.reduceBEq, Nat.reduceDiv, Nat.reduceMod, Int.reduceToNat, Int.reduceLT, Int.reduceLE, Int.reduceAdd, Int.reduceSub, Int.reduceMul, Int.reduceEq, Int.reduceNeg, reduceCtorEq, resV, resAll, ARes.ev, LV.flat, ite_true, ite_false, exists_eq_left', exists_eq_left, keyOf, implies_true, fillC, capOf]
            exact ⟨m - 1, by omega, k + 1, by omega, Pre.app' hpre, hbox.app, h1, h10, h11, eqI (natI _), fun j hj1 => by
              by_cases hjk : j = k
              · subst hjk; exact ⟨hin, fun _ => hb⟩
              · exact hj j (by omega)⟩
          · have hb' : 0 ≤ cmpL [(cs.getD (k - 1) default).a, (cs.getD (k - 1) default).b, (cs.getD (k - 1) default).c] [(cs.getD k default).a, (cs.getD k default).b, (cs.getD k default).c] := cmpL_lt.2 hb
            simp (disch := omega) only [hb', h1, h10, h11, h12, ↓SXd, SXu, slBounds, ↓sop, ↓aop, ↓reduceIte, LV.cells, AOp.dst, LV.I, LV.B, LV.U, LV.S, LV.nil, Nat.reduceEqDiff, Nat.reduceAdd, Nat.reduceMul, Nat.reduceSub, Nat.reduceLeDiff, Nat.reduceBEq, Nat.reduceDiv, Nat.reduceMod, Int.reduceToNat, Int.reduceLT, Int.reduceLE, Int.reduceAdd, Int.reduceSub, Int.reduceMul, Int.reduceEq, Int.reduceNeg, reduceCtorEq, resV, resAll, ARes.ev, LV.flat, ite_true, ite_false, exists_eq_left', exists_eq_left, keyOf, implies_true, fillC, capOf]
            rw [decide_eq_false (fun hh : HeapOK x y z cs => hb ((hh.2 k (by omega)).2 (by omega)))]
            exact cmp_pre (Pre.app' hpre) rfl
      · simp (disch := omega) only [hin, h1, h10, h11, h12, ↓SXd, SXu, slBounds, ↓sop, ↓aop, ↓reduceIte, LV.cells, AOp.dst, LV.I, LV.B, LV.U, LV.S, LV.nil, Nat.reduceEqDiff, Nat.reduceAdd, Nat.reduceMul, Nat.reduceSub, Nat.reduceLeDiff, Nat.reduceBEq, Nat.reduceDiv, Nat.reduceMod, Int.reduceToNat, Int.reduceLT, Int.reduceLE, Int.reduceAdd, Int.reduceSub, Int.reduceMul, Int.reduceEq, Int.reduceNeg, reduceCtorEq, resV, resAll, ARes.ev, LV.flat, ite_true, ite_false, exists_eq_left', exists_eq_left, keyOf, implies_true, fillC, capOf]
        rw [decide_eq_false (fun hh : HeapOK x y z cs => hin (hh.2 k (by omega)).1)]
        exact cmp_pre (Pre.app' hpre) rfl
    · simp (disch := omega) only [h1, h10, h11, h12, ↓SXd, SXu, slBounds, ↓sop, ↓aop, ↓reduceIte, LV.cells, AOp.dst, LV.I, LV.B, LV.U, LV.S, LV.nil, Nat.reduceEqDiff, Nat.reduceAdd, Nat.reduceMul, Nat.reduceSub, Nat.reduceLeDiff, Nat.reduceBEq, Nat.reduceDiv, Nat.reduceMod, Int.reduceToNat, Int.reduceLT, Int.reduceLE, Int.reduceAdd, Int.reduceSub, Int.reduceMul, Int.reduceEq, Int.reduceNeg, reduceCtorEq, resV, resAll, ARes.ev, LV.flat, ite_true, ite_false, exists_eq_left', exists_eq_left, keyOf, implies_true, fillC, capOf]
      rw [decide_eq_true (show HeapOK x y z cs from ⟨hS, fun j hj1 => hj j (by omega)⟩)]
      exact cmp_pre hpre rfl
  · simp (disch := omega) only [hS, ↓SXd, SXu, slBounds, ↓sop, ↓aop, ↓reduceIte, LV.cells, AOp.dst, LV.I, LV.B, LV.U, LV.S, LV.nil, Nat.reduceEqDiff, Nat.reduceAdd, Nat.reduceMul, Nat.reduceSub, Nat.reduceLeDiff, Nat.reduceBEq, Nat.reduceDiv, Nat.reduceMod, Int.reduceToNat, Int.reduceLT, Int.reduceLE, Int.reduceAdd, Int.reduceSub, Int.reduceMul, Int.reduceEq, Int.reduceNeg, reduceCtorEq, resV, resAll, ARes.ev, LV.flat, ite_true, ite_false, exists_eq_left', exists_eq_left, keyOf, implies_true, fillC, capOf]
    exact cmp_dropF fun hh => hS hh.1
end Go.Ab

/- Contracts: the program's boxes, cells and sets. -/
namespace Go.Ab
open Go
set_option linter.unusedSimpArgs false
set_option linter.unusedVariables false

theorem set_bit {s : BitVec 64} {n : Nat} : decide (s >>> n &&& 1#64 = 1#64) = s.getLsbD n := by
  have : (s >>> n &&& 1#64 = 1#64) ↔ s.getLsbD n = true := by
    constructor
    · intro h
      have := congrArg (fun t => BitVec.getLsbD t 0) h
      simpa using this
    · intro h
      apply BitVec.eq_of_getLsbD_eq
      intro i hi
      rw [BitVec.getLsbD_and, BitVec.getLsbD_one]
      by_cases h0 : i = 0
      · subst h0; simp [h]
      · simp [h0]
  by_cases h : s.getLsbD n = true
  · rw [h, decide_eq_true (this.2 h)]
  · rw [decide_eq_false (fun e => h (this.1 e))]; simpa using h

theorem g_has_set {s : BitVec 64} {i : Int} {M : Mem} (hi : 0 ≤ i) : CallsTo PG F.impl_set_has [.W s, .I i] M (.B (s.getLsbD i.toNat)) M := by
  refine calls_run K.impl_set_has rfl ?_
  simp (disch := omega) only [C.impl_set_has, set_bit, ↓SXd, SXu, slBounds, ↓sop, ↓aop, ↓reduceIte, LV.cells, AOp.dst, LV.I, LV.B, LV.U, LV.S, LV.nil, Nat.reduceEqDiff, Nat.reduceAdd, Nat.reduceMul, Nat.reduceSub, Nat.reduceLeDiff, Nat.reduceBEq, Nat.reduceDiv, Nat.reduceMod, Int.reduceToNat, Int.reduceLT, Int.reduceLE, Int.reduceAdd, Int.reduceSub, Int.reduceMul, Int.reduceEq, Int.reduceNeg, reduceCtorEq, resV, resAll, ARes.ev, LV.flat, ite_true, ite_false, exists_eq_left', exists_eq_left, keyOf, implies_true, fillC, capOf]
  exact cmp_drop0 rfl

section
variable {x y z : Int} (hS : Sides x y z)
include hS

theorem g_size {M : Mem} : CallsTo PG F.impl_box_size [.agg [.I x, .I y, .I z]] M (.I ((vol x y z : Nat) : Int)) M := by
  have hb := vol_bound hS
  have hv := vol_cast hS
  refine calls_run K.impl_box_size rfl ?_
  simp (disch := omega) only [C.impl_box_size, ↓SXd, SXu, slBounds, ↓sop, ↓aop, ↓reduceIte, LV.cells, AOp.dst, LV.I, LV.B, LV.U, LV.S, LV.nil, Nat.reduceEqDiff, Nat.reduceAdd, Nat.reduceMul, Nat.reduceSub, Nat.reduceLeDiff, Nat.reduceBEq, Nat.reduceDiv, Nat.reduceMod, Int.reduceToNat, Int.reduceLT, Int.reduceLE, Int.reduceAdd, Int.reduceSub, Int.reduceMul, Int.reduceEq, Int.reduceNeg, reduceCtorEq, resV, resAll, ARes.ev, LV.flat, ite_true, ite_false, exists_eq_left', exists_eq_left, keyOf, implies_true, fillC, capOf]
  rw [hv.1]
  exact cmp_drop rfl

theorem g_index {c : Cell} {M : Mem} (hc : c.inBox x y z) : CallsTo PG F.impl_box_index [.agg [.I x, .I y, .I z], .agg [.I c.a, .I c.b, .I c.c]] M (.I (idx y z c)) M := by
  have hb := vol_bound hS
  have hi := idx_in hS hc
  obtain ⟨hx, hy, hz⟩ := id hS
  obtain ⟨h1, h2, h3⟩ := id hc
  have k1 : 0 ≤ c.a * y ∧ c.a * y ≤ 16 := by
    have e2 : y = 1 ∨ y = 2 ∨ y = 3 ∨ y = 4 := by omega
    rcases e2 with rfl | rfl | rfl | rfl <;> omega
  have k2 : 0 ≤ (c.a * y + c.b) * z ∧ (c.a * y + c.b) * z ≤ 100 := by
    have e3 : z = 1 ∨ z = 2 ∨ z = 3 ∨ z = 4 := by omega
    rcases e3 with rfl | rfl | rfl | rfl <;> omega
  refine calls_run K.impl_box_index rfl ?_
  simp (disch := omega) only [C.impl_box_index, ↓SXd, SXu, slBounds, ↓sop, ↓aop, ↓reduceIte, LV.cells, AOp.dst, LV.I, LV.B, LV.U, LV.S, LV.nil, Nat.reduceEqDiff, Nat.reduceAdd, Nat.reduceMul, Nat.reduceSub, Nat.reduceLeDiff, Nat.reduceBEq, Nat.reduceDiv, Nat.reduceMod, Int.reduceToNat, Int.reduceLT, Int.reduceLE, Int.reduceAdd, Int.reduceSub, Int.reduceMul, Int.reduceEq, Int.reduceNeg, reduceCtorEq, resV, resAll, ARes.ev, LV.flat, ite_true, ite_false, exists_eq_left', exists_eq_left, keyOf, implies_true, fillC, capOf]
  exact cmp_drop rfl

theorem g_cell {i : Int} {M : Mem} (h0 : 0 ≤ i) (hi : i < x * y * z) : CallsTo PG F.impl_box_cell [.agg [.I x, .I y, .I z], .I i] M (.agg [.I (cellAt y z i).a, .I (cellAt y z i).b, .I (cellAt y z i).c]) M := by
  have hb := vol_bound hS
  obtain ⟨hx, hy, hz⟩ := id hS
  have hy0 : y ≠ 0 := by omega
  have hz0 : z ≠ 0 := by omega
  have q1 : 0 ≤ i.tdiv z ∧ i.tdiv z ≤ 100 := by
    rw [Int.tdiv_eq_ediv_of_nonneg h0]
    exact ⟨Int.ediv_nonneg h0 (by omega), Int.le_trans (Int.ediv_le_self z h0) (by omega)⟩
  have q2 : 0 ≤ (i.tdiv z).tdiv y ∧ (i.tdiv z).tdiv y ≤ 100 := by
    rw [Int.tdiv_eq_ediv_of_nonneg q1.1]
    exact ⟨Int.ediv_nonneg q1.1 (by omega), Int.le_trans (Int.ediv_le_self y q1.1) (by omega)⟩
  have q3 : 0 ≤ (i.tdiv z).tmod y ∧ (i.tdiv z).tmod y ≤ 100 := by
    rw [Int.tmod_eq_emod_of_nonneg q1.1]
    have := Int.emod_lt_of_pos (i.tdiv z) (show 0 < y by omega)
    exact ⟨Int.emod_nonneg _ hy0, by omega⟩
  have q4 : 0 ≤ i.tmod z ∧ i.tmod z ≤ 100 := by
    rw [Int.tmod_eq_emod_of_nonneg h0]
    have := Int.emod_lt_of_pos i (show 0 < z by omega)
    exact ⟨Int.emod_nonneg _ hz0, by omega⟩
  refine calls_run K.impl_box_cell rfl ?_
  simp (disch := omega) only [C.impl_box_cell, ne_eq, not_false_eq_true, hy0, hz0, splice, ↓SXd, SXu, slBounds, ↓sop, ↓aop, ↓reduceIte, LV.cells, AOp.dst, LV.I, LV.B, LV.U, LV.S, LV.nil, Nat.reduceEqDiff, Nat.reduceAdd, Nat.reduceMul, Nat.reduceSub, Nat.reduceLeDiff, Nat.reduceBEq, Nat.reduceDiv, Nat.reduceMod, Int.reduceToNat, Int.reduceLT, Int.reduceLE, Int.reduceAdd, Int.reduceSub, Int.reduceMul, Int.reduceEq, Int.reduceNeg, reduceCtorEq, resV, resAll, ARes.ev, LV.flat, ite_true, ite_false, exists_eq_left', exists_eq_left, keyOf, implies_true, fillC, capOf]
  exact cmp_drop rfl

theorem g_full {M : Mem} : CallsTo PG F.impl_box_full [.agg [.I x, .I y, .I z]] M (.W (bs x y z fun _ => true)) M := by
  refine calls_run K.impl_box_full rfl ?_
  simp (disch := omega) only [C.impl_box_full, ↓SXd, SXu, slBounds, ↓sop, ↓aop, ↓reduceIte, LV.cells, AOp.dst, LV.I, LV.B, LV.U, LV.S, LV.nil, Nat.reduceEqDiff, Nat.reduceAdd, Nat.reduceMul, Nat.reduceSub, Nat.reduceLeDiff, Nat.reduceBEq, Nat.reduceDiv, Nat.reduceMod, Int.reduceToNat, Int.reduceLT, Int.reduceLE, Int.reduceAdd, Int.reduceSub, Int.reduceMul, Int.reduceEq, Int.reduceNeg, reduceCtorEq, resV, resAll, ARes.ev, LV.flat, ite_true, ite_false, exists_eq_left', exists_eq_left, keyOf, implies_true, fillC, capOf]
  refine callK_of (g_size hS) ?_
  simp (disch := omega) only [Int.toNat_natCast, ↓SXd, SXu, slBounds, ↓sop, ↓aop, ↓reduceIte, LV.cells, AOp.dst, LV.I, LV.B, LV.U, LV.S, LV.nil, Nat.reduceEqDiff, Nat.reduceAdd, Nat.reduceMul, Nat.reduceSub, Nat.reduceLeDiff, Nat.reduceBEq, Nat.reduceDiv, Nat.reduceMod, Int.reduceToNat, Int.reduceLT, Int.reduceLE, Int.reduceAdd, Int.reduceSub, Int.reduceMul, Int.reduceEq, Int.reduceNeg, reduceCtorEq, resV, resAll, ARes.ev, LV.flat, ite_true, ite_false, exists_eq_left', exists_eq_left, keyOf, implies_true, fillC, capOf]
  rw [bs_full hS]
  exact cmp_drop rfl

theorem range_pick_step {p : Cell → Bool} {k : Nat} : ((List.range (k + 1)).map fun (i : Nat) => cellAt y z i).filter p = ((List.range k).map fun (i : Nat) => cellAt y z i).filter p ++ (if p (cellAt y z k) then [cellAt y z k] else []) := by
  rw [List.range_succ, List.map_append, List.filter_append]
  congr 1
  by_cases h : p (cellAt y z k) = true
  · simp [h]
  · simp [h]

theorem g_list {p : Cell → Bool} {M : Mem} : CallsTo PG F.impl_box_list [.agg [.I x, .I y, .I z], .W (bs x y z p)] M (.ref M.length 0 (pick x y z p).length) (M ++ [some (.row (triL (pick x y z p)) true 3)]) := by
  have hv := vol_cast hS
  refine calls_run K.impl_box_list rfl ?_
  simp (disch := omega) only [C.impl_box_list, ↓SXd, SXu, slBounds, ↓sop, ↓aop, ↓reduceIte, LV.cells, AOp.dst, LV.I, LV.B, LV.U, LV.S, LV.nil, Nat.reduceEqDiff, Nat.reduceAdd, Nat.reduceMul, Nat.reduceSub, Nat.reduceLeDiff, Nat.reduceBEq, Nat.reduceDiv, Nat.reduceMod, Int.reduceToNat, Int.reduceLT, Int.reduceLE, Int.reduceAdd, Int.reduceSub, Int.reduceMul, Int.reduceEq, Int.reduceNeg, reduceCtorEq, resV, resAll, ARes.ev, LV.flat, ite_true, ite_false, exists_eq_left', exists_eq_left, keyOf, implies_true, fillC, capOf]
  refine callK_of (g_size hS) ?_
  simp (disch := omega) only [↓SXd, SXu, slBounds, ↓sop, ↓aop, ↓reduceIte, LV.cells, AOp.dst, LV.I, LV.B, LV.U, LV.S, LV.nil, Nat.reduceEqDiff, Nat.reduceAdd, Nat.reduceMul, Nat.reduceSub, Nat.reduceLeDiff, Nat.reduceBEq, Nat.reduceDiv, Nat.reduceMod, Int.reduceToNat, Int.reduceLT, Int.reduceLE, Int.reduceAdd, Int.reduceSub, Int.reduceMul, Int.reduceEq, Int.reduceNeg, reduceCtorEq, resV, resAll, ARes.ev, LV.flat, ite_true, ite_false, exists_eq_left', exists_eq_left, keyOf, implies_true, fillC, capOf]
  refine ev_loop (fun m fr M' => ∃ (k u : Nat) (acc : List Cell), k + m = vol x y z ∧ acc = ((List.range k).map fun (i : Nat) => cellAt y z i).filter p ∧ Pre M M' ∧ Live M' M.length (.row [.I x, .I y, .I z] true 0) ∧ M.length + 1 ≤ u ∧ Live M' u (.row (triL acc) true 3) ∧
    fr 1 = .W (bs x y z p) ∧ fr 2 = .ptr M.length 0 ∧ fr 5 = .ref u 0 acc.length ∧ fr 9 = .I ((vol x y z : Nat) : Int) ∧ fr 10 = .I k) (vol x y z)
    ⟨0, M.length + 1, [], by omega, rfl, Pre.app _ _, Live.new, by omega, Live.newj rfl, rfl, rfl, rfl, rfl, rfl⟩ ?_
  rintro m fr M' ⟨k, u, acc, hk, hacc, hpre, hbox, hu, hout, f1, f2, f5, f9, f10⟩
  have hal : acc.length ≤ k := by
    rw [hacc]
    exact Nat.le_trans (List.length_filter_le _ _) (by simp)
  simp (disch := omega) only [f1, f2, f5, f9, f10, ↓SXd, SXu, slBounds, ↓sop, ↓aop, ↓reduceIte, LV.cells, AOp.dst, LV.I, LV.B, LV.U, LV.S, LV.nil, Nat.reduceEqDiff, Nat.reduceAdd, Nat.reduceMul, Nat.reduceSub, Nat.reduceLeDiff, Nat.reduceBEq, Nat.reduceDiv, Nat.reduceMod, Int.reduceToNat, Int.reduceLT, Int.reduceLE, Int.reduceAdd, Int.reduceSub, Int.reduceMul, Int.reduceEq, Int.reduceNeg, reduceCtorEq, resV, resAll, ARes.ev, LV.flat, ite_true, ite_false, exists_eq_left', exists_eq_left, keyOf, implies_true, fillC, capOf]
  refine condC_dec (fun hlt => ?_) (fun hlt => ?_)
  · simp (disch := omega) only [f1, f2, f5, f9, f10, ↓SXd, SXu, slBounds, ↓sop, ↓aop, ↓reduceIte, LV.cells, AOp.dst, LV.I, LV.B, LV.U, LV.S, LV.nil, Nat.reduceEqDiff, Nat.reduceAdd, Nat.reduceMul, Nat.reduceSub, Nat.reduceLeDiff, Nat.reduceBEq, Nat.reduceDiv, Nat.reduceMod, Int.reduceToNat, Int.reduceLT, Int.reduceLE, Int.reduceAdd, Int.reduceSub, Int.reduceMul, Int.reduceEq, Int.reduceNeg, reduceCtorEq, resV, resAll, ARes.ev, LV.flat, ite_true, ite_false, exists_eq_left', exists_eq_left, keyOf, implies_true, fillC, capOf]
    refine callK_of (g_has_set (by omega)) ?_
    simp (disch := omega) only [f1, f2, f5, f9, f10, ↓SXd, SXu, slBounds, ↓sop, ↓aop, ↓reduceIte, LV.cells, AOp.dst, LV.I, LV.B, LV.U, LV.S, LV.nil, Nat.reduceEqDiff, Nat.reduceAdd, Nat.reduceMul, Nat.reduceSub, Nat.reduceLeDiff, Nat.reduceBEq, Nat.reduceDiv, Nat.reduceMod, Int.reduceToNat, Int.reduceLT, Int.reduceLE, Int.reduceAdd, Int.reduceSub, Int.reduceMul, Int.reduceEq, Int.reduceNeg, reduceCtorEq, resV, resAll, ARes.ev, LV.flat, ite_true, ite_false, exists_eq_left', exists_eq_left, keyOf, implies_true, fillC, capOf]
    have hst := range_pick_step hS (p := p) (k := k)
    have hbit := bs_bit hS p k
    rw [decide_eq_true (show k < vol x y z by omega), Bool.true_and] at hbit
    rw [hbit]
    by_cases hp : p (cellAt y z k) = true
    · rw [hp]
      rw [hp, if_pos rfl, ← hacc] at hst
      simp (disch := omega) only [f1, f2, f5, f9, f10, hbox.cells, ↓SXd, SXu, slBounds, ↓sop, ↓aop, ↓reduceIte, LV.cells, AOp.dst, LV.I, LV.B, LV.U, LV.S, LV.nil, Nat.reduceEqDiff, Nat.reduceAdd, Nat.reduceMul, Nat.reduceSub, Nat.reduceLeDiff, Nat.reduceBEq, Nat.reduceDiv, Nat.reduceMod, Int.reduceToNat, Int.reduceLT, Int.reduceLE, Int.reduceAdd, Int.reduceSub, Int.reduceMul, Int.reduceEq, Int.reduceNeg, reduceCtorEq, resV, resAll, ARes.ev, LV.flat, ite_true, ite_false, exists_eq_left', exists_eq_left, keyOf, implies_true, fillC, capOf]
      refine callK_of (g_cell hS (by omega) (by omega)) ?_
      simp (disch := omega) only [f1, f2, f5, f9, f10, ↓SXd, SXu, slBounds, ↓sop, ↓aop, ↓reduceIte, LV.cells, AOp.dst, LV.I, LV.B, LV.U, LV.S, LV.nil, Nat.reduceEqDiff, Nat.reduceAdd, Nat.reduceMul, Nat.reduceSub, Nat.reduceLeDiff, Nat.reduceBEq, Nat.reduceDiv, Nat.reduceMod, Int.reduceToNat, Int.reduceLT, Int.reduceLE, Int.reduceAdd, Int.reduceSub, Int.reduceMul, Int.reduceEq, Int.reduceNeg, reduceCtorEq, resV, resAll, ARes.ev, LV.flat, ite_true, ite_false, exists_eq_left', exists_eq_left, keyOf, implies_true, fillC, capOf]
      refine appendK_cell hout (by omega) fun N' l1 l2 l3 => ?_
      simp (disch := omega) only [f1, f2, f5, f9, f10, ↓SXd, SXu, slBounds, ↓sop, ↓aop, ↓reduceIte, LV.cells, AOp.dst, LV.I, LV.B, LV.U, LV.S, LV.nil, Nat.reduceEqDiff, Nat.reduceAdd, Nat.reduceMul, Nat.reduceSub, Nat.reduceLeDiff, Nat.reduceBEq, Nat.reduceDiv, Nat.reduceMod, Int.reduceToNat, Int.reduceLT, Int.reduceLE, Int.reduceAdd, Int.reduceSub, Int.reduceMul, Int.reduceEq, Int.reduceNeg, reduceCtorEq, resV, resAll, ARes.ev, LV.flat, ite_true, ite_false, exists_eq_left', exists_eq_left, keyOf, implies_true, fillC, capOf]
      exact ⟨m - 1, by omega, k + 1, _, _, by omega, hst.symm, pre_step hpre (by omega) l1 l3, live_step hbox (by omega) l3, by have := hpre.1; omega, l2, f1, f2, rfl, f9, eqI (natI _)⟩
    · have hp' : p (cellAt y z k) = false := by simpa using hp
      rw [hp']
      rw [hp', if_neg (by simp), List.append_nil, ← hacc] at hst
      simp (disch := omega) only [f1, f2, f5, f9, f10, ↓SXd, SXu, slBounds, ↓sop, ↓aop, ↓reduceIte, LV.cells, AOp.dst, LV.I, LV.B, LV.U, LV.S, LV.nil, Nat.reduceEqDiff, Nat.reduceAdd, Nat.reduceMul, Nat.reduceSub, Nat.reduceLeDiff, Nat.reduceBEq, Nat.reduceDiv, Nat.reduceMod, Int.reduceToNat, Int.reduceLT, Int.reduceLE, Int.reduceAdd, Int.reduceSub, Int.reduceMul, Int.reduceEq, Int.reduceNeg, reduceCtorEq, resV, resAll, ARes.ev, LV.flat, ite_true, ite_false, exists_eq_left', exists_eq_left, keyOf, implies_true, fillC, capOf]
      exact ⟨m - 1, by omega, k + 1, u, acc, by omega, hst.symm, hpre, hbox, hu, hout, f1, f2, f5, f9, eqI (natI _)⟩
  · simp (disch := omega) only [f1, f2, f5, f9, f10, ↓SXd, SXu, slBounds, ↓sop, ↓aop, ↓reduceIte, LV.cells, AOp.dst, LV.I, LV.B, LV.U, LV.S, LV.nil, Nat.reduceEqDiff, Nat.reduceAdd, Nat.reduceMul, Nat.reduceSub, Nat.reduceLeDiff, Nat.reduceBEq, Nat.reduceDiv, Nat.reduceMod, Int.reduceToNat, Int.reduceLT, Int.reduceLE, Int.reduceAdd, Int.reduceSub, Int.reduceMul, Int.reduceEq, Int.reduceNeg, reduceCtorEq, resV, resAll, ARes.ev, LV.flat, ite_true, ite_false, exists_eq_left', exists_eq_left, keyOf, implies_true, fillC, capOf]
    have : k = vol x y z := by omega
    subst this
    have e : pick x y z p = acc := hacc.symm
    rw [e]
    exact cmp_keepL hpre (by omega) hout (triL_lo acc) (by simp [rn, rn0, rn1])

theorem g_heap {p : Cell → Bool} {M : Mem} : CallsTo PG F.impl_box_heap [.agg [.I x, .I y, .I z], .W (bs x y z p)] M (.agg [.I x, .I y, .I z, .ref M.length 0 (pick x y z p).length]) (M ++ [some (.row (triL (pick x y z p)) true 3)]) := by
  refine calls_run K.impl_box_heap rfl ?_
  simp (disch := omega) only [C.impl_box_heap, ↓SXd, SXu, slBounds, ↓sop, ↓aop, ↓reduceIte, LV.cells, AOp.dst, LV.I, LV.B, LV.U, LV.S, LV.nil, Nat.reduceEqDiff, Nat.reduceAdd, Nat.reduceMul, Nat.reduceSub, Nat.reduceLeDiff, Nat.reduceBEq, Nat.reduceDiv, Nat.reduceMod, Int.reduceToNat, Int.reduceLT, Int.reduceLE, Int.reduceAdd, Int.reduceSub, Int.reduceMul, Int.reduceEq, Int.reduceNeg, reduceCtorEq, resV, resAll, ARes.ev, LV.flat, ite_true, ite_false, exists_eq_left', exists_eq_left, keyOf, implies_true, fillC, capOf]
  refine callK_of (g_list hS) ?_
  simp (disch := omega) only [splice, ↓SXd, SXu, slBounds, ↓sop, ↓aop, ↓reduceIte, LV.cells, AOp.dst, LV.I, LV.B, LV.U, LV.S, LV.nil, Nat.reduceEqDiff, Nat.reduceAdd, Nat.reduceMul, Nat.reduceSub, Nat.reduceLeDiff, Nat.reduceBEq, Nat.reduceDiv, Nat.reduceMod, Int.reduceToNat, Int.reduceLT, Int.reduceLE, Int.reduceAdd, Int.reduceSub, Int.reduceMul, Int.reduceEq, Int.reduceNeg, reduceCtorEq, resV, resAll, ARes.ev, LV.flat, ite_true, ite_false, exists_eq_left', exists_eq_left, keyOf, implies_true, fillC, capOf]
  exact cmp_keep1 (j := 2) rfl (triL_lo _) (by simp [rn, rn0, rn1, keepR_n])
end

theorem g_cubes {x y z : Int} {t o : Nat} {cs : List Cell} {M : Mem} (h : Tri M t o cs) (hn : cs.length ≤ 1000000000) (hS : Sides x y z) (hin : ∀ c ∈ cs, c.inBox x y z) :
    CallsTo PG F.impl_Heap_cubes [.agg [.I x, .I y, .I z, .ref t o cs.length]] M (.W (bs x y z fun c => decide (c ∈ cs))) M := by
  refine calls_run K.impl_Heap_cubes rfl ?_
  simp (disch := omega) only [C.impl_Heap_cubes, ↓SXd, SXu, slBounds, ↓sop, ↓aop, ↓reduceIte, LV.cells, AOp.dst, LV.I, LV.B, LV.U, LV.S, LV.nil, Nat.reduceEqDiff, Nat.reduceAdd, Nat.reduceMul, Nat.reduceSub, Nat.reduceLeDiff, Nat.reduceBEq, Nat.reduceDiv, Nat.reduceMod, Int.reduceToNat, Int.reduceLT, Int.reduceLE, Int.reduceAdd, Int.reduceSub, Int.reduceMul, Int.reduceEq, Int.reduceNeg, reduceCtorEq, resV, resAll, ARes.ev, LV.flat, ite_true, ite_false, exists_eq_left', exists_eq_left, keyOf, implies_true, fillC, capOf]
  refine ev_loop (fun m fr M' => ∃ k : Nat, k + m = cs.length ∧ Pre M M' ∧ Live M' M.length (.row [.I x, .I y, .I z, .ref t o cs.length] true 0) ∧ fr 1 = .ptr M.length 0 ∧ fr 3 = .W (bs x y z fun c => decide (c ∈ cs.take k)) ∧ fr 7 = .ref t o cs.length ∧ fr 8 = .I cs.length ∧ fr 9 = .I k) cs.length
    ⟨0, by omega, Pre.app _ _, Live.new, rfl, by rw [show (bs x y z fun c => decide (c ∈ cs.take 0)) = 0#64 from (bs_zero hS).2 fun c _ => by simp]; rfl, rfl, rfl, rfl⟩ ?_
  rintro m fr M' ⟨k, hk, hpre, hbox, f1, f3, f7, f8, f9⟩
  have ht := h.pre hpre
  simp (disch := omega) only [f1, f3, f7, f8, f9, ↓SXd, SXu, slBounds, ↓sop, ↓aop, ↓reduceIte, LV.cells, AOp.dst, LV.I, LV.B, LV.U, LV.S, LV.nil, Nat.reduceEqDiff, Nat.reduceAdd, Nat.reduceMul, Nat.reduceSub, Nat.reduceLeDiff, Nat.reduceBEq, Nat.reduceDiv, Nat.reduceMod, Int.reduceToNat, Int.reduceLT, Int.reduceLE, Int.reduceAdd, Int.reduceSub, Int.reduceMul, Int.reduceEq, Int.reduceNeg, reduceCtorEq, resV, resAll, ARes.ev, LV.flat, ite_true, ite_false, exists_eq_left', exists_eq_left, keyOf, implies_true, fillC, capOf]
  refine condC_dec (fun hlt => ?_) (fun hlt => ?_)
  · have hkl : k < cs.length := by omega
    have hc := hin (cs.getD k default) (getD_mem' hkl)
    have hix := (idx_in hS hc).1
    simp (disch := omega) only [f1, f3, f7, f8, f9, (Tri.get ht (k := k) (by omega)), Cell.row, splice, hbox.app.cells, ↓SXd, SXu, slBounds, ↓sop, ↓aop, ↓reduceIte, LV.cells, AOp.dst, LV.I, LV.B, LV.U, LV.S, LV.nil, Nat.reduceEqDiff, Nat.reduceAdd, Nat.reduceMul, Nat.reduceSub, Nat.reduceLeDiff, Nat.reduceBEq, Nat.reduceDiv, Nat.reduceMod, Int.reduceToNat, Int.reduceLT, Int.reduceLE, Int.reduceAdd, Int.reduceSub, Int.reduceMul, Int.reduceEq, Int.reduceNeg, reduceCtorEq, resV, resAll, ARes.ev, LV.flat, ite_true, ite_false, exists_eq_left', exists_eq_left, keyOf, implies_true, fillC, capOf]
    refine callK_of (g_box) ?_
    simp (disch := omega) only [f1, f3, f7, f8, f9, ↓SXd, SXu, slBounds, ↓sop, ↓aop, ↓reduceIte, LV.cells, AOp.dst, LV.I, LV.B, LV.U, LV.S, LV.nil, Nat.reduceEqDiff, Nat.reduceAdd, Nat.reduceMul, Nat.reduceSub, Nat.reduceLeDiff, Nat.reduceBEq, Nat.reduceDiv, Nat.reduceMod, Int.reduceToNat, Int.reduceLT, Int.reduceLE, Int.reduceAdd, Int.reduceSub, Int.reduceMul, Int.reduceEq, Int.reduceNeg, reduceCtorEq, resV, resAll, ARes.ev, LV.flat, ite_true, ite_false, exists_eq_left', exists_eq_left, keyOf, implies_true, fillC, capOf]
    refine callK_of (g_index hS hc) ?_
    simp (disch := omega) only [f1, f3, f7, f8, f9, ↓SXd, SXu, slBounds, ↓sop, ↓aop, ↓reduceIte, LV.cells, AOp.dst, LV.I, LV.B, LV.U, LV.S, LV.nil, Nat.reduceEqDiff, Nat.reduceAdd, Nat.reduceMul, Nat.reduceSub, Nat.reduceLeDiff, Nat.reduceBEq, Nat.reduceDiv, Nat.reduceMod, Int.reduceToNat, Int.reduceLT, Int.reduceLE, Int.reduceAdd, Int.reduceSub, Int.reduceMul, Int.reduceEq, Int.reduceNeg, reduceCtorEq, resV, resAll, ARes.ev, LV.flat, ite_true, ite_false, exists_eq_left', exists_eq_left, keyOf, implies_true, fillC, capOf]
    rw [bs_one hS hc, bs_or hS, show (bs x y z fun c => (decide (c ∈ cs.take k) || decide (c = cs.getD k default))) = bs x y z fun c => decide (c ∈ cs.take (k + 1)) from (bs_eq hS).2 fun c _ => take_dec hkl]
    exact ⟨m - 1, by omega, k + 1, by omega, hpre.app', hbox.app, f1, rfl, f7, f8, eqI (natI _)⟩
  · simp (disch := omega) only [f1, f3, f7, f8, f9, ↓SXd, SXu, slBounds, ↓sop, ↓aop, ↓reduceIte, LV.cells, AOp.dst, LV.I, LV.B, LV.U, LV.S, LV.nil, Nat.reduceEqDiff, Nat.reduceAdd, Nat.reduceMul, Nat.reduceSub, Nat.reduceLeDiff, Nat.reduceBEq, Nat.reduceDiv, Nat.reduceMod, Int.reduceToNat, Int.reduceLT, Int.reduceLE, Int.reduceAdd, Int.reduceSub, Int.reduceMul, Int.reduceEq, Int.reduceNeg, reduceCtorEq, resV, resAll, ARes.ev, LV.flat, ite_true, ite_false, exists_eq_left', exists_eq_left, keyOf, implies_true, fillC, capOf]
    have : k = cs.length := by omega
    subst this
    rw [List.take_length]
    exact cmp_pre hpre rfl

theorem g_hasCube {x y z : Int} {t o : Nat} {cs : List Cell} {c : Cell} {M : Mem} (h : Tri M t o cs) (hn : cs.length ≤ 1000000000) (hS : Sides x y z) (hin : ∀ c ∈ cs, c.inBox x y z) (hc : c.inBox x y z) :
    CallsTo PG F.impl_Heap_hasCube [.agg [.I x, .I y, .I z, .ref t o cs.length], .agg [.I c.a, .I c.b, .I c.c]] M (.B (decide (c ∈ cs))) M := by
  have hi := idx_in hS hc
  refine calls_run K.impl_Heap_hasCube rfl ?_
  simp (disch := omega) only [C.impl_Heap_hasCube, ↓SXd, SXu, slBounds, ↓sop, ↓aop, ↓reduceIte, LV.cells, AOp.dst, LV.I, LV.B, LV.U, LV.S, LV.nil, Nat.reduceEqDiff, Nat.reduceAdd, Nat.reduceMul, Nat.reduceSub, Nat.reduceLeDiff, Nat.reduceBEq, Nat.reduceDiv, Nat.reduceMod, Int.reduceToNat, Int.reduceLT, Int.reduceLE, Int.reduceAdd, Int.reduceSub, Int.reduceMul, Int.reduceEq, Int.reduceNeg, reduceCtorEq, resV, resAll, ARes.ev, LV.flat, ite_true, ite_false, exists_eq_left', exists_eq_left, keyOf, implies_true, fillC, capOf]
  refine callK_of (g_cubes h.app hn hS hin) ?_
  simp (disch := omega) only [↓SXd, SXu, slBounds, ↓sop, ↓aop, ↓reduceIte, LV.cells, AOp.dst, LV.I, LV.B, LV.U, LV.S, LV.nil, Nat.reduceEqDiff, Nat.reduceAdd, Nat.reduceMul, Nat.reduceSub, Nat.reduceLeDiff, Nat.reduceBEq, Nat.reduceDiv, Nat.reduceMod, Int.reduceToNat, Int.reduceLT, Int.reduceLE, Int.reduceAdd, Int.reduceSub, Int.reduceMul, Int.reduceEq, Int.reduceNeg, reduceCtorEq, resV, resAll, ARes.ev, LV.flat, ite_true, ite_false, exists_eq_left', exists_eq_left, keyOf, implies_true, fillC, capOf]
  refine callK_of (g_box) ?_
  simp (disch := omega) only [↓SXd, SXu, slBounds, ↓sop, ↓aop, ↓reduceIte, LV.cells, AOp.dst, LV.I, LV.B, LV.U, LV.S, LV.nil, Nat.reduceEqDiff, Nat.reduceAdd, Nat.reduceMul, Nat.reduceSub, Nat.reduceLeDiff, Nat.reduceBEq, Nat.reduceDiv, Nat.reduceMod, Int.reduceToNat, Int.reduceLT, Int.reduceLE, Int.reduceAdd, Int.reduceSub, Int.reduceMul, Int.reduceEq, Int.reduceNeg, reduceCtorEq, resV, resAll, ARes.ev, LV.flat, ite_true, ite_false, exists_eq_left', exists_eq_left, keyOf, implies_true, fillC, capOf]
  refine callK_of (g_index hS hc) ?_
  simp (disch := omega) only [↓SXd, SXu, slBounds, ↓sop, ↓aop, ↓reduceIte, LV.cells, AOp.dst, LV.I, LV.B, LV.U, LV.S, LV.nil, Nat.reduceEqDiff, Nat.reduceAdd, Nat.reduceMul, Nat.reduceSub, Nat.reduceLeDiff, Nat.reduceBEq, Nat.reduceDiv, Nat.reduceMod, Int.reduceToNat, Int.reduceLT, Int.reduceLE, Int.reduceAdd, Int.reduceSub, Int.reduceMul, Int.reduceEq, Int.reduceNeg, reduceCtorEq, resV, resAll, ARes.ev, LV.flat, ite_true, ite_false, exists_eq_left', exists_eq_left, keyOf, implies_true, fillC, capOf]
  refine callK_of (g_has_set (by omega)) ?_
  simp (disch := omega) only [↓SXd, SXu, slBounds, ↓sop, ↓aop, ↓reduceIte, LV.cells, AOp.dst, LV.I, LV.B, LV.U, LV.S, LV.nil, Nat.reduceEqDiff, Nat.reduceAdd, Nat.reduceMul, Nat.reduceSub, Nat.reduceLeDiff, Nat.reduceBEq, Nat.reduceDiv, Nat.reduceMod, Int.reduceToNat, Int.reduceLT, Int.reduceLE, Int.reduceAdd, Int.reduceSub, Int.reduceMul, Int.reduceEq, Int.reduceNeg, reduceCtorEq, resV, resAll, ARes.ev, LV.flat, ite_true, ite_false, exists_eq_left', exists_eq_left, keyOf, implies_true, fillC, capOf]
  rw [bs_has hS hc]
  exact cmp_drop rfl

/-- The six neighbours of a cell, as the program looks at them. -/
def nbrs (c : Cell) : List Cell := [⟨c.a + -1, c.b, c.c⟩, ⟨c.a + 1, c.b, c.c⟩, ⟨c.a, c.b + -1, c.c⟩, ⟨c.a, c.b + 1, c.c⟩, ⟨c.a, c.b, c.c + -1⟩, ⟨c.a, c.b, c.c + 1⟩]
theorem mem_nbrs {c d : Cell} : d ∈ nbrs c ↔ apart c d = 1 := by
  obtain ⟨a, b, e⟩ := c
  obtain ⟨a', b', e'⟩ := d
  simp only [nbrs, List.mem_cons, List.mem_nil_iff, or_false, cell_eq, apart]
  omega

section
variable {x y z : Int} (hS : Sides x y z)
include hS
theorem g_those {p : Cell → Bool} {f : FuncId} {caps : List (Nat × Nat)} {M : Mem}
    (hf : ∀ M', Pre M M' → ∀ i : Nat, i < vol x y z → CallsTo PG f ([.agg [.I (cellAt y z i).a, .I (cellAt y z i).b, .I (cellAt y z i).c]] ++ caps.map fun p => .ptr p.1 p.2) M' (.B (p (cellAt y z i))) M') :
    CallsTo PG F.impl_box_those [.agg [.I x, .I y, .I z], .clo f caps] M (.W (bs x y z p)) M := by
  have hv := vol_cast hS
  refine calls_run K.impl_box_those rfl ?_
  simp (disch := omega) only [C.impl_box_those, ↓SXd, SXu, slBounds, ↓sop, ↓aop, ↓reduceIte, LV.cells, AOp.dst, LV.I, LV.B, LV.U, LV.S, LV.nil, Nat.reduceEqDiff, Nat.reduceAdd, Nat.reduceMul, Nat.reduceSub, Nat.reduceLeDiff, Nat.reduceBEq, Nat.reduceDiv, Nat.reduceMod, Int.reduceToNat, Int.reduceLT, Int.reduceLE, Int.reduceAdd, Int.reduceSub, Int.reduceMul, Int.reduceEq, Int.reduceNeg, reduceCtorEq, resV, resAll, ARes.ev, LV.flat, ite_true, ite_false, exists_eq_left', exists_eq_left, keyOf, implies_true, fillC, capOf]
  refine callK_of (g_size hS) ?_
  simp (disch := omega) only [↓SXd, SXu, slBounds, ↓sop, ↓aop, ↓reduceIte, LV.cells, AOp.dst, LV.I, LV.B, LV.U, LV.S, LV.nil, Nat.reduceEqDiff, Nat.reduceAdd, Nat.reduceMul, Nat.reduceSub, Nat.reduceLeDiff, Nat.reduceBEq, Nat.reduceDiv, Nat.reduceMod, Int.reduceToNat, Int.reduceLT, Int.reduceLE, Int.reduceAdd, Int.reduceSub, Int.reduceMul, Int.reduceEq, Int.reduceNeg, reduceCtorEq, resV, resAll, ARes.ev, LV.flat, ite_true, ite_false, exists_eq_left', exists_eq_left, keyOf, implies_true, fillC, capOf]
  refine ev_loop (fun m fr M' => ∃ k : Nat, k + m = vol x y z ∧ Pre M M' ∧ Live M' M.length (.row [.I x, .I y, .I z] true 0) ∧ fr 1 = .clo f caps ∧ fr 2 = .ptr M.length 0 ∧ fr 5 = .W (bsN k fun i => p (cellAt y z i)) ∧ fr 8 = .I ((vol x y z : Nat) : Int) ∧ fr 9 = .I k) (vol x y z)
    ⟨0, by omega, Pre.app _ _, Live.new, rfl, rfl, rfl, rfl, rfl⟩ ?_
  rintro m fr M' ⟨k, hk, hpre, hbox, f1, f2, f5, f8, f9⟩
  simp (disch := omega) only [f1, f2, f5, f8, f9, ↓SXd, SXu, slBounds, ↓sop, ↓aop, ↓reduceIte, LV.cells, AOp.dst, LV.I, LV.B, LV.U, LV.S, LV.nil, Nat.reduceEqDiff, Nat.reduceAdd, Nat.reduceMul, Nat.reduceSub, Nat.reduceLeDiff, Nat.reduceBEq, Nat.reduceDiv, Nat.reduceMod, Int.reduceToNat, Int.reduceLT, Int.reduceLE, Int.reduceAdd, Int.reduceSub, Int.reduceMul, Int.reduceEq, Int.reduceNeg, reduceCtorEq, resV, resAll, ARes.ev, LV.flat, ite_true, ite_false, exists_eq_left', exists_eq_left, keyOf, implies_true, fillC, capOf]
  refine condC_dec (fun hlt => ?_) (fun hlt => ?_)
  · simp (disch := omega) only [f1, f2, f5, f8, f9, hbox.cells, ↓SXd, SXu, slBounds, ↓sop, ↓aop, ↓reduceIte, LV.cells, AOp.dst, LV.I, LV.B, LV.U, LV.S, LV.nil, Nat.reduceEqDiff, Nat.reduceAdd, Nat.reduceMul, Nat.reduceSub, Nat.reduceLeDiff, Nat.reduceBEq, Nat.reduceDiv, Nat.reduceMod, Int.reduceToNat, Int.reduceLT, Int.reduceLE, Int.reduceAdd, Int.reduceSub, Int.reduceMul, Int.reduceEq, Int.reduceNeg, reduceCtorEq, resV, resAll, ARes.ev, LV.flat, ite_true, ite_false, exists_eq_left', exists_eq_left, keyOf, implies_true, fillC, capOf]
    refine callK_of (g_cell hS (by omega) (by omega)) ?_
    simp (disch := omega) only [f1, f2, f5, f8, f9, ↓SXd, SXu, slBounds, ↓sop, ↓aop, ↓reduceIte, LV.cells, AOp.dst, LV.I, LV.B, LV.U, LV.S, LV.nil, Nat.reduceEqDiff, Nat.reduceAdd, Nat.reduceMul, Nat.reduceSub, Nat.reduceLeDiff, Nat.reduceBEq, Nat.reduceDiv, Nat.reduceMod, Int.reduceToNat, Int.reduceLT, Int.reduceLE, Int.reduceAdd, Int.reduceSub, Int.reduceMul, Int.reduceEq, Int.reduceNeg, reduceCtorEq, resV, resAll, ARes.ev, LV.flat, ite_true, ite_false, exists_eq_left', exists_eq_left, keyOf, implies_true, fillC, capOf]
    refine callK_of (hf M' hpre k (by omega)) ?_
    have hst := bsN_succ k fun i => p (cellAt y z i)
    by_cases hp : p (cellAt y z k) = true
    · rw [if_pos hp] at hst
      simp (disch := omega) only [f1, f2, f5, f8, f9, hp, ↓SXd, SXu, slBounds, ↓sop, ↓aop, ↓reduceIte, LV.cells, AOp.dst, LV.I, LV.B, LV.U, LV.S, LV.nil, Nat.reduceEqDiff, Nat.reduceAdd, Nat.reduceMul, Nat.reduceSub, Nat.reduceLeDiff, Nat.reduceBEq, Nat.reduceDiv, Nat.reduceMod, Int.reduceToNat, Int.reduceLT, Int.reduceLE, Int.reduceAdd, Int.reduceSub, Int.reduceMul, Int.reduceEq, Int.reduceNeg, reduceCtorEq, resV, resAll, ARes.ev, LV.flat, ite_true, ite_false, exists_eq_left', exists_eq_left, keyOf, implies_true, fillC, capOf]
      rw [← hst]
      exact ⟨m - 1, by omega, k + 1, by omega, hpre, hbox, f1, f2, rfl, f8, eqI (natI _)⟩
    · rw [if_neg hp] at hst
      have hp' : p (cellAt y z k) = false := by simpa using hp
      simp (disch := omega) only [f1, f2, f5, f8, f9, hp', ↓SXd, SXu, slBounds, ↓sop, ↓aop, ↓reduceIte, LV.cells, AOp.dst, LV.I, LV.B, LV.U, LV.S, LV.nil, Nat.reduceEqDiff, Nat.reduceAdd, Nat.reduceMul, Nat.reduceSub, Nat.reduceLeDiff, Nat.reduceBEq, Nat.reduceDiv, Nat.reduceMod, Int.reduceToNat, Int.reduceLT, Int.reduceLE, Int.reduceAdd, Int.reduceSub, Int.reduceMul, Int.reduceEq, Int.reduceNeg, reduceCtorEq, resV, resAll, ARes.ev, LV.flat, ite_true, ite_false, exists_eq_left', exists_eq_left, keyOf, implies_true, fillC, capOf]
      exact ⟨m - 1, by omega, k + 1, by omega, hpre, hbox, f1, f2, by rw [hst]; exact f5, f8, eqI (natI _)⟩
  · simp (disch := omega) only [f1, f2, f5, f8, f9, ↓SXd, SXu, slBounds, ↓sop, ↓aop, ↓reduceIte, LV.cells, AOp.dst, LV.I, LV.B, LV.U, LV.S, LV.nil, Nat.reduceEqDiff, Nat.reduceAdd, Nat.reduceMul, Nat.reduceSub, Nat.reduceLeDiff, Nat.reduceBEq, Nat.reduceDiv, Nat.reduceMod, Int.reduceToNat, Int.reduceLT, Int.reduceLE, Int.reduceAdd, Int.reduceSub, Int.reduceMul, Int.reduceEq, Int.reduceNeg, reduceCtorEq, resV, resAll, ARes.ev, LV.flat, ite_true, ite_false, exists_eq_left', exists_eq_left, keyOf, implies_true, fillC, capOf]
    have : k = vol x y z := by omega
    subst this
    exact cmp_pre hpre rfl
end
end Go.Ab

/- Plain words: what is reached from some cells within a set. -/
namespace Go.Ab

/-- What is reached from the cells of p by way of cells of q, all in the box. -/
inductive Reach (x y z : Int) (p q : Cell → Bool) : Cell → Prop
  | base {c : Cell} : c.inBox x y z → p c = true → Reach x y z p q c
  | step {c d : Cell} : Reach x y z p q c → apart c d = 1 → d.inBox x y z → q d = true → Reach x y z p q d
noncomputable def reach (x y z : Int) (p q : Cell → Bool) : Cell → Bool := fun c => @decide (Reach x y z p q c) (Classical.propDecidable _)
theorem reach_iff {x y z : Int} {p q : Cell → Bool} {c : Cell} : reach x y z p q c = true ↔ Reach x y z p q c := by
  unfold reach; exact @decide_eq_true_iff _ (Classical.propDecidable _)
theorem Reach.inBox {x y z : Int} {p q : Cell → Bool} {c : Cell} (h : Reach x y z p q c) : c.inBox x y z := by
  cases h <;> assumption
theorem Reach.mono {x y z : Int} {p q p' q' : Cell → Bool} (hp : ∀ c, c.inBox x y z → p c = true → Reach x y z p' q' c) (hq : ∀ c, c.inBox x y z → q c = true → q' c = true) {c : Cell} (h : Reach x y z p q c) : Reach x y z p' q' c := by
  induction h with
  | base h1 h2 => exact hp _ h1 h2
  | step _ h2 h3 h4 ih => exact .step ih h2 h3 (hq _ h3 h4)
/-- What holds of the beginning and is carried on holds of all that is reached. -/
theorem Reach.ind {x y z : Int} {p q : Cell → Bool} {P : Cell → Prop} (h0 : ∀ c, c.inBox x y z → p c = true → P c) (h1 : ∀ c d, P c → apart c d = 1 → d.inBox x y z → q d = true → P d) {c : Cell} (h : Reach x y z p q c) : P c := by
  induction h with
  | base h2 h3 => exact h0 _ h2 h3
  | step _ h2 h3 h4 ih => exact h1 _ _ ih h2 h3 h4
theorem apart_comm (c d : Cell) : apart c d = apart d c := by unfold apart; omega

/-- One round of growing: only of the first k cells. -/
noncomputable def growK (y z : Int) (p q : Cell → Bool) (k : Nat) : Cell → Bool := by
  classical
  exact fun c => p c || (q c && decide (∃ j, j < k ∧ p (cellAt y z j) = true ∧ apart (cellAt y z j) c = 1))
theorem growK_iff {y z : Int} {p q : Cell → Bool} {k : Nat} {c : Cell} : growK y z p q k c = true ↔ p c = true ∨ (q c = true ∧ ∃ j, j < k ∧ p (cellAt y z j) = true ∧ apart (cellAt y z j) c = 1) := by
  unfold growK
  simp only [Bool.or_eq_true, Bool.and_eq_true, decide_eq_true_eq]
theorem growK_zero {y z : Int} {p q : Cell → Bool} : growK y z p q 0 = p := by
  funext c
  have := growK_iff (y := y) (z := z) (p := p) (q := q) (k := 0) (c := c)
  cases hp : p c <;> simp_all
theorem growK_succ {y z : Int} {p q : Cell → Bool} {k : Nat} (c : Cell) : growK y z p q (k + 1) c = if p (cellAt y z k) then (growK y z p q k c || (decide (apart (cellAt y z k) c = 1) && q c)) else growK y z p q k c := by
  have h1 := growK_iff (y := y) (z := z) (p := p) (q := q) (k := k) (c := c)
  have h2 := growK_iff (y := y) (z := z) (p := p) (q := q) (k := k + 1) (c := c)
  split
  · rename_i hp
    rw [Bool.eq_iff_iff, h2, Bool.or_eq_true, h1, Bool.and_eq_true, decide_eq_true_eq]
    constructor
    · rintro (h | ⟨hq, j, hj, h3, h4⟩)
      · exact .inl (.inl h)
      · rcases Nat.lt_or_ge j k with h5 | h5
        · exact .inl (.inr ⟨hq, j, h5, h3, h4⟩)
        · rw [show j = k by omega] at h4; exact .inr ⟨h4, hq⟩
    · rintro ((h | ⟨hq, j, hj, h3, h4⟩) | ⟨h4, hq⟩)
      · exact .inl h
      · exact .inr ⟨hq, j, by omega, h3, h4⟩
      · exact .inr ⟨hq, k, by omega, hp, h4⟩
  · rename_i hp
    rw [Bool.eq_iff_iff, h2, h1]
    constructor
    · rintro (h | ⟨hq, j, hj, h3, h4⟩)
      · exact .inl h
      · rcases Nat.lt_or_ge j k with h5 | h5
        · exact .inr ⟨hq, j, h5, h3, h4⟩
        · rw [show j = k by omega] at h3; exact absurd h3 hp
    · rintro (h | ⟨hq, j, hj, h3, h4⟩)
      · exact .inl h
      · exact .inr ⟨hq, j, by omega, h3, h4⟩

section
variable {x y z : Int} (hS : Sides x y z)
include hS
theorem grow_iff {p q : Cell → Bool} {c : Cell} : growK y z p q (vol x y z) c = true ↔ p c = true ∨ (q c = true ∧ ∃ d, d.inBox x y z ∧ p d = true ∧ apart d c = 1) := by
  have hv := vol_cast hS
  rw [growK_iff]
  constructor
  · rintro (h | ⟨h1, j, h2, h3, h4⟩)
    · exact .inl h
    · exact .inr ⟨h1, _, (cellAt_in hS (by omega) (by omega)).1, h3, h4⟩
  · rintro (h | ⟨h1, d, h2, h3, h4⟩)
    · exact .inl h
    · obtain ⟨k1, k2, k3⟩ := idx_in hS h2
      refine .inr ⟨h1, (idx y z d).toNat, by omega, ?_, ?_⟩
      · rw [Int.toNat_of_nonneg k1, k3]; exact h3
      · rw [Int.toNat_of_nonneg k1, k3]; exact h4
/-- How many cells of the box are not in the set. -/
def rest (x y z : Int) (p : Cell → Bool) : Nat := (pick x y z fun c => !p c).length
theorem filter_lt {α : Type} {l : List α} {p q : α → Bool} (h : ∀ a ∈ l, p a = true → q a = true) (hx : ∃ a ∈ l, q a = true ∧ p a = false) : (l.filter p).length < (l.filter q).length := by
  induction l with
  | nil => obtain ⟨a, ha, _⟩ := hx; cases ha
  | cons a l ih =>
    have hle : (l.filter p).length ≤ (l.filter q).length := by
      clear ih hx
      induction l with
      | nil => exact Nat.le_refl _
      | cons b l ih =>
        have := ih fun c hc => h c (by simp only [List.mem_cons] at hc ⊢; rcases hc with h | h <;> simp [h])
        by_cases hb : p b = true
        · rw [List.filter_cons_of_pos hb, List.filter_cons_of_pos (h b (by simp) hb)]; simpa using this
        · rw [List.filter_cons_of_neg hb]
          by_cases hq : q b = true
          · rw [List.filter_cons_of_pos hq, List.length_cons]; omega
          · rw [List.filter_cons_of_neg hq]; exact this
    by_cases ha : p a = true
    · have := ih (fun b hb => h b (by simp [hb])) (by
        obtain ⟨b, hb, h1, h2⟩ := hx
        rcases List.mem_cons.1 hb with rfl | hb
        · rw [ha] at h2; cases h2
        · exact ⟨b, hb, h1, h2⟩)
      rw [List.filter_cons_of_pos ha, List.filter_cons_of_pos (h a (by simp) ha), List.length_cons, List.length_cons]; omega
    · rw [List.filter_cons_of_neg ha]
      by_cases hq : q a = true
      · rw [List.filter_cons_of_pos hq, List.length_cons]; omega
      · rw [List.filter_cons_of_neg hq]
        exact ih (fun b hb => h b (by simp [hb])) (by
          obtain ⟨b, hb, h1, h2⟩ := hx
          rcases List.mem_cons.1 hb with rfl | hb
          · exact absurd h1 hq
          · exact ⟨b, hb, h1, h2⟩)
theorem rest_lt {p p' : Cell → Bool} (h : ∀ c, c.inBox x y z → p c = true → p' c = true) (hx : ∃ c, c.inBox x y z ∧ p c = false ∧ p' c = true) : rest x y z p' < rest x y z p := by
  unfold rest pick
  refine filter_lt hS (fun c hc hp => ?_) ?_
  · cases hh : p c with
    | false => rfl
    | true => rw [h c ((mem_cellsOf hS).1 hc) hh] at hp; cases hp
  · obtain ⟨c, h1, h2, h3⟩ := hx
    exact ⟨c, (mem_cellsOf hS).2 h1, by rw [h2]; rfl, by rw [h3]; rfl⟩
theorem rest_le (p : Cell → Bool) : rest x y z p ≤ 64 := pick_len hS _
/-- What does not grow is all that is reached. -/
theorem reach_of_fix {p q r : Cell → Bool} (h0 : ∀ c, c.inBox x y z → p c = true → r c = true) (h1 : ∀ c, c.inBox x y z → r c = true → Reach x y z p q c) (h2 : ∀ c, c.inBox x y z → growK y z r q (vol x y z) c = r c) :
    ∀ c, c.inBox x y z → r c = reach x y z p q c := by
  intro c hc
  rw [Bool.eq_iff_iff, reach_iff]
  refine ⟨h1 c hc, fun h => ?_⟩
  have : r c = true := by
    refine h.ind (P := fun c => c.inBox x y z ∧ r c = true) (fun c h3 h4 => ⟨h3, h0 c h3 h4⟩) (fun c d ⟨h3, h4⟩ h5 h6 h7 => ⟨h6, ?_⟩) |>.2
    rw [← h2 d h6]
    exact (grow_iff hS).2 (.inr ⟨h7, c, h3, h4, h5⟩)
  exact this
end
end Go.Ab

/- Contracts: neighbours; what grows. -/
namespace Go.Ab
open Go
set_option linter.unusedSimpArgs false
set_option linter.unusedVariables false

/-- The first k neighbours of a cell. -/
def nbrK (c : Cell) (k : Nat) (e : Cell) : Bool := decide (e ∈ (nbrs c).take k)
theorem nbrK_step {c : Cell} {k : Nat} (hk : k < 6) (e : Cell) : nbrK c (k + 1) e = (nbrK c k e || decide (e = (nbrs c).getD k default)) := (take_dec (cs := nbrs c) (by simpa [nbrs] using hk)).symm

section
variable {x y z : Int} (hS : Sides x y z)
include hS
theorem g_nearSet {c : Cell} {M : Mem} (hc : c.inBox x y z) : CallsTo PG F.impl_box_near [.agg [.I x, .I y, .I z], .agg [.I c.a, .I c.b, .I c.c]] M (.W (bs x y z fun d => decide (apart c d = 1))) M := by
  obtain ⟨h1, h2, h3⟩ := id hc
  obtain ⟨hx, hy, hz⟩ := id hS
  refine calls_run K.impl_box_near rfl ?_
  simp (disch := omega) only [C.impl_box_near, ↓SXd, SXu, slBounds, ↓sop, ↓aop, ↓reduceIte, LV.cells, AOp.dst, LV.I, LV.B, LV.U, LV.S, LV.nil, Nat.reduceEqDiff, Nat.reduceAdd, Nat.reduceMul, Nat.reduceSub, Nat.reduceLeDiff, Nat.reduceBEq, Nat.reduceDiv, Nat.reduceMod, Int.reduceToNat, Int.reduceLT, Int.reduceLE, Int.reduceAdd, Int.reduceSub, Int.reduceMul, Int.reduceEq, Int.reduceNeg, reduceCtorEq, resV, resAll, ARes.ev, LV.flat, ite_true, ite_false, exists_eq_left', exists_eq_left, keyOf, implies_true, fillC, capOf]
  refine ev_loop (fun m fr M' => ∃ d : Nat, d + m = 3 ∧ Pre M M' ∧ Live M' M.length (.row [.I x, .I y, .I z] true 0) ∧ Live M' (M.length + 1) (.row [.I c.a, .I c.b, .I c.c] true 0) ∧
    fr 2 = .ptr M.length 0 ∧ fr 3 = .ptr (M.length + 1) 0 ∧ fr 5 = .W (bs x y z (nbrK c (2 * d))) ∧ fr 10 = .I d) 3
    ⟨0, rfl, Pre.app _ _, Live.new, Live.newj rfl, rfl, rfl, by rw [show bs x y z (nbrK c (2 * 0)) = 0#64 from (bs_zero hS).2 fun e _ => decide_eq_false (by simp)]; rfl, rfl⟩ ?_
  rintro m fr M' ⟨d, hd, hpre, hbox, hcell, f2, f3, f5, f10⟩
  simp (disch := omega) only [f2, f3, f5, f10, ↓SXd, SXu, slBounds, ↓sop, ↓aop, ↓reduceIte, LV.cells, AOp.dst, LV.I, LV.B, LV.U, LV.S, LV.nil, Nat.reduceEqDiff, Nat.reduceAdd, Nat.reduceMul, Nat.reduceSub, Nat.reduceLeDiff, Nat.reduceBEq, Nat.reduceDiv, Nat.reduceMod, Int.reduceToNat, Int.reduceLT, Int.reduceLE, Int.reduceAdd, Int.reduceSub, Int.reduceMul, Int.reduceEq, Int.reduceNeg, reduceCtorEq, resV, resAll, ARes.ev, LV.flat, ite_true, ite_false, exists_eq_left', exists_eq_left, keyOf, implies_true, fillC, capOf]
  refine condC_dec (fun hlt => ?_) (fun hlt => ?_)
  rotate_left
  · simp (disch := omega) only [f2, f3, f5, f10, ↓SXd, SXu, slBounds, ↓sop, ↓aop, ↓reduceIte, LV.cells, AOp.dst, LV.I, LV.B, LV.U, LV.S, LV.nil, Nat.reduceEqDiff, Nat.reduceAdd, Nat.reduceMul, Nat.reduceSub, Nat.reduceLeDiff, Nat.reduceBEq, Nat.reduceDiv, Nat.reduceMod, Int.reduceToNat, Int.reduceLT, Int.reduceLE, Int.reduceAdd, Int.reduceSub, Int.reduceMul, Int.reduceEq, Int.reduceNeg, reduceCtorEq, resV, resAll, ARes.ev, LV.flat, ite_true, ite_false, exists_eq_left', exists_eq_left, keyOf, implies_true, fillC, capOf]
    have : d = 3 := by omega
    subst this
    rw [show bs x y z (nbrK c (2 * 3)) = bs x y z fun d => decide (apart c d = 1) from (bs_eq hS).2 fun e _ => decide_eq_decide.2 (mem_nbrs (c := c) (d := e))]
    exact cmp_pre hpre rfl
  · simp (disch := omega) only [f2, f3, f5, f10, splice, ↓SXd, SXu, slBounds, ↓sop, ↓aop, ↓reduceIte, LV.cells, AOp.dst, LV.I, LV.B, LV.U, LV.S, LV.nil, Nat.reduceEqDiff, Nat.reduceAdd, Nat.reduceMul, Nat.reduceSub, Nat.reduceLeDiff, Nat.reduceBEq, Nat.reduceDiv, Nat.reduceMod, Int.reduceToNat, Int.reduceLT, Int.reduceLE, Int.reduceAdd, Int.reduceSub, Int.reduceMul, Int.reduceEq, Int.reduceNeg, reduceCtorEq, resV, resAll, ARes.ev, LV.flat, ite_true, ite_false, exists_eq_left', exists_eq_left, keyOf, implies_true, fillC, capOf]
    refine ev_loop (fun m2 fr N => ∃ j : Nat, j + m2 = 2 ∧ Pre M N ∧ Live N M.length (.row [.I x, .I y, .I z] true 0) ∧ Live N (M.length + 1) (.row [.I c.a, .I c.b, .I c.c] true 0) ∧
      fr 2 = .ptr M.length 0 ∧ fr 3 = .ptr (M.length + 1) 0 ∧ fr 5 = .W (bs x y z (nbrK c (2 * d + j))) ∧ fr 10 = .I d ∧ fr 6 = .I d ∧ fr 13 = .agg [.I (-1), .I 1] ∧ fr 14 = .I j) 2
      ⟨0, rfl, hpre, hbox, hcell, f2, f3, f5, f10, rfl, rfl, rfl⟩ ?_
    clear f2 f3 f5 f10 hpre hbox hcell
    rintro m2 fr N ⟨j, hj, hpre, hbox, hcell, f2, f3, f5, f10, f6, f13, f14⟩
    simp (disch := omega) only [f2, f3, f5, f10, f6, f13, f14, ↓SXd, SXu, slBounds, ↓sop, ↓aop, ↓reduceIte, LV.cells, AOp.dst, LV.I, LV.B, LV.U, LV.S, LV.nil, Nat.reduceEqDiff, Nat.reduceAdd, Nat.reduceMul, Nat.reduceSub, Nat.reduceLeDiff, Nat.reduceBEq, Nat.reduceDiv, Nat.reduceMod, Int.reduceToNat, Int.reduceLT, Int.reduceLE, Int.reduceAdd, Int.reduceSub, Int.reduceMul, Int.reduceEq, Int.reduceNeg, reduceCtorEq, resV, resAll, ARes.ev, LV.flat, ite_true, ite_false, exists_eq_left', exists_eq_left, keyOf, implies_true, fillC, capOf]
    refine condC_dec (fun hlt2 => ?_) (fun hlt2 => ?_)
    rotate_left
    · simp (disch := omega) only [f2, f3, f5, f10, f6, f13, f14, ↓SXd, SXu, slBounds, ↓sop, ↓aop, ↓reduceIte, LV.cells, AOp.dst, LV.I, LV.B, LV.U, LV.S, LV.nil, Nat.reduceEqDiff, Nat.reduceAdd, Nat.reduceMul, Nat.reduceSub, Nat.reduceLeDiff, Nat.reduceBEq, Nat.reduceDiv, Nat.reduceMod, Int.reduceToNat, Int.reduceLT, Int.reduceLE, Int.reduceAdd, Int.reduceSub, Int.reduceMul, Int.reduceEq, Int.reduceNeg, reduceCtorEq, resV, resAll, ARes.ev, LV.flat, ite_true, ite_false, exists_eq_left', exists_eq_left, keyOf, implies_true, fillC, capOf]
      have : j = 2 := by omega
      subst this
      exact ⟨m - 1, by omega, d + 1, by omega, hpre, hbox, hcell, f2, f3, f5, eqI (natI _)⟩
    · have hd3 : d = 0 ∨ d = 1 ∨ d = 2 := by omega
      have hj2 : j = 0 ∨ j = 1 := by omega
      have hlM := hcell.lt
      have key : ∀ e : Cell, (nbrs c).getD (2 * d + j) default = e → (e.inBox x y z → bs x y z (nbrK c (2 * d + j)) ||| 1#64 <<< (idx y z e).toNat = bs x y z (nbrK c (2 * d + (j + 1)))) ∧ (¬ e.inBox x y z → bs x y z (nbrK c (2 * d + j)) = bs x y z (nbrK c (2 * d + (j + 1)))) := by
        intro e he
        refine ⟨fun hin => ?_, fun hin => ?_⟩
        · rw [bs_one hS hin, bs_or hS]
          exact (bs_eq hS).2 fun f _ => by rw [show 2 * d + (j + 1) = 2 * d + j + 1 by omega, nbrK_step (by omega), he]
        · refine (bs_eq hS).2 fun f hf => ?_
          rw [show 2 * d + (j + 1) = 2 * d + j + 1 by omega, nbrK_step (by omega), he, decide_eq_false (fun h => hin (by rw [← h]; exact hf)), Bool.or_false]
      rcases hd3 with rfl | rfl | rfl <;> rcases hj2 with rfl | rfl
      all_goals
        simp only [Int.natCast_zero, Int.natCast_one, show (((2 : Nat)) : Int) = 2 from rfl] at f6 f10 f14
        obtain ⟨k1, k2⟩ := key _ rfl
        simp only [nbrs, List.getD_cons_zero, List.getD_cons_succ, Nat.reduceMul, Nat.reduceAdd] at k1 k2
        simp (disch := omega) only [f2, f3, f5, f10, f6, f13, f14, hcell.cells, hbox.cells, splice, hbox.app.cells, ↓SXd, SXu, slBounds, ↓sop, ↓aop, ↓reduceIte, LV.cells, AOp.dst, LV.I, LV.B, LV.U, LV.S, LV.nil, Nat.reduceEqDiff, Nat.reduceAdd, Nat.reduceMul, Nat.reduceSub, Nat.reduceLeDiff, Nat.reduceBEq, Nat.reduceDiv, Nat.reduceMod, Int.reduceToNat, Int.reduceLT, Int.reduceLE, Int.reduceAdd, Int.reduceSub, Int.reduceMul, Int.reduceEq, Int.reduceNeg, reduceCtorEq, resV, resAll, ARes.ev, LV.flat, ite_true, ite_false, exists_eq_left', exists_eq_left, keyOf, implies_true, fillC, capOf]
        refine callK_of (g_has hS) ?_
        simp (disch := omega) only [f2, f3, f5, f10, f6, f13, f14, hbox.app.cells, ↓SXd, SXu, slBounds, ↓sop, ↓aop, ↓reduceIte, LV.cells, AOp.dst, LV.I, LV.B, LV.U, LV.S, LV.nil, Nat.reduceEqDiff, Nat.reduceAdd, Nat.reduceMul, Nat.reduceSub, Nat.reduceLeDiff, Nat.reduceBEq, Nat.reduceDiv, Nat.reduceMod, Int.reduceToNat, Int.reduceLT, Int.reduceLE, Int.reduceAdd, Int.reduceSub, Int.reduceMul, Int.reduceEq, Int.reduceNeg, reduceCtorEq, resV, resAll, ARes.ev, LV.flat, ite_true, ite_false, exists_eq_left', exists_eq_left, keyOf, implies_true, fillC, capOf]
        refine condC_dec (fun hin => ?_) (fun hin => ?_)
        · have hix := (idx_in hS hin).1
          simp (disch := omega) only [f2, f3, f5, f10, f6, f13, f14, hbox.app.cells, ↓SXd, SXu, slBounds, ↓sop, ↓aop, ↓reduceIte, LV.cells, AOp.dst, LV.I, LV.B, LV.U, LV.S, LV.nil, Nat.reduceEqDiff, Nat.reduceAdd, Nat.reduceMul, Nat.reduceSub, Nat.reduceLeDiff, Nat.reduceBEq, Nat.reduceDiv, Nat.reduceMod, Int.reduceToNat, Int.reduceLT, Int.reduceLE, Int.reduceAdd, Int.reduceSub, Int.reduceMul, Int.reduceEq, Int.reduceNeg, reduceCtorEq, resV, resAll, ARes.ev, LV.flat, ite_true, ite_false, exists_eq_left', exists_eq_left, keyOf, implies_true, fillC, capOf]
          refine callK_of (g_index hS hin) ?_
          simp (disch := omega) only [f2, f3, f5, f10, f6, f13, f14, ↓SXd, SXu, slBounds, ↓sop, ↓aop, ↓reduceIte, LV.cells, AOp.dst, LV.I, LV.B, LV.U, LV.S, LV.nil, Nat.reduceEqDiff, Nat.reduceAdd, Nat.reduceMul, Nat.reduceSub, Nat.reduceLeDiff, Nat.reduceBEq, Nat.reduceDiv, Nat.reduceMod, Int.reduceToNat, Int.reduceLT, Int.reduceLE, Int.reduceAdd, Int.reduceSub, Int.reduceMul, Int.reduceEq, Int.reduceNeg, reduceCtorEq, resV, resAll, ARes.ev, LV.flat, ite_true, ite_false, exists_eq_left', exists_eq_left, keyOf, implies_true, fillC, capOf]
          rw [k1 hin]
          first
          | exact ⟨m2 - 1, by omega, 1, by omega, hpre.app', hbox.app, hcell.app, f2, f3, rfl, f10, f6, f13, rfl⟩
          | exact ⟨m2 - 1, by omega, 2, by omega, hpre.app', hbox.app, hcell.app, f2, f3, rfl, f10, f6, f13, rfl⟩
        · simp (disch := omega) only [f2, f3, f5, f10, f6, f13, f14, ↓SXd, SXu, slBounds, ↓sop, ↓aop, ↓reduceIte, LV.cells, AOp.dst, LV.I, LV.B, LV.U, LV.S, LV.nil, Nat.reduceEqDiff, Nat.reduceAdd, Nat.reduceMul, Nat.reduceSub, Nat.reduceLeDiff, Nat.reduceBEq, Nat.reduceDiv, Nat.reduceMod, Int.reduceToNat, Int.reduceLT, Int.reduceLE, Int.reduceAdd, Int.reduceSub, Int.reduceMul, Int.reduceEq, Int.reduceNeg, reduceCtorEq, resV, resAll, ARes.ev, LV.flat, ite_true, ite_false, exists_eq_left', exists_eq_left, keyOf, implies_true, fillC, capOf]
          rw [k2 hin] at f5
          first
          | exact ⟨m2 - 1, by omega, 1, by omega, hpre.app', hbox.app, hcell.app, f2, f3, f5, f10, f6, f13, rfl⟩
          | exact ⟨m2 - 1, by omega, 2, by omega, hpre.app', hbox.app, hcell.app, f2, f3, f5, f10, f6, f13, rfl⟩

theorem g_grown {p q : Cell → Bool} {M : Mem} : CallsTo PG F.impl_box_grown [.agg [.I x, .I y, .I z], .W (bs x y z p), .W (bs x y z q)] M (.W (bs x y z (reach x y z p q))) M := by
  have hv := vol_cast hS
  refine calls_run K.impl_box_grown rfl ?_
  simp (disch := omega) only [C.impl_box_grown, ↓SXd, SXu, slBounds, ↓sop, ↓aop, ↓reduceIte, LV.cells, AOp.dst, LV.I, LV.B, LV.U, LV.S, LV.nil, Nat.reduceEqDiff, Nat.reduceAdd, Nat.reduceMul, Nat.reduceSub, Nat.reduceLeDiff, Nat.reduceBEq, Nat.reduceDiv, Nat.reduceMod, Int.reduceToNat, Int.reduceLT, Int.reduceLE, Int.reduceAdd, Int.reduceSub, Int.reduceMul, Int.reduceEq, Int.reduceNeg, reduceCtorEq, resV, resAll, ARes.ev, LV.flat, ite_true, ite_false, exists_eq_left', exists_eq_left, keyOf, implies_true, fillC, capOf]
  refine ev_loop (fun m fr M' => ∃ r : Cell → Bool, rest x y z r = m ∧ (∀ c, c.inBox x y z → p c = true → r c = true) ∧ (∀ c, c.inBox x y z → r c = true → Reach x y z p q c) ∧ Pre M M' ∧ Live M' M.length (.row [.I x, .I y, .I z] true 0) ∧
    fr 1 = .W (bs x y z r) ∧ fr 2 = .W (bs x y z q) ∧ fr 3 = .ptr M.length 0) (rest x y z p)
    ⟨p, rfl, fun _ _ h => h, fun _ h1 h2 => .base h1 h2, Pre.app _ _, Live.new, rfl, rfl, rfl⟩ ?_
  rintro m fr M' ⟨r, hm, hr0, hr1, hpre, hbox, f1, f2, f3⟩
  simp (disch := omega) only [f1, f2, f3, hbox.cells, ↓SXd, SXu, slBounds, ↓sop, ↓aop, ↓reduceIte, LV.cells, AOp.dst, LV.I, LV.B, LV.U, LV.S, LV.nil, Nat.reduceEqDiff, Nat.reduceAdd, Nat.reduceMul, Nat.reduceSub, Nat.reduceLeDiff, Nat.reduceBEq, Nat.reduceDiv, Nat.reduceMod, Int.reduceToNat, Int.reduceLT, Int.reduceLE, Int.reduceAdd, Int.reduceSub, Int.reduceMul, Int.reduceEq, Int.reduceNeg, reduceCtorEq, resV, resAll, ARes.ev, LV.flat, ite_true, ite_false, exists_eq_left', exists_eq_left, keyOf, implies_true, fillC, capOf]
  refine callK_of (g_size hS) ?_
  simp (disch := omega) only [f1, f2, f3, ↓SXd, SXu, slBounds, ↓sop, ↓aop, ↓reduceIte, LV.cells, AOp.dst, LV.I, LV.B, LV.U, LV.S, LV.nil, Nat.reduceEqDiff, Nat.reduceAdd, Nat.reduceMul, Nat.reduceSub, Nat.reduceLeDiff, Nat.reduceBEq, Nat.reduceDiv, Nat.reduceMod, Int.reduceToNat, Int.reduceLT, Int.reduceLE, Int.reduceAdd, Int.reduceSub, Int.reduceMul, Int.reduceEq, Int.reduceNeg, reduceCtorEq, resV, resAll, ARes.ev, LV.flat, ite_true, ite_false, exists_eq_left', exists_eq_left, keyOf, implies_true, fillC, capOf]
  refine ev_loop (fun m2 fr N => ∃ k : Nat, k + m2 = vol x y z ∧ N = M' ∧ fr 1 = .W (bs x y z r) ∧ fr 2 = .W (bs x y z q) ∧ fr 3 = .ptr M.length 0 ∧ fr 7 = .W (bs x y z (growK y z r q k)) ∧ fr 11 = .I ((vol x y z : Nat) : Int) ∧ fr 12 = .I k) (vol x y z)
    ⟨0, by omega, rfl, f1, f2, f3, by rw [growK_zero]; rfl, rfl, rfl⟩ ?_
  clear f1 f2 f3
  rintro m2 fr N ⟨k, hk, rfl, f1, f2, f3, f7, f11, f12⟩
  simp (disch := omega) only [f1, f2, f3, f7, f11, f12, ↓SXd, SXu, slBounds, ↓sop, ↓aop, ↓reduceIte, LV.cells, AOp.dst, LV.I, LV.B, LV.U, LV.S, LV.nil, Nat.reduceEqDiff, Nat.reduceAdd, Nat.reduceMul, Nat.reduceSub, Nat.reduceLeDiff, Nat.reduceBEq, Nat.reduceDiv, Nat.reduceMod, Int.reduceToNat, Int.reduceLT, Int.reduceLE, Int.reduceAdd, Int.reduceSub, Int.reduceMul, Int.reduceEq, Int.reduceNeg, reduceCtorEq, resV, resAll, ARes.ev, LV.flat, ite_true, ite_false, exists_eq_left', exists_eq_left, keyOf, implies_true, fillC, capOf]
  refine condC_dec (fun hlt => ?_) (fun hlt => ?_)
  · simp (disch := omega) only [f1, f2, f3, f7, f11, f12, ↓SXd, SXu, slBounds, ↓sop, ↓aop, ↓reduceIte, LV.cells, AOp.dst, LV.I, LV.B, LV.U, LV.S, LV.nil, Nat.reduceEqDiff, Nat.reduceAdd, Nat.reduceMul, Nat.reduceSub, Nat.reduceLeDiff, Nat.reduceBEq, Nat.reduceDiv, Nat.reduceMod, Int.reduceToNat, Int.reduceLT, Int.reduceLE, Int.reduceAdd, Int.reduceSub, Int.reduceMul, Int.reduceEq, Int.reduceNeg, reduceCtorEq, resV, resAll, ARes.ev, LV.flat, ite_true, ite_false, exists_eq_left', exists_eq_left, keyOf, implies_true, fillC, capOf]
    refine callK_of (g_has_set (by omega)) ?_
    simp (disch := omega) only [f1, f2, f3, f7, f11, f12, ↓SXd, SXu, slBounds, ↓sop, ↓aop, ↓reduceIte, LV.cells, AOp.dst, LV.I, LV.B, LV.U, LV.S, LV.nil, Nat.reduceEqDiff, Nat.reduceAdd, Nat.reduceMul, Nat.reduceSub, Nat.reduceLeDiff, Nat.reduceBEq, Nat.reduceDiv, Nat.reduceMod, Int.reduceToNat, Int.reduceLT, Int.reduceLE, Int.reduceAdd, Int.reduceSub, Int.reduceMul, Int.reduceEq, Int.reduceNeg, reduceCtorEq, resV, resAll, ARes.ev, LV.flat, ite_true, ite_false, exists_eq_left', exists_eq_left, keyOf, implies_true, fillC, capOf]
    have hbit := bs_bit hS r k
    rw [decide_eq_true (show k < vol x y z by omega), Bool.true_and] at hbit
    rw [hbit]
    by_cases hp : r (cellAt y z k) = true
    · simp (disch := omega) only [f1, f2, f3, f7, f11, f12, hp, hbox.cells, ↓SXd, SXu, slBounds, ↓sop, ↓aop, ↓reduceIte, LV.cells, AOp.dst, LV.I, LV.B, LV.U, LV.S, LV.nil, Nat.reduceEqDiff, Nat.reduceAdd, Nat.reduceMul, Nat.reduceSub, Nat.reduceLeDiff, Nat.reduceBEq, Nat.reduceDiv, Nat.reduceMod, Int.reduceToNat, Int.reduceLT, Int.reduceLE, Int.reduceAdd, Int.reduceSub, Int.reduceMul, Int.reduceEq, Int.reduceNeg, reduceCtorEq, resV, resAll, ARes.ev, LV.flat, ite_true, ite_false, exists_eq_left', exists_eq_left, keyOf, implies_true, fillC, capOf]
      refine callK_of (g_cell hS (by omega) (by omega)) ?_
      simp (disch := omega) only [f1, f2, f3, f7, f11, f12, ↓SXd, SXu, slBounds, ↓sop, ↓aop, ↓reduceIte, LV.cells, AOp.dst, LV.I, LV.B, LV.U, LV.S, LV.nil, Nat.reduceEqDiff, Nat.reduceAdd, Nat.reduceMul, Nat.reduceSub, Nat.reduceLeDiff, Nat.reduceBEq, Nat.reduceDiv, Nat.reduceMod, Int.reduceToNat, Int.reduceLT, Int.reduceLE, Int.reduceAdd, Int.reduceSub, Int.reduceMul, Int.reduceEq, Int.reduceNeg, reduceCtorEq, resV, resAll, ARes.ev, LV.flat, ite_true, ite_false, exists_eq_left', exists_eq_left, keyOf, implies_true, fillC, capOf]
      refine callK_of (g_nearSet hS (c := cellAt y z k) (cellAt_in hS (by omega) (by omega)).1) ?_
      simp (disch := omega) only [f1, f2, f3, f7, f11, f12, ↓SXd, SXu, slBounds, ↓sop, ↓aop, ↓reduceIte, LV.cells, AOp.dst, LV.I, LV.B, LV.U, LV.S, LV.nil, Nat.reduceEqDiff, Nat.reduceAdd, Nat.reduceMul, Nat.reduceSub, Nat.reduceLeDiff, Nat.reduceBEq, Nat.reduceDiv, Nat.reduceMod, Int.reduceToNat, Int.reduceLT, Int.reduceLE, Int.reduceAdd, Int.reduceSub, Int.reduceMul, Int.reduceEq, Int.reduceNeg, reduceCtorEq, resV, resAll, ARes.ev, LV.flat, ite_true, ite_false, exists_eq_left', exists_eq_left, keyOf, implies_true, fillC, capOf]
      rw [bs_and hS, bs_or hS]
      exact ⟨m2 - 1, by omega, k + 1, by omega, rfl, f1, f2, f3, by rw [show bs x y z (growK y z r q (k + 1)) = _ from (bs_eq hS).2 fun c _ => growK_succ c]; simp only [hp, if_true]; rfl, f11, eqI (natI _)⟩
    · have hp' : r (cellAt y z k) = false := by simpa using hp
      simp (disch := omega) only [f1, f2, f3, f7, f11, f12, hp', ↓SXd, SXu, slBounds, ↓sop, ↓aop, ↓reduceIte, LV.cells, AOp.dst, LV.I, LV.B, LV.U, LV.S, LV.nil, Nat.reduceEqDiff, Nat.reduceAdd, Nat.reduceMul, Nat.reduceSub, Nat.reduceLeDiff, Nat.reduceBEq, Nat.reduceDiv, Nat.reduceMod, Int.reduceToNat, Int.reduceLT, Int.reduceLE, Int.reduceAdd, Int.reduceSub, Int.reduceMul, Int.reduceEq, Int.reduceNeg, reduceCtorEq, resV, resAll, ARes.ev, LV.flat, ite_true, ite_false, exists_eq_left', exists_eq_left, keyOf, implies_true, fillC, capOf]
      exact ⟨m2 - 1, by omega, k + 1, by omega, rfl, f1, f2, f3, by rw [show bs x y z (growK y z r q (k + 1)) = bs x y z (growK y z r q k) from (bs_eq hS).2 fun c _ => by rw [growK_succ c, hp', if_neg (by simp)]]; exact f7, f11, eqI (natI _)⟩
  · simp (disch := omega) only [f1, f2, f3, f7, f11, f12, ↓SXd, SXu, slBounds, ↓sop, ↓aop, ↓reduceIte, LV.cells, AOp.dst, LV.I, LV.B, LV.U, LV.S, LV.nil, Nat.reduceEqDiff, Nat.reduceAdd, Nat.reduceMul, Nat.reduceSub, Nat.reduceLeDiff, Nat.reduceBEq, Nat.reduceDiv, Nat.reduceMod, Int.reduceToNat, Int.reduceLT, Int.reduceLE, Int.reduceAdd, Int.reduceSub, Int.reduceMul, Int.reduceEq, Int.reduceNeg, reduceCtorEq, resV, resAll, ARes.ev, LV.flat, ite_true, ite_false, exists_eq_left', exists_eq_left, keyOf, implies_true, fillC, capOf]
    have : k = vol x y z := by omega
    subst this
    refine condC_dec (fun he => ?_) (fun he => ?_)
    · simp (disch := omega) only [f1, f2, f3, f7, f11, f12, ↓SXd, SXu, slBounds, ↓sop, ↓aop, ↓reduceIte, LV.cells, AOp.dst, LV.I, LV.B, LV.U, LV.S, LV.nil, Nat.reduceEqDiff, Nat.reduceAdd, Nat.reduceMul, Nat.reduceSub, Nat.reduceLeDiff, Nat.reduceBEq, Nat.reduceDiv, Nat.reduceMod, Int.reduceToNat, Int.reduceLT, Int.reduceLE, Int.reduceAdd, Int.reduceSub, Int.reduceMul, Int.reduceEq, Int.reduceNeg, reduceCtorEq, resV, resAll, ARes.ev, LV.flat, ite_true, ite_false, exists_eq_left', exists_eq_left, keyOf, implies_true, fillC, capOf]
      rw [show bs x y z (reach x y z p q) = bs x y z r from (bs_eq hS).2 fun c hc => (reach_of_fix hS hr0 hr1 ((bs_eq hS).1 he) c hc).symm]
      exact cmp_pre hpre rfl
    · simp (disch := omega) only [f1, f2, f3, f7, f11, f12, ↓SXd, SXu, slBounds, ↓sop, ↓aop, ↓reduceIte, LV.cells, AOp.dst, LV.I, LV.B, LV.U, LV.S, LV.nil, Nat.reduceEqDiff, Nat.reduceAdd, Nat.reduceMul, Nat.reduceSub, Nat.reduceLeDiff, Nat.reduceBEq, Nat.reduceDiv, Nat.reduceMod, Int.reduceToNat, Int.reduceLT, Int.reduceLE, Int.reduceAdd, Int.reduceSub, Int.reduceMul, Int.reduceEq, Int.reduceNeg, reduceCtorEq, resV, resAll, ARes.ev, LV.flat, ite_true, ite_false, exists_eq_left', exists_eq_left, keyOf, implies_true, fillC, capOf]
      refine ⟨rest x y z (growK y z r q (vol x y z)), ?_, growK y z r q (vol x y z), rfl, fun c hc h => (grow_iff hS).2 (.inl (hr0 c hc h)), fun c hc h => ?_, hpre, hbox, rfl, f2, f3⟩
      · rw [← hm]
        refine rest_lt hS (fun c hc h => (grow_iff hS).2 (.inl h)) ?_
        apply Classical.byContradiction
        intro hno
        apply he
        refine (bs_eq hS).2 fun c hc => ?_
        cases h1 : r c with
        | true => exact (grow_iff hS).2 (.inl h1)
        | false =>
          cases h2 : growK y z r q (vol x y z) c with
          | false => rfl
          | true => exact absurd ⟨c, hc, h1, h2⟩ hno
      · rcases (grow_iff hS).1 h with h | ⟨h1, d, h2, h3, h4⟩
        · exact hr1 c hc h
        · exact .step (hr1 d h2 h3) h4 hc h1
end
end Go.Ab

/- Contracts: counts of sets. -/
namespace Go.Ab
open Go
set_option linter.unusedSimpArgs false
set_option linter.unusedVariables false

theorem w_add {s u : BitVec 64} : binV .add (.val (.int .u64 ((s.toNat : Nat) : Int))) (.val (.int .u64 ((u.toNat : Nat) : Int))) = some (.val (.int .u64 (((s + u).toNat : Nat) : Int)), True) := by
  rw [bv_add, IntKind.wrap_u64, BitVec.toNat_add]
  congr 4
theorem w_andc {s : BitVec 64} {c : Nat} (hc : c < 18446744073709551616) : binV .and (.val (.int .u64 ((s.toNat : Nat) : Int))) (.val (.int .u64 (c : Int))) = some (.val (.int .u64 (((s &&& BitVec.ofNat 64 c).toNat : Nat) : Int)), True) := by
  have h := w_and (s := s) (u := BitVec.ofNat 64 c)
  rw [BitVec.toNat_ofNat, Nat.mod_eq_of_lt hc] at h; exact h
theorem w_m1 {s : BitVec 64} : binV .and (.val (.int .u64 ((s.toNat : Nat) : Int))) (.val (.int .u64 6148914691236517205)) = some (.val (.int .u64 (((s &&& 6148914691236517205#64).toNat : Nat) : Int)), True) := w_andc (c := 6148914691236517205) (by decide)
theorem w_m2 {s : BitVec 64} : binV .and (.val (.int .u64 ((s.toNat : Nat) : Int))) (.val (.int .u64 3689348814741910323)) = some (.val (.int .u64 (((s &&& 3689348814741910323#64).toNat : Nat) : Int)), True) := w_andc (c := 3689348814741910323) (by decide)
theorem w_m3 {s : BitVec 64} : binV .and (.val (.int .u64 ((s.toNat : Nat) : Int))) (.val (.int .u64 1085102592571150095)) = some (.val (.int .u64 (((s &&& 1085102592571150095#64).toNat : Nat) : Int)), True) := w_andc (c := 1085102592571150095) (by decide)

theorem conv_and {x : BitVec 64} : IntKind.i64.wrap (((BitVec.ofInt 64 (IntKind.i64.wrap ((x.toNat : Nat) : Int)) &&& BitVec.ofInt 64 127).toNat : Nat) : Int) = (((x &&& 127#64).toNat : Nat) : Int) := by
  have h1 : BitVec.ofInt 64 (IntKind.i64.wrap ((x.toNat : Nat) : Int)) = x := by
    apply BitVec.eq_of_toNat_eq
    have := x.isLt
    rw [BitVec.toNat_ofInt, IntKind.wrap_i64]
    omega
  have h2 : BitVec.ofInt 64 127 = 127#64 := rfl
  rw [h1, h2, IntKind.wrap_i64]
  have h3 : (x &&& 127#64).toNat ≤ 127 := by
    rw [BitVec.toNat_and]; exact Nat.and_le_right
  omega
theorem swar_le {s : BitVec 64} : (swar s).toNat ≤ 127 := by
  unfold swar
  rw [BitVec.toNat_and]; exact Nat.and_le_right

theorem g_OnesCount64 {s : BitVec 64} {M : Mem} : CallsTo PG F.math_bits_OnesCount64 [.W s] M (.I (((swar s).toNat : Nat) : Int)) M := by
  refine calls_run K.math_bits_OnesCount64 rfl ?_
  simp (disch := omega) only [C.math_bits_OnesCount64, w_shr, w_m1, w_m2, w_m3, w_add, ↓SXd, SXu, slBounds, ↓sop, ↓aop, ↓reduceIte, LV.cells, AOp.dst, LV.I, LV.B, LV.U, LV.S, LV.nil, Nat.reduceEqDiff, Nat.reduceAdd, Nat.reduceMul, Nat.reduceSub, Nat.reduceLeDiff, Nat.reduceBEq, Nat.reduceDiv, Nat.reduceMod, Int.reduceToNat, Int.reduceLT, Int.reduceLE, Int.reduceAdd, Int.reduceSub, Int.reduceMul, Int.reduceEq, Int.reduceNeg, reduceCtorEq, resV, resAll, ARes.ev, LV.flat, ite_true, ite_false, exists_eq_left', exists_eq_left, keyOf, implies_true, fillC, capOf]
  rw [conv_and]
  exact cmp_pre (Pre.refl _) rfl
theorem g_count {s : BitVec 64} {M : Mem} : CallsTo PG F.impl_set_count [.W s] M (.I (((swar s).toNat : Nat) : Int)) M := by
  refine calls_run K.impl_set_count rfl ?_
  simp (disch := omega) only [C.impl_set_count, ↓SXd, SXu, slBounds, ↓sop, ↓aop, ↓reduceIte, LV.cells, AOp.dst, LV.I, LV.B, LV.U, LV.S, LV.nil, Nat.reduceEqDiff, Nat.reduceAdd, Nat.reduceMul, Nat.reduceSub, Nat.reduceLeDiff, Nat.reduceBEq, Nat.reduceDiv, Nat.reduceMod, Int.reduceToNat, Int.reduceLT, Int.reduceLE, Int.reduceAdd, Int.reduceSub, Int.reduceMul, Int.reduceEq, Int.reduceNeg, reduceCtorEq, resV, resAll, ARes.ev, LV.flat, ite_true, ite_false, exists_eq_left', exists_eq_left, keyOf, implies_true, fillC, capOf]
  refine callK_of (g_OnesCount64) ?_
  simp (disch := omega) only [↓SXd, SXu, slBounds, ↓sop, ↓aop, ↓reduceIte, LV.cells, AOp.dst, LV.I, LV.B, LV.U, LV.S, LV.nil, Nat.reduceEqDiff, Nat.reduceAdd, Nat.reduceMul, Nat.reduceSub, Nat.reduceLeDiff, Nat.reduceBEq, Nat.reduceDiv, Nat.reduceMod, Int.reduceToNat, Int.reduceLT, Int.reduceLE, Int.reduceAdd, Int.reduceSub, Int.reduceMul, Int.reduceEq, Int.reduceNeg, reduceCtorEq, resV, resAll, ARes.ev, LV.flat, ite_true, ite_false, exists_eq_left', exists_eq_left, keyOf, implies_true, fillC, capOf]
  exact cmp_pre (Pre.refl _) rfl

theorem onRim_iff {x y z : Int} {c : Cell} (hc : c.inBox x y z) : onRim x y z c = true ↔ ∃ d : Cell, apart c d = 1 ∧ ¬ d.inBox x y z := by
  obtain ⟨⟨h1, h2⟩, ⟨h3, h4⟩, ⟨h5, h6⟩⟩ := hc
  unfold onRim
  rw [decide_eq_true_iff]
  constructor
  · rintro (h | h | h | h | h | h)
    · exact ⟨⟨c.a - 1, c.b, c.c⟩, by unfold apart; simp only; omega, fun k => by have := k.1.1; simp only at this; omega⟩
    · exact ⟨⟨c.a, c.b - 1, c.c⟩, by unfold apart; simp only; omega, fun k => by have := k.2.1.1; simp only at this; omega⟩
    · exact ⟨⟨c.a, c.b, c.c - 1⟩, by unfold apart; simp only; omega, fun k => by have := k.2.2.1; simp only at this; omega⟩
    · exact ⟨⟨c.a + 1, c.b, c.c⟩, by unfold apart; simp only; omega, fun k => by have := k.1.2; simp only at this; omega⟩
    · exact ⟨⟨c.a, c.b + 1, c.c⟩, by unfold apart; simp only; omega, fun k => by have := k.2.1.2; simp only at this; omega⟩
    · exact ⟨⟨c.a, c.b, c.c + 1⟩, by unfold apart; simp only; omega, fun k => by have := k.2.2.2; simp only at this; omega⟩
  · rintro ⟨d, hd, hk⟩
    apply Classical.byContradiction
    intro hno
    refine hk ⟨⟨?_, ?_⟩, ⟨?_, ?_⟩, ⟨?_, ?_⟩⟩ <;> (unfold apart at hd; omega)

theorem rim_count {x y z : Int} (hS : Sides x y z) {c : Cell} (hc : c.inBox x y z) : decide ((((swar (bs x y z fun d => decide (apart c d = 1))).toNat : Nat) : Int) < 6) = onRim x y z c := by
  obtain ⟨⟨_, _⟩, ⟨_, _⟩, ⟨_, _⟩⟩ := id hS
  obtain ⟨k1, k2, k3⟩ := idx_in hS hc
  obtain ⟨X, hX, hX4⟩ : ∃ X : Nat, x = ((X + 1 : Nat) : Int) ∧ X < 4 := ⟨(x - 1).toNat, by omega, by omega⟩
  obtain ⟨Y, hY, hY4⟩ : ∃ Y : Nat, y = ((Y + 1 : Nat) : Int) ∧ Y < 4 := ⟨(y - 1).toNat, by omega, by omega⟩
  obtain ⟨Z, hZ, hZ4⟩ : ∃ Z : Nat, z = ((Z + 1 : Nat) : Int) ∧ Z < 4 := ⟨(z - 1).toNat, by omega, by omega⟩
  obtain ⟨i, hi⟩ : ∃ i : Nat, idx y z c = i := ⟨(idx y z c).toNat, by omega⟩
  have hv : i < (X + 1) * (Y + 1) * (Z + 1) := by
    have h : (i : Int) < ((X + 1 : Nat) : Int) * ((Y + 1 : Nat) : Int) * ((Z + 1 : Nat) : Int) := by rw [← hX, ← hY, ← hZ, ← hi]; exact k2
    rw [← Int.natCast_mul, ← Int.natCast_mul] at h
    omega
  have := rim_small X hX4 Y hY4 Z hZ4 i hv
  rw [← hX, ← hY, ← hZ, ← hi, k3] at this
  rw [← this]
  exact decide_eq_decide.2 (by omega)
end Go.Ab

/- The abstract code of some functions (written by a program of mine from the translation, by way of prepF). -/
namespace Go.Ab.C
open Go.Ab
def spec_l2Parts : AFn :=
  ⟨1, 77, [.tmp 2],
    .seq (.ops [(none, .box 1 (.t 0)),
       (none, .mv 2 (.c .nil))])
    (.seq (.ops [(none, .buildSl 10 0 1 [] []),
        (none, .loadN 11 4 (.t 1)),
        (none, .call (some 12) F.spec_l2Own [(.t 11)]),
        (none, .alloc 4 [(.I 0), (.I 0), (.I 0), .nil]),
        (none, .mv 3 (.t 10)),
        (none, .store 4 (.t 4) (.t 12))])
     (.seq (.block 0 (.loop (.seq (.seq (.ops [(none, .fieldAddr 13 (.t 4) 3),
             (none, .load1 14 (.t 13)),
             (none, .len 15 (.t 14)),
             (none, .bin 16 .gtr (.t 15) (.c (.I 0)))])
          (.cond (.t 16) (.skip)
           (.exit 0)))
         (.block 1 (.seq (.draw [⟨(none, .fieldAddr 17 (.t 1) 0), [], []⟩,
              ⟨(none, .load1 18 (.t 17)), [], []⟩,
              ⟨(none, .fieldAddr 19 (.t 1) 1), [], []⟩,
              ⟨(none, .load1 20 (.t 19)), [], []⟩,
              ⟨(none, .fieldAddr 21 (.t 1) 2), [], []⟩,
              ⟨(none, .load1 22 (.t 21)), [], []⟩,
              ⟨(none, .fieldAddr 24 (.t 4) 3), [], []⟩,
              ⟨(none, .load1 25 (.t 24)), [], []⟩,
              ⟨(none, .idxS 26 3 (.t 25) (.c (.I 0))), [], []⟩,
              ⟨(none, .loadN 27 3 (.t 26)), [], []⟩,
              ⟨(none, .buildSl 28 1 3 [(.I 0), (.I 0), (.I 0)] [(0, 3, (.t 27))]), [], []⟩,
              ⟨(none, .alloc 5 [(.I 0), (.I 0), (.I 0), .nil]), [], []⟩,
              ⟨(none, .call (some 23) F.spec_l2Empty [(.t 18), (.t 20), (.t 22)]), [10, 11], [6, 7, 8, 9]⟩,
              ⟨(none, .store 4 (.t 5) (.t 23)), [10], [6, 7, 8, 9]⟩,
              ⟨(none, .mv 6 (.t 28)), [], []⟩])
           (.seq (.draw [⟨(none, .loadN 29 4 (.t 4)), [], []⟩,
               ⟨(none, .mv 30 (.t 6)), [], []⟩,
               ⟨(none, .idxS 31 3 (.t 30) (.c (.I 0))), [], []⟩,
               ⟨(none, .loadN 32 3 (.t 31)), [], []⟩,
               ⟨(none, .call (some 33) F.spec_l2Without [(.t 29), (.t 32)]), [], []⟩,
               ⟨(none, .store 4 (.t 4) (.t 33)), [], []⟩])
            (.seq (.seq (.ops [(none, .mv 7 (.c (.I 0)))])
              (.block 2 (.loop (.seq (.seq (.ops [(none, .mv 34 (.t 7)),
                     (none, .mv 35 (.t 6)),
                     (none, .len 36 (.t 35)),
                     (none, .bin 37 .lss (.t 34) (.t 36))])
                  (.cond (.t 37) (.skip)
                   (.exit 2)))
                 (.seq (.block 3 (.seq (.draw [⟨(none, .loadN 40 4 (.t 5)), [], []⟩,
                       ⟨(none, .mv 41 (.t 6)), [], []⟩,
                       ⟨(none, .mv 42 (.t 7)), [], []⟩,
                       ⟨(none, .idxS 43 3 (.t 41) (.t 42)), [], []⟩,
                       ⟨(none, .loadN 44 3 (.t 43)), [], []⟩,
                       ⟨(none, .call (some 45) F.spec_l2With [(.t 40), (.t 44)]), [], []⟩,
                       ⟨(none, .store 4 (.t 5) (.t 45)), [], []⟩])
                    (.seq (.draw [⟨(none, .loadN 46 4 (.t 4)), [], []⟩,
                        ⟨(none, .mv 47 (.t 6)), [], []⟩,
                        ⟨(none, .mv 48 (.t 7)), [], []⟩,
                        ⟨(none, .idxS 49 3 (.t 47) (.t 48)), [], []⟩,
                        ⟨(none, .loadN 50 3 (.t 49)), [], []⟩,
                        ⟨(none, .call (some 51) F.spec_l2Near [(.t 46), (.t 50)]), [], []⟩,
                        ⟨(none, .mv 8 (.t 51)), [], []⟩])
                     (.seq (.ops [(none, .mv 9 (.c (.I 0)))])
                      (.block 4 (.loop (.seq (.seq (.ops [(none, .mv 52 (.t 9)),
                             (none, .mv 53 (.t 8)),
                             (none, .len 54 (.t 53)),
                             (none, .bin 55 .lss (.t 52) (.t 54))])
                          (.cond (.t 55) (.skip)
                           (.exit 4)))
                         (.seq (.block 5 (.seq (.ops [(none, .mv 58 (.t 6)),
                               (none, .mv 59 (.t 8)),
                               (none, .mv 60 (.t 9)),
                               (none, .idxS 61 3 (.t 59) (.t 60)),
                               (none, .loadN 62 3 (.t 61)),
                               (none, .buildSl 63 1 3 [(.I 0), (.I 0), (.I 0)] [(0, 3, (.t 62))]),
                               (none, .append 64 3 24 (.t 58) (.t 63)),
                               (none, .mv 6 (.t 64))])
                            (.draw [⟨(none, .loadN 65 4 (.t 4)), [], []⟩,
                               ⟨(none, .mv 66 (.t 8)), [], []⟩,
                               ⟨(none, .mv 67 (.t 9)), [], []⟩,
                               ⟨(none, .idxS 68 3 (.t 66) (.t 67)), [], []⟩,
                               ⟨(none, .loadN 69 3 (.t 68)), [], []⟩,
                               ⟨(none, .call (some 70) F.spec_l2Without [(.t 65), (.t 69)]), [], []⟩,
                               ⟨(none, .store 4 (.t 4) (.t 70)), [], []⟩])))
                          (.ops [(none, .mv 56 (.t 9)),
                             (none, .bin 57 .add (.t 56) (.c (.I 1))),
                             (none, .mv 9 (.t 57))])))))))))
                  (.ops [(none, .mv 38 (.t 7)),
                     (none, .bin 39 .add (.t 38) (.c (.I 1))),
                     (none, .mv 7 (.t 39))]))))))
             (.ops [(none, .mv 71 (.t 3)),
                (none, .fieldAddr 72 (.t 5) 3),
                (none, .load1 73 (.t 72)),
                (none, .buildSl 74 1 1 [.nil] [(0, 1, (.t 73))]),
                (none, .append 75 1 24 (.t 71) (.t 74)),
                (none, .mv 3 (.t 75))]))))))))
      (.seq (.ops [(none, .mv 76 (.t 3)),
          (none, .mv 2 (.t 76))])
       (.ret))))⟩
end Go.Ab.C

/- That the program has this code. -/
namespace Go.Ab.K
open Go Go.Ab
theorem spec_l2Parts : prepF Go.Proofs.Try.prog F.spec_l2Parts = some C.spec_l2Parts := by kernel_rfl
end Go.Ab.K

/- The abstract code of some functions (written by a program of mine from the translation, by way of prepF). -/
namespace Go.Ab.C
open Go.Ab
def spec_l2Own : AFn :=
  ⟨1, 9, [.cellN 2 4],
    .seq (.ops [(none, .box 1 (.t 0)),
       (none, .alloc 2 [(.I 0), (.I 0), (.I 0), .nil])])
    (.seq (.draw [⟨(none, .loadN 3 4 (.t 1)), [], []⟩,
        ⟨(none, .fieldAddr 5 (.t 1) 3), [], []⟩,
        ⟨(none, .load1 6 (.t 5)), [], []⟩,
        ⟨(none, .buildSl 4 0 3 [] []), [], []⟩,
        ⟨(none, .append 7 3 24 (.t 4) (.t 6)), [], [0]⟩,
        ⟨(none, .call (some 8) F.spec_l2Made [(.t 3), (.t 7)]), [], []⟩,
        ⟨(none, .store 4 (.t 2) (.t 8)), [], []⟩])
     (.ret))⟩
def spec_l2With : AFn :=
  ⟨2, 54, [.cellN 4 4],
    .seq (.ops [(none, .box 2 (.t 0)),
       (none, .box 3 (.t 1)),
       (none, .alloc 4 [(.I 0), (.I 0), (.I 0), .nil])])
    (.seq (.ops [(none, .mv 5 (.c (.I 0)))])
     (.seq (.block 0 (.loop (.seq (.seq (.draw [⟨(none, .mv 6 (.t 5)), [], []⟩,
             ⟨(none, .fieldAddr 7 (.t 2) 3), [], []⟩,
             ⟨(none, .load1 8 (.t 7)), [], []⟩,
             ⟨(none, .len 9 (.t 8)), [], []⟩,
             ⟨(none, .bin 10 .lss (.t 6) (.t 9)), [], []⟩,
             ⟨(none, .mv 11 (.t 10)), [], []⟩,
             ⟨(some (11, true), .fieldAddr 12 (.t 2) 3), [], []⟩,
             ⟨(some (11, true), .load1 13 (.t 12)), [], []⟩,
             ⟨(some (11, true), .mv 14 (.t 5)), [], []⟩,
             ⟨(some (11, true), .idxS 15 3 (.t 13) (.t 14)), [], []⟩,
             ⟨(some (11, true), .loadN 16 3 (.t 15)), [], []⟩,
             ⟨(some (11, true), .loadN 17 3 (.t 3)), [], []⟩,
             ⟨(some (11, true), .call (some 18) F.spec_l2Before [(.t 16), (.t 17)]), [], []⟩,
             ⟨(none, .pick 19 (.t 11) (.t 18) (.c (.B false))), [], []⟩])
          (.cond (.t 19) (.skip)
           (.exit 0)))
         (.block 1 (.ops [(none, .mv 20 (.t 5)),
             (none, .bin 21 .add (.t 20) (.c (.I 1))),
             (none, .mv 5 (.t 21))])))))
      (.seq (.seq (.draw [⟨(none, .mv 22 (.t 5)), [], []⟩,
           ⟨(none, .fieldAddr 23 (.t 2) 3), [], []⟩,
           ⟨(none, .load1 24 (.t 23)), [], []⟩,
           ⟨(none, .len 25 (.t 24)), [], []⟩,
           ⟨(none, .bin 26 .lss (.t 22) (.t 25)), [], []⟩,
           ⟨(none, .mv 27 (.t 26)), [], []⟩,
           ⟨(some (27, true), .fieldAddr 28 (.t 2) 3), [], []⟩,
           ⟨(some (27, true), .load1 29 (.t 28)), [], []⟩,
           ⟨(some (27, true), .mv 30 (.t 5)), [], []⟩,
           ⟨(some (27, true), .idxS 31 3 (.t 29) (.t 30)), [], []⟩,
           ⟨(some (27, true), .loadN 32 3 (.t 31)), [], []⟩,
           ⟨(some (27, true), .loadN 33 3 (.t 3)), [], []⟩,
           ⟨(some (27, true), .eqs 34 false 3 (.t 32) (.t 33)), [], []⟩,
           ⟨(none, .pick 35 (.t 27) (.t 34) (.c (.B false))), [], []⟩])
        (.cond (.t 35) (.seq (.ops [(none, .loadN 36 4 (.t 2)),
             (none, .call (some 37) F.spec_l2Own [(.t 36)]),
             (none, .store 4 (.t 4) (.t 37))])
          (.ret))
         (.skip)))
       (.seq (.draw [⟨(none, .loadN 38 4 (.t 2)), [], []⟩,
           ⟨(none, .fieldAddr 40 (.t 2) 3), [], []⟩,
           ⟨(none, .load1 41 (.t 40)), [], []⟩,
           ⟨(none, .mv 42 (.t 5)), [], []⟩,
           ⟨(none, .slS 43 3 (.t 41) none (some (.t 42))), [], []⟩,
           ⟨(none, .loadN 45 3 (.t 3)), [], []⟩,
           ⟨(none, .fieldAddr 48 (.t 2) 3), [], []⟩,
           ⟨(none, .load1 49 (.t 48)), [], []⟩,
           ⟨(none, .mv 50 (.t 5)), [], []⟩,
           ⟨(none, .slS 51 3 (.t 49) (some (.t 50)) none), [], []⟩,
           ⟨(none, .buildSl 39 0 3 [] []), [], []⟩,
           ⟨(none, .buildSl 46 1 3 [(.I 0), (.I 0), (.I 0)] [(0, 3, (.t 45))]), [], []⟩,
           ⟨(none, .append 44 3 24 (.t 39) (.t 43)), [11], [0, 5, 6, 7, 8, 9]⟩,
           ⟨(none, .append 47 3 24 (.t 44) (.t 46)), [], [0, 6, 7, 8, 9]⟩,
           ⟨(none, .append 52 3 24 (.t 47) (.t 51)), [], [0]⟩,
           ⟨(none, .call (some 53) F.spec_l2Made [(.t 38), (.t 52)]), [], []⟩,
           ⟨(none, .store 4 (.t 4) (.t 53)), [], []⟩])
        (.ret)))))⟩
end Go.Ab.C

/- That the program has this code. -/
namespace Go.Ab.K
open Go Go.Ab
theorem spec_l2Own : prepF Go.Proofs.Try.prog F.spec_l2Own = some C.spec_l2Own := by kernel_rfl
theorem spec_l2With : prepF Go.Proofs.Try.prog F.spec_l2With = some C.spec_l2With := by kernel_rfl
end Go.Ab.K
